import Derived.Test.YthgbipgfplokeaaS18
import Derived.Deep.RegionHeld3
namespace Go.Proofs.Ythgbipgfplokeaa.GA
open Go.RowKit Go.Proofs.YthgbipgfplokeaaW.PrintWords Go.Proofs.YthgbipgfplokeaaW.PrintLast Go.Proofs.YthgbipgfplokeaaW.PrintMore
set_option linter.unusedVariables false
set_option linter.unusedSimpArgs false

theorem alloc47_make (W : World) : (Instr.alloc 47 true (.tuple #[])).run Try.prog W = .ok (.pointer (some ⟨W.heap.size, 0, none⟩)) (W.alloc (.cells (bcells (zero64 ++ zero64)) 47)) := by kernel_rfl
theorem alloc47_run {o : Oper} {a : Act} (ho : o.op = .alloc 47) (W : World) : (execOp a.eval o).run Try.prog W = .ok (.value (.pointer (some ⟨W.heap.size, 0, none⟩))) (W.alloc (.cells (bcells (zero64 ++ zero64)) 47 (0, 0))) := by
  unfold execOp
  simp only [ho, Sem.run_bind, alloc47_make, Result.andThen_ok, Sem.run_pure]
set_option maxHeartbeats 16000000 in
set_option maxRecDepth 100000 in
theorem sealNext.callsA1 (k : Nat) (n m : Int) (A : Option Addr) (ca : Nat) (a : List Int) (B : Option Addr) (cb : Nat) (b : List Int) (C : Option Addr) (cc : Nat) (c : List Int) (p : Int) (N M T : Int) (w : World) (ha : Kd.C (Kd.int .u8) w A a.length a) (hca : a.length ≤ ca) (hb : Kd.C (Kd.int .u8) w B b.length b) (hcb : b.length ≤ cb) (hc : Kd.C (Kd.int .u8) w C c.length c) (hcc : c.length ≤ cc)
    (hN : IntKind.u64.wrap (Int.tmod n 1152921504606846976 + 1) = N) (hM : IntKind.u64.wrap (Int.tmod m 1152921504606846976 + 1) = M) (hT : IntKind.u64.wrap (max N M + 1) = T)
    (X0 X1 X2 : List Int) (l0 : X0.length = 64) (l1 : X1.length = 64) (l2 : X2.length = 64) (e1 e2 e3 : Int) (f1 : seal_Put.f k N a = some (X0, e1)) (f2 : seal_Put.f k M b = some (X1, e2)) (f3 : seal_Put.f k T c = some (X2, e3)) (h1 : N = M) :
    Calls Try.prog 7 #[.int .u64 n, .int .u64 m, .slice A a.length ca, .slice B b.length cb, .slice C c.length cc, .int .i64 p] w fun e' w' => e' = .returned (.bool true) ∧ Below w.heap.size w w' := by
  have HB := Aside0.mk (Below.refl w.heap.size w)
  have HA := Aside0.mk ha
  have HAL := Aside0.mk hca
  have HQ := Aside0.mk hb
  have HQL := Aside0.mk hcb
  have HC := Aside0.mk hc
  have HCL := Aside0.mk hcc
  have L0 := Aside0.mk l0
  have L1 := Aside0.mk l1
  have L2 := Aside0.mk l2
  have F1 := Aside0.mk f1
  have F2 := Aside0.mk f2
  have F3 := Aside0.mk f3
  clear ha hca hb hcb hc hcc l0 l1 l2 f1 f2 f3
  have q1 : (N == M) = true := by simpa using h1
  clear h1
  rcases Int.lt_or_le N M with hlt | hlt
  · have hT' : IntKind.u64.wrap (M + 1) = T := by rw [← hT, Int.max_eq_right (Int.le_of_lt hlt)]
    clear hT
    go_enter Try.func7, Try.ntmps7
    go_wp2_with (first
      | (go_at_call 9; first | (with_reducible refine (seal_Put.calls k N A ca a X0 e1 _ (Kd.C_below HA.out (by repeat (first | (with_reducible first | exact HB.out | apply below_alloc | apply pw_below_drewN | apply below_drew1) | exact HB.out))) HAL.out F1.out).mono ?_; rintro e' w' ⟨rfl, hb⟩; have n0_ := Aside0.mk (below_step (by repeat (first | (with_reducible first | exact HB.out | apply below_alloc | apply pw_below_drewN | apply below_drew1) | exact HB.out)) hb); (first | have n1_ := Aside0.mk (blk_below BKt.out hb) | have n1_ := Aside0.mk (blk_below (blk_drewN BKt.out _) hb) | have n1_ := Aside0.mk (blk_below (blk_drew BKt.out) hb) | have n1_ := Aside0.mk (blk_below (blk_alloc BKt.out _) hb) | have n1_ := Aside0.mk (blk_below (by (with_reducible repeat (first | refine blk_drewN ?_ _ | refine blk_drew ?_ | refine blk_alloc ?_ _)); exact BKt.out) hb)); clear HB BKt; have HB := n0_; have BKt := n1_; clear n0_ n1_ hb) | (with_reducible refine (seal_Put.calls k M B cb b X1 e2 _ (Kd.C_below HQ.out (by repeat (first | (with_reducible first | exact HB.out | apply below_alloc | apply pw_below_drewN | apply below_drew1) | exact HB.out))) HQL.out F2.out).mono ?_; rintro e' w' ⟨rfl, hb⟩; have n0_ := Aside0.mk (below_step (by repeat (first | (with_reducible first | exact HB.out | apply below_alloc | apply pw_below_drewN | apply below_drew1) | exact HB.out)) hb); (first | have n1_ := Aside0.mk (blk_below BKt.out hb) | have n1_ := Aside0.mk (blk_below (blk_drewN BKt.out _) hb) | have n1_ := Aside0.mk (blk_below (blk_drew BKt.out) hb) | have n1_ := Aside0.mk (blk_below (blk_alloc BKt.out _) hb) | have n1_ := Aside0.mk (blk_below (by (with_reducible repeat (first | refine blk_drewN ?_ _ | refine blk_drew ?_ | refine blk_alloc ?_ _)); exact BKt.out) hb)); clear HB BKt; have HB := n0_; have BKt := n1_; clear n0_ n1_ hb) | (with_reducible refine (seal_Put.calls k T C cc c X2 e3 _ (Kd.C_below HC.out (by repeat (first | (with_reducible first | exact HB.out | apply below_alloc | apply pw_below_drewN | apply below_drew1) | exact HB.out))) HCL.out F3.out).mono ?_; rintro e' w' ⟨rfl, hb⟩; have n0_ := Aside0.mk (below_step (by repeat (first | (with_reducible first | exact HB.out | apply below_alloc | apply pw_below_drewN | apply below_drew1) | exact HB.out)) hb); (first | have n1_ := Aside0.mk (blk_below BKt.out hb) | have n1_ := Aside0.mk (blk_below (blk_drewN BKt.out _) hb) | have n1_ := Aside0.mk (blk_below (blk_drew BKt.out) hb) | have n1_ := Aside0.mk (blk_below (blk_alloc BKt.out _) hb) | have n1_ := Aside0.mk (blk_below (by (with_reducible repeat (first | refine blk_drewN ?_ _ | refine blk_drew ?_ | refine blk_alloc ?_ _)); exact BKt.out) hb)); clear HB BKt; have HB := n0_; have BKt := n1_; clear n0_ n1_ hb))
      | ((with_reducible refine gate_dst (N := 13) rfl ?_); refine box_event ?hg (N := 13) ?hd (cs := bcells (zero64 ++ zero64)) (t := 47) ?hr ?_; (case hd => rfl); (case hg => rfl); (case hr => exact alloc47_run rfl _); intro gt hg w1t hbox hb; have Gt := Aside0.mk (show w.heap.size ≤ gt from by rw [hg]; exact below_size (by repeat (first | (with_reducible first | exact HB.out | apply below_alloc | apply pw_below_drewN | apply below_drew1) | exact HB.out))); have BKt := Aside0.mk hbox; clear hbox hg; have n0_ := Aside0.mk (below_step (by repeat (first | (with_reducible first | exact HB.out | apply below_alloc | apply pw_below_drewN | apply below_drew1) | exact HB.out)) hb); clear HB; have HB := n0_; clear n0_ hb)
      | (refine wpList_store_blk rfl (.tmp 33) (.tmp 31) rfl gt 0 rfl X0 L0.out rfl (zero64 ++ zero64) 47 BKt.out (by rw [List.length_append]; (first | rw [L0.out] | skip); decide) w.heap.size HB.out Gt.out ?_; intro w1 h1 h2 h3; rw [splice_l _ _ _ (by rw [L0.out]; rfl)] at h1; clear BKt HB h2; have BKt := Aside0.mk h1; have HB := Aside0.mk h3; clear h1 h3)
      | (refine wpList_store_blk rfl (.tmp 40) (.tmp 38) rfl gt 64 rfl X1 L1.out rfl (X0 ++ zero64) 47 BKt.out (by rw [List.length_append]; (first | rw [L0.out] | skip); decide) w.heap.size HB.out Gt.out ?_; intro w1 h1 h2 h3; rw [splice_r _ _ _ L0.out (by rw [L1.out]; rfl)] at h1; clear BKt HB h2; have BKt := Aside0.mk h1; have HB := Aside0.mk h3; clear h1 h3)
      | ((with_reducible refine gate_dst (N := 17) rfl ?_); refine box_event ?hg (N := 17) ?hd (cs := bcells zero64) (t := 26) ?hr ?_; (case hd => rfl); (case hg => rfl); (case hr => first | (go_simp; done) | (go_simp; rfl)); intro gh hg w1h hbox hb; have Gh := Aside0.mk (show w.heap.size ≤ gh from by rw [hg]; exact below_size (by repeat (first | (with_reducible first | exact HB.out | apply below_alloc | apply pw_below_drewN | apply below_drew1) | exact HB.out))); have NEth := Aside0.mk (show gt ≠ gh from by rw [hg]; exact Nat.ne_of_lt (blk_lt (by (with_reducible repeat (first | refine blk_drewN ?_ _ | refine blk_drew ?_ | refine blk_alloc ?_ _)); exact BKt.out))); have BKh := Aside0.mk hbox; clear hbox hg; have n0_ := Aside0.mk (below_step (by repeat (first | (with_reducible first | exact HB.out | apply below_alloc | apply pw_below_drewN | apply below_drew1) | exact HB.out)) hb); (first | have n1_ := Aside0.mk (blk_below BKt.out hb) | have n1_ := Aside0.mk (blk_below (blk_drewN BKt.out _) hb) | have n1_ := Aside0.mk (blk_below (blk_drew BKt.out) hb) | have n1_ := Aside0.mk (blk_below (blk_alloc BKt.out _) hb) | have n1_ := Aside0.mk (blk_below (by (with_reducible repeat (first | refine blk_drewN ?_ _ | refine blk_drew ?_ | refine blk_alloc ?_ _)); exact BKt.out) hb)); clear HB BKt; have HB := n0_; have BKt := n1_; clear n0_ n1_ hb)
      | (refine wpList_store_row rfl 26 (.tmp 17) (.tmp 48) rfl gh (bcells X2) rfl (by rfl) 26 (bcells zero64) (by (with_reducible repeat (first | refine blk_drewN ?_ _ | refine blk_drew ?_ | refine blk_alloc ?_ _)); exact BKh.out) (seal_size _ L2.out) (by rw [bcells_size, bcells_size, L2.out]; rfl) (bcells_all _) ?_; have n0 := Aside0.mk (below_setRow (show Below w.heap.size w _ from by repeat (first | (with_reducible first | exact HB.out | apply below_alloc | apply pw_below_drewN | apply below_drew1) | exact HB.out)) (show w.heap.size ≤ gh from Gh.out) (bcells X2)); have n1 := Aside0.mk (setRow_heap _ _ _ (bcells X2) _ _ (by (with_reducible repeat (first | refine blk_drewN ?_ _ | refine blk_drew ?_ | refine blk_alloc ?_ _)); exact BKh.out)); have kt := Aside0.mk ((setRow_other _ gh gt (bcells X2) NEth.out).trans (by (with_reducible repeat (first | refine blk_drewN ?_ _ | refine blk_drew ?_ | refine blk_alloc ?_ _)); exact BKt.out)); generalize World.setRow _ _ _ = w3 at n0 n1 kt; clear HB BKh BKt; have HB := n0; have BKh := n1; have BKt := kt; clear kt; clear n0 n1)
      | (go_at_call 12; with_reducible refine (law_lives.calls _).mono ?_; rintro e' w' ⟨rfl, hb⟩; have n0_ := Aside0.mk (below_step (by repeat (first | (with_reducible first | exact HB.out | apply below_alloc | apply pw_below_drewN | apply below_drew1) | exact HB.out)) hb); clear HB; have HB := n0_; clear n0_ hb))
    go_ret
    exact ⟨rfl, by repeat (first | (with_reducible first | exact HB.out | apply below_alloc | apply pw_below_drewN | apply below_drew1) | exact HB.out)⟩
  · have hT' : IntKind.u64.wrap (N + 1) = T := by rw [← hT, Int.max_eq_left hlt]
    clear hT
    go_enter Try.func7, Try.ntmps7
    go_wp2_with (first
      | (go_at_call 9; first | (with_reducible refine (seal_Put.calls k N A ca a X0 e1 _ (Kd.C_below HA.out (by repeat (first | (with_reducible first | exact HB.out | apply below_alloc | apply pw_below_drewN | apply below_drew1) | exact HB.out))) HAL.out F1.out).mono ?_; rintro e' w' ⟨rfl, hb⟩; have n0_ := Aside0.mk (below_step (by repeat (first | (with_reducible first | exact HB.out | apply below_alloc | apply pw_below_drewN | apply below_drew1) | exact HB.out)) hb); (first | have n1_ := Aside0.mk (blk_below BKt.out hb) | have n1_ := Aside0.mk (blk_below (blk_drewN BKt.out _) hb) | have n1_ := Aside0.mk (blk_below (blk_drew BKt.out) hb) | have n1_ := Aside0.mk (blk_below (blk_alloc BKt.out _) hb) | have n1_ := Aside0.mk (blk_below (by (with_reducible repeat (first | refine blk_drewN ?_ _ | refine blk_drew ?_ | refine blk_alloc ?_ _)); exact BKt.out) hb)); clear HB BKt; have HB := n0_; have BKt := n1_; clear n0_ n1_ hb) | (with_reducible refine (seal_Put.calls k M B cb b X1 e2 _ (Kd.C_below HQ.out (by repeat (first | (with_reducible first | exact HB.out | apply below_alloc | apply pw_below_drewN | apply below_drew1) | exact HB.out))) HQL.out F2.out).mono ?_; rintro e' w' ⟨rfl, hb⟩; have n0_ := Aside0.mk (below_step (by repeat (first | (with_reducible first | exact HB.out | apply below_alloc | apply pw_below_drewN | apply below_drew1) | exact HB.out)) hb); (first | have n1_ := Aside0.mk (blk_below BKt.out hb) | have n1_ := Aside0.mk (blk_below (blk_drewN BKt.out _) hb) | have n1_ := Aside0.mk (blk_below (blk_drew BKt.out) hb) | have n1_ := Aside0.mk (blk_below (blk_alloc BKt.out _) hb) | have n1_ := Aside0.mk (blk_below (by (with_reducible repeat (first | refine blk_drewN ?_ _ | refine blk_drew ?_ | refine blk_alloc ?_ _)); exact BKt.out) hb)); clear HB BKt; have HB := n0_; have BKt := n1_; clear n0_ n1_ hb) | (with_reducible refine (seal_Put.calls k T C cc c X2 e3 _ (Kd.C_below HC.out (by repeat (first | (with_reducible first | exact HB.out | apply below_alloc | apply pw_below_drewN | apply below_drew1) | exact HB.out))) HCL.out F3.out).mono ?_; rintro e' w' ⟨rfl, hb⟩; have n0_ := Aside0.mk (below_step (by repeat (first | (with_reducible first | exact HB.out | apply below_alloc | apply pw_below_drewN | apply below_drew1) | exact HB.out)) hb); (first | have n1_ := Aside0.mk (blk_below BKt.out hb) | have n1_ := Aside0.mk (blk_below (blk_drewN BKt.out _) hb) | have n1_ := Aside0.mk (blk_below (blk_drew BKt.out) hb) | have n1_ := Aside0.mk (blk_below (blk_alloc BKt.out _) hb) | have n1_ := Aside0.mk (blk_below (by (with_reducible repeat (first | refine blk_drewN ?_ _ | refine blk_drew ?_ | refine blk_alloc ?_ _)); exact BKt.out) hb)); clear HB BKt; have HB := n0_; have BKt := n1_; clear n0_ n1_ hb))
      | ((with_reducible refine gate_dst (N := 13) rfl ?_); refine box_event ?hg (N := 13) ?hd (cs := bcells (zero64 ++ zero64)) (t := 47) ?hr ?_; (case hd => rfl); (case hg => rfl); (case hr => exact alloc47_run rfl _); intro gt hg w1t hbox hb; have Gt := Aside0.mk (show w.heap.size ≤ gt from by rw [hg]; exact below_size (by repeat (first | (with_reducible first | exact HB.out | apply below_alloc | apply pw_below_drewN | apply below_drew1) | exact HB.out))); have BKt := Aside0.mk hbox; clear hbox hg; have n0_ := Aside0.mk (below_step (by repeat (first | (with_reducible first | exact HB.out | apply below_alloc | apply pw_below_drewN | apply below_drew1) | exact HB.out)) hb); clear HB; have HB := n0_; clear n0_ hb)
      | (refine wpList_store_blk rfl (.tmp 33) (.tmp 31) rfl gt 0 rfl X0 L0.out rfl (zero64 ++ zero64) 47 BKt.out (by rw [List.length_append]; (first | rw [L0.out] | skip); decide) w.heap.size HB.out Gt.out ?_; intro w1 h1 h2 h3; rw [splice_l _ _ _ (by rw [L0.out]; rfl)] at h1; clear BKt HB h2; have BKt := Aside0.mk h1; have HB := Aside0.mk h3; clear h1 h3)
      | (refine wpList_store_blk rfl (.tmp 40) (.tmp 38) rfl gt 64 rfl X1 L1.out rfl (X0 ++ zero64) 47 BKt.out (by rw [List.length_append]; (first | rw [L0.out] | skip); decide) w.heap.size HB.out Gt.out ?_; intro w1 h1 h2 h3; rw [splice_r _ _ _ L0.out (by rw [L1.out]; rfl)] at h1; clear BKt HB h2; have BKt := Aside0.mk h1; have HB := Aside0.mk h3; clear h1 h3)
      | ((with_reducible refine gate_dst (N := 17) rfl ?_); refine box_event ?hg (N := 17) ?hd (cs := bcells zero64) (t := 26) ?hr ?_; (case hd => rfl); (case hg => rfl); (case hr => first | (go_simp; done) | (go_simp; rfl)); intro gh hg w1h hbox hb; have Gh := Aside0.mk (show w.heap.size ≤ gh from by rw [hg]; exact below_size (by repeat (first | (with_reducible first | exact HB.out | apply below_alloc | apply pw_below_drewN | apply below_drew1) | exact HB.out))); have NEth := Aside0.mk (show gt ≠ gh from by rw [hg]; exact Nat.ne_of_lt (blk_lt (by (with_reducible repeat (first | refine blk_drewN ?_ _ | refine blk_drew ?_ | refine blk_alloc ?_ _)); exact BKt.out))); have BKh := Aside0.mk hbox; clear hbox hg; have n0_ := Aside0.mk (below_step (by repeat (first | (with_reducible first | exact HB.out | apply below_alloc | apply pw_below_drewN | apply below_drew1) | exact HB.out)) hb); (first | have n1_ := Aside0.mk (blk_below BKt.out hb) | have n1_ := Aside0.mk (blk_below (blk_drewN BKt.out _) hb) | have n1_ := Aside0.mk (blk_below (blk_drew BKt.out) hb) | have n1_ := Aside0.mk (blk_below (blk_alloc BKt.out _) hb) | have n1_ := Aside0.mk (blk_below (by (with_reducible repeat (first | refine blk_drewN ?_ _ | refine blk_drew ?_ | refine blk_alloc ?_ _)); exact BKt.out) hb)); clear HB BKt; have HB := n0_; have BKt := n1_; clear n0_ n1_ hb)
      | (refine wpList_store_row rfl 26 (.tmp 17) (.tmp 48) rfl gh (bcells X2) rfl (by rfl) 26 (bcells zero64) (by (with_reducible repeat (first | refine blk_drewN ?_ _ | refine blk_drew ?_ | refine blk_alloc ?_ _)); exact BKh.out) (seal_size _ L2.out) (by rw [bcells_size, bcells_size, L2.out]; rfl) (bcells_all _) ?_; have n0 := Aside0.mk (below_setRow (show Below w.heap.size w _ from by repeat (first | (with_reducible first | exact HB.out | apply below_alloc | apply pw_below_drewN | apply below_drew1) | exact HB.out)) (show w.heap.size ≤ gh from Gh.out) (bcells X2)); have n1 := Aside0.mk (setRow_heap _ _ _ (bcells X2) _ _ (by (with_reducible repeat (first | refine blk_drewN ?_ _ | refine blk_drew ?_ | refine blk_alloc ?_ _)); exact BKh.out)); have kt := Aside0.mk ((setRow_other _ gh gt (bcells X2) NEth.out).trans (by (with_reducible repeat (first | refine blk_drewN ?_ _ | refine blk_drew ?_ | refine blk_alloc ?_ _)); exact BKt.out)); generalize World.setRow _ _ _ = w3 at n0 n1 kt; clear HB BKh BKt; have HB := n0; have BKh := n1; have BKt := kt; clear kt; clear n0 n1)
      | (go_at_call 12; with_reducible refine (law_lives.calls _).mono ?_; rintro e' w' ⟨rfl, hb⟩; have n0_ := Aside0.mk (below_step (by repeat (first | (with_reducible first | exact HB.out | apply below_alloc | apply pw_below_drewN | apply below_drew1) | exact HB.out)) hb); clear HB; have HB := n0_; clear n0_ hb))
    go_ret
    exact ⟨rfl, by repeat (first | (with_reducible first | exact HB.out | apply below_alloc | apply pw_below_drewN | apply below_drew1) | exact HB.out)⟩

set_option maxHeartbeats 16000000 in
set_option maxRecDepth 100000 in
theorem sealNext.callsA2 (k : Nat) (n m : Int) (A : Option Addr) (ca : Nat) (a : List Int) (B : Option Addr) (cb : Nat) (b : List Int) (C : Option Addr) (cc : Nat) (c : List Int) (p : Int) (N M T : Int) (w : World) (ha : Kd.C (Kd.int .u8) w A a.length a) (hca : a.length ≤ ca) (hb : Kd.C (Kd.int .u8) w B b.length b) (hcb : b.length ≤ cb) (hc : Kd.C (Kd.int .u8) w C c.length c) (hcc : c.length ≤ cc)
    (hN : IntKind.u64.wrap (Int.tmod n 1152921504606846976 + 1) = N) (hM : IntKind.u64.wrap (Int.tmod m 1152921504606846976 + 1) = M) (hT : IntKind.u64.wrap (max N M + 1) = T)
    (X0 X1 X2 : List Int) (l0 : X0.length = 64) (l1 : X1.length = 64) (l2 : X2.length = 64) (e1 e2 e3 : Int) (f1 : seal_Put.f k N a = some (X0, e1)) (f2 : seal_Put.f k M b = some (X1, e2)) (f3 : seal_Put.f k T c = some (X2, e3)) (h1 : N ≠ M) (h2 : e1 ≠ 0) :
    Calls Try.prog 7 #[.int .u64 n, .int .u64 m, .slice A a.length ca, .slice B b.length cb, .slice C c.length cc, .int .i64 p] w fun e' w' => e' = .returned (.bool true) ∧ Below w.heap.size w w' := by
  have HB := Aside0.mk (Below.refl w.heap.size w)
  have HA := Aside0.mk ha
  have HAL := Aside0.mk hca
  have HQ := Aside0.mk hb
  have HQL := Aside0.mk hcb
  have HC := Aside0.mk hc
  have HCL := Aside0.mk hcc
  have L0 := Aside0.mk l0
  have L1 := Aside0.mk l1
  have L2 := Aside0.mk l2
  have F1 := Aside0.mk f1
  have F2 := Aside0.mk f2
  have F3 := Aside0.mk f3
  clear ha hca hb hcb hc hcc l0 l1 l2 f1 f2 f3
  have q1 : (N == M) = false := by simpa using h1
  have q2 : (e1 != 0) = true := by simpa using h2
  clear h1 h2
  rcases Int.lt_or_le N M with hlt | hlt
  · have hT' : IntKind.u64.wrap (M + 1) = T := by rw [← hT, Int.max_eq_right (Int.le_of_lt hlt)]
    clear hT
    go_enter Try.func7, Try.ntmps7
    go_wp2_with (first
      | (go_at_call 9; first | (with_reducible refine (seal_Put.calls k N A ca a X0 e1 _ (Kd.C_below HA.out (by repeat (first | (with_reducible first | exact HB.out | apply below_alloc | apply pw_below_drewN | apply below_drew1) | exact HB.out))) HAL.out F1.out).mono ?_; rintro e' w' ⟨rfl, hb⟩; have n0_ := Aside0.mk (below_step (by repeat (first | (with_reducible first | exact HB.out | apply below_alloc | apply pw_below_drewN | apply below_drew1) | exact HB.out)) hb); (first | have n1_ := Aside0.mk (blk_below BKt.out hb) | have n1_ := Aside0.mk (blk_below (blk_drewN BKt.out _) hb) | have n1_ := Aside0.mk (blk_below (blk_drew BKt.out) hb) | have n1_ := Aside0.mk (blk_below (blk_alloc BKt.out _) hb) | have n1_ := Aside0.mk (blk_below (by (with_reducible repeat (first | refine blk_drewN ?_ _ | refine blk_drew ?_ | refine blk_alloc ?_ _)); exact BKt.out) hb)); clear HB BKt; have HB := n0_; have BKt := n1_; clear n0_ n1_ hb) | (with_reducible refine (seal_Put.calls k M B cb b X1 e2 _ (Kd.C_below HQ.out (by repeat (first | (with_reducible first | exact HB.out | apply below_alloc | apply pw_below_drewN | apply below_drew1) | exact HB.out))) HQL.out F2.out).mono ?_; rintro e' w' ⟨rfl, hb⟩; have n0_ := Aside0.mk (below_step (by repeat (first | (with_reducible first | exact HB.out | apply below_alloc | apply pw_below_drewN | apply below_drew1) | exact HB.out)) hb); (first | have n1_ := Aside0.mk (blk_below BKt.out hb) | have n1_ := Aside0.mk (blk_below (blk_drewN BKt.out _) hb) | have n1_ := Aside0.mk (blk_below (blk_drew BKt.out) hb) | have n1_ := Aside0.mk (blk_below (blk_alloc BKt.out _) hb) | have n1_ := Aside0.mk (blk_below (by (with_reducible repeat (first | refine blk_drewN ?_ _ | refine blk_drew ?_ | refine blk_alloc ?_ _)); exact BKt.out) hb)); clear HB BKt; have HB := n0_; have BKt := n1_; clear n0_ n1_ hb) | (with_reducible refine (seal_Put.calls k T C cc c X2 e3 _ (Kd.C_below HC.out (by repeat (first | (with_reducible first | exact HB.out | apply below_alloc | apply pw_below_drewN | apply below_drew1) | exact HB.out))) HCL.out F3.out).mono ?_; rintro e' w' ⟨rfl, hb⟩; have n0_ := Aside0.mk (below_step (by repeat (first | (with_reducible first | exact HB.out | apply below_alloc | apply pw_below_drewN | apply below_drew1) | exact HB.out)) hb); (first | have n1_ := Aside0.mk (blk_below BKt.out hb) | have n1_ := Aside0.mk (blk_below (blk_drewN BKt.out _) hb) | have n1_ := Aside0.mk (blk_below (blk_drew BKt.out) hb) | have n1_ := Aside0.mk (blk_below (blk_alloc BKt.out _) hb) | have n1_ := Aside0.mk (blk_below (by (with_reducible repeat (first | refine blk_drewN ?_ _ | refine blk_drew ?_ | refine blk_alloc ?_ _)); exact BKt.out) hb)); clear HB BKt; have HB := n0_; have BKt := n1_; clear n0_ n1_ hb))
      | ((with_reducible refine gate_dst (N := 13) rfl ?_); refine box_event ?hg (N := 13) ?hd (cs := bcells (zero64 ++ zero64)) (t := 47) ?hr ?_; (case hd => rfl); (case hg => rfl); (case hr => exact alloc47_run rfl _); intro gt hg w1t hbox hb; have Gt := Aside0.mk (show w.heap.size ≤ gt from by rw [hg]; exact below_size (by repeat (first | (with_reducible first | exact HB.out | apply below_alloc | apply pw_below_drewN | apply below_drew1) | exact HB.out))); have BKt := Aside0.mk hbox; clear hbox hg; have n0_ := Aside0.mk (below_step (by repeat (first | (with_reducible first | exact HB.out | apply below_alloc | apply pw_below_drewN | apply below_drew1) | exact HB.out)) hb); clear HB; have HB := n0_; clear n0_ hb)
      | (refine wpList_store_blk rfl (.tmp 33) (.tmp 31) rfl gt 0 rfl X0 L0.out rfl (zero64 ++ zero64) 47 BKt.out (by rw [List.length_append]; (first | rw [L0.out] | skip); decide) w.heap.size HB.out Gt.out ?_; intro w1 h1 h2 h3; rw [splice_l _ _ _ (by rw [L0.out]; rfl)] at h1; clear BKt HB h2; have BKt := Aside0.mk h1; have HB := Aside0.mk h3; clear h1 h3)
      | (refine wpList_store_blk rfl (.tmp 40) (.tmp 38) rfl gt 64 rfl X1 L1.out rfl (X0 ++ zero64) 47 BKt.out (by rw [List.length_append]; (first | rw [L0.out] | skip); decide) w.heap.size HB.out Gt.out ?_; intro w1 h1 h2 h3; rw [splice_r _ _ _ L0.out (by rw [L1.out]; rfl)] at h1; clear BKt HB h2; have BKt := Aside0.mk h1; have HB := Aside0.mk h3; clear h1 h3)
      | ((with_reducible refine gate_dst (N := 17) rfl ?_); refine box_event ?hg (N := 17) ?hd (cs := bcells zero64) (t := 26) ?hr ?_; (case hd => rfl); (case hg => rfl); (case hr => first | (go_simp; done) | (go_simp; rfl)); intro gh hg w1h hbox hb; have Gh := Aside0.mk (show w.heap.size ≤ gh from by rw [hg]; exact below_size (by repeat (first | (with_reducible first | exact HB.out | apply below_alloc | apply pw_below_drewN | apply below_drew1) | exact HB.out))); have NEth := Aside0.mk (show gt ≠ gh from by rw [hg]; exact Nat.ne_of_lt (blk_lt (by (with_reducible repeat (first | refine blk_drewN ?_ _ | refine blk_drew ?_ | refine blk_alloc ?_ _)); exact BKt.out))); have BKh := Aside0.mk hbox; clear hbox hg; have n0_ := Aside0.mk (below_step (by repeat (first | (with_reducible first | exact HB.out | apply below_alloc | apply pw_below_drewN | apply below_drew1) | exact HB.out)) hb); (first | have n1_ := Aside0.mk (blk_below BKt.out hb) | have n1_ := Aside0.mk (blk_below (blk_drewN BKt.out _) hb) | have n1_ := Aside0.mk (blk_below (blk_drew BKt.out) hb) | have n1_ := Aside0.mk (blk_below (blk_alloc BKt.out _) hb) | have n1_ := Aside0.mk (blk_below (by (with_reducible repeat (first | refine blk_drewN ?_ _ | refine blk_drew ?_ | refine blk_alloc ?_ _)); exact BKt.out) hb)); clear HB BKt; have HB := n0_; have BKt := n1_; clear n0_ n1_ hb)
      | (refine wpList_store_row rfl 26 (.tmp 17) (.tmp 48) rfl gh (bcells X2) rfl (by rfl) 26 (bcells zero64) (by (with_reducible repeat (first | refine blk_drewN ?_ _ | refine blk_drew ?_ | refine blk_alloc ?_ _)); exact BKh.out) (seal_size _ L2.out) (by rw [bcells_size, bcells_size, L2.out]; rfl) (bcells_all _) ?_; have n0 := Aside0.mk (below_setRow (show Below w.heap.size w _ from by repeat (first | (with_reducible first | exact HB.out | apply below_alloc | apply pw_below_drewN | apply below_drew1) | exact HB.out)) (show w.heap.size ≤ gh from Gh.out) (bcells X2)); have n1 := Aside0.mk (setRow_heap _ _ _ (bcells X2) _ _ (by (with_reducible repeat (first | refine blk_drewN ?_ _ | refine blk_drew ?_ | refine blk_alloc ?_ _)); exact BKh.out)); have kt := Aside0.mk ((setRow_other _ gh gt (bcells X2) NEth.out).trans (by (with_reducible repeat (first | refine blk_drewN ?_ _ | refine blk_drew ?_ | refine blk_alloc ?_ _)); exact BKt.out)); generalize World.setRow _ _ _ = w3 at n0 n1 kt; clear HB BKh BKt; have HB := n0; have BKh := n1; have BKt := kt; clear kt; clear n0 n1)
      | (go_at_call 12; with_reducible refine (law_lives.calls _).mono ?_; rintro e' w' ⟨rfl, hb⟩; have n0_ := Aside0.mk (below_step (by repeat (first | (with_reducible first | exact HB.out | apply below_alloc | apply pw_below_drewN | apply below_drew1) | exact HB.out)) hb); clear HB; have HB := n0_; clear n0_ hb))
    go_ret
    exact ⟨rfl, by repeat (first | (with_reducible first | exact HB.out | apply below_alloc | apply pw_below_drewN | apply below_drew1) | exact HB.out)⟩
  · have hT' : IntKind.u64.wrap (N + 1) = T := by rw [← hT, Int.max_eq_left hlt]
    clear hT
    go_enter Try.func7, Try.ntmps7
    go_wp2_with (first
      | (go_at_call 9; first | (with_reducible refine (seal_Put.calls k N A ca a X0 e1 _ (Kd.C_below HA.out (by repeat (first | (with_reducible first | exact HB.out | apply below_alloc | apply pw_below_drewN | apply below_drew1) | exact HB.out))) HAL.out F1.out).mono ?_; rintro e' w' ⟨rfl, hb⟩; have n0_ := Aside0.mk (below_step (by repeat (first | (with_reducible first | exact HB.out | apply below_alloc | apply pw_below_drewN | apply below_drew1) | exact HB.out)) hb); (first | have n1_ := Aside0.mk (blk_below BKt.out hb) | have n1_ := Aside0.mk (blk_below (blk_drewN BKt.out _) hb) | have n1_ := Aside0.mk (blk_below (blk_drew BKt.out) hb) | have n1_ := Aside0.mk (blk_below (blk_alloc BKt.out _) hb) | have n1_ := Aside0.mk (blk_below (by (with_reducible repeat (first | refine blk_drewN ?_ _ | refine blk_drew ?_ | refine blk_alloc ?_ _)); exact BKt.out) hb)); clear HB BKt; have HB := n0_; have BKt := n1_; clear n0_ n1_ hb) | (with_reducible refine (seal_Put.calls k M B cb b X1 e2 _ (Kd.C_below HQ.out (by repeat (first | (with_reducible first | exact HB.out | apply below_alloc | apply pw_below_drewN | apply below_drew1) | exact HB.out))) HQL.out F2.out).mono ?_; rintro e' w' ⟨rfl, hb⟩; have n0_ := Aside0.mk (below_step (by repeat (first | (with_reducible first | exact HB.out | apply below_alloc | apply pw_below_drewN | apply below_drew1) | exact HB.out)) hb); (first | have n1_ := Aside0.mk (blk_below BKt.out hb) | have n1_ := Aside0.mk (blk_below (blk_drewN BKt.out _) hb) | have n1_ := Aside0.mk (blk_below (blk_drew BKt.out) hb) | have n1_ := Aside0.mk (blk_below (blk_alloc BKt.out _) hb) | have n1_ := Aside0.mk (blk_below (by (with_reducible repeat (first | refine blk_drewN ?_ _ | refine blk_drew ?_ | refine blk_alloc ?_ _)); exact BKt.out) hb)); clear HB BKt; have HB := n0_; have BKt := n1_; clear n0_ n1_ hb) | (with_reducible refine (seal_Put.calls k T C cc c X2 e3 _ (Kd.C_below HC.out (by repeat (first | (with_reducible first | exact HB.out | apply below_alloc | apply pw_below_drewN | apply below_drew1) | exact HB.out))) HCL.out F3.out).mono ?_; rintro e' w' ⟨rfl, hb⟩; have n0_ := Aside0.mk (below_step (by repeat (first | (with_reducible first | exact HB.out | apply below_alloc | apply pw_below_drewN | apply below_drew1) | exact HB.out)) hb); (first | have n1_ := Aside0.mk (blk_below BKt.out hb) | have n1_ := Aside0.mk (blk_below (blk_drewN BKt.out _) hb) | have n1_ := Aside0.mk (blk_below (blk_drew BKt.out) hb) | have n1_ := Aside0.mk (blk_below (blk_alloc BKt.out _) hb) | have n1_ := Aside0.mk (blk_below (by (with_reducible repeat (first | refine blk_drewN ?_ _ | refine blk_drew ?_ | refine blk_alloc ?_ _)); exact BKt.out) hb)); clear HB BKt; have HB := n0_; have BKt := n1_; clear n0_ n1_ hb))
      | ((with_reducible refine gate_dst (N := 13) rfl ?_); refine box_event ?hg (N := 13) ?hd (cs := bcells (zero64 ++ zero64)) (t := 47) ?hr ?_; (case hd => rfl); (case hg => rfl); (case hr => exact alloc47_run rfl _); intro gt hg w1t hbox hb; have Gt := Aside0.mk (show w.heap.size ≤ gt from by rw [hg]; exact below_size (by repeat (first | (with_reducible first | exact HB.out | apply below_alloc | apply pw_below_drewN | apply below_drew1) | exact HB.out))); have BKt := Aside0.mk hbox; clear hbox hg; have n0_ := Aside0.mk (below_step (by repeat (first | (with_reducible first | exact HB.out | apply below_alloc | apply pw_below_drewN | apply below_drew1) | exact HB.out)) hb); clear HB; have HB := n0_; clear n0_ hb)
      | (refine wpList_store_blk rfl (.tmp 33) (.tmp 31) rfl gt 0 rfl X0 L0.out rfl (zero64 ++ zero64) 47 BKt.out (by rw [List.length_append]; (first | rw [L0.out] | skip); decide) w.heap.size HB.out Gt.out ?_; intro w1 h1 h2 h3; rw [splice_l _ _ _ (by rw [L0.out]; rfl)] at h1; clear BKt HB h2; have BKt := Aside0.mk h1; have HB := Aside0.mk h3; clear h1 h3)
      | (refine wpList_store_blk rfl (.tmp 40) (.tmp 38) rfl gt 64 rfl X1 L1.out rfl (X0 ++ zero64) 47 BKt.out (by rw [List.length_append]; (first | rw [L0.out] | skip); decide) w.heap.size HB.out Gt.out ?_; intro w1 h1 h2 h3; rw [splice_r _ _ _ L0.out (by rw [L1.out]; rfl)] at h1; clear BKt HB h2; have BKt := Aside0.mk h1; have HB := Aside0.mk h3; clear h1 h3)
      | ((with_reducible refine gate_dst (N := 17) rfl ?_); refine box_event ?hg (N := 17) ?hd (cs := bcells zero64) (t := 26) ?hr ?_; (case hd => rfl); (case hg => rfl); (case hr => first | (go_simp; done) | (go_simp; rfl)); intro gh hg w1h hbox hb; have Gh := Aside0.mk (show w.heap.size ≤ gh from by rw [hg]; exact below_size (by repeat (first | (with_reducible first | exact HB.out | apply below_alloc | apply pw_below_drewN | apply below_drew1) | exact HB.out))); have NEth := Aside0.mk (show gt ≠ gh from by rw [hg]; exact Nat.ne_of_lt (blk_lt (by (with_reducible repeat (first | refine blk_drewN ?_ _ | refine blk_drew ?_ | refine blk_alloc ?_ _)); exact BKt.out))); have BKh := Aside0.mk hbox; clear hbox hg; have n0_ := Aside0.mk (below_step (by repeat (first | (with_reducible first | exact HB.out | apply below_alloc | apply pw_below_drewN | apply below_drew1) | exact HB.out)) hb); (first | have n1_ := Aside0.mk (blk_below BKt.out hb) | have n1_ := Aside0.mk (blk_below (blk_drewN BKt.out _) hb) | have n1_ := Aside0.mk (blk_below (blk_drew BKt.out) hb) | have n1_ := Aside0.mk (blk_below (blk_alloc BKt.out _) hb) | have n1_ := Aside0.mk (blk_below (by (with_reducible repeat (first | refine blk_drewN ?_ _ | refine blk_drew ?_ | refine blk_alloc ?_ _)); exact BKt.out) hb)); clear HB BKt; have HB := n0_; have BKt := n1_; clear n0_ n1_ hb)
      | (refine wpList_store_row rfl 26 (.tmp 17) (.tmp 48) rfl gh (bcells X2) rfl (by rfl) 26 (bcells zero64) (by (with_reducible repeat (first | refine blk_drewN ?_ _ | refine blk_drew ?_ | refine blk_alloc ?_ _)); exact BKh.out) (seal_size _ L2.out) (by rw [bcells_size, bcells_size, L2.out]; rfl) (bcells_all _) ?_; have n0 := Aside0.mk (below_setRow (show Below w.heap.size w _ from by repeat (first | (with_reducible first | exact HB.out | apply below_alloc | apply pw_below_drewN | apply below_drew1) | exact HB.out)) (show w.heap.size ≤ gh from Gh.out) (bcells X2)); have n1 := Aside0.mk (setRow_heap _ _ _ (bcells X2) _ _ (by (with_reducible repeat (first | refine blk_drewN ?_ _ | refine blk_drew ?_ | refine blk_alloc ?_ _)); exact BKh.out)); have kt := Aside0.mk ((setRow_other _ gh gt (bcells X2) NEth.out).trans (by (with_reducible repeat (first | refine blk_drewN ?_ _ | refine blk_drew ?_ | refine blk_alloc ?_ _)); exact BKt.out)); generalize World.setRow _ _ _ = w3 at n0 n1 kt; clear HB BKh BKt; have HB := n0; have BKh := n1; have BKt := kt; clear kt; clear n0 n1)
      | (go_at_call 12; with_reducible refine (law_lives.calls _).mono ?_; rintro e' w' ⟨rfl, hb⟩; have n0_ := Aside0.mk (below_step (by repeat (first | (with_reducible first | exact HB.out | apply below_alloc | apply pw_below_drewN | apply below_drew1) | exact HB.out)) hb); clear HB; have HB := n0_; clear n0_ hb))
    go_ret
    exact ⟨rfl, by repeat (first | (with_reducible first | exact HB.out | apply below_alloc | apply pw_below_drewN | apply below_drew1) | exact HB.out)⟩

set_option maxHeartbeats 16000000 in
set_option maxRecDepth 100000 in
theorem sealNext.callsA3 (k : Nat) (n m : Int) (A : Option Addr) (ca : Nat) (a : List Int) (B : Option Addr) (cb : Nat) (b : List Int) (C : Option Addr) (cc : Nat) (c : List Int) (p : Int) (N M T : Int) (w : World) (ha : Kd.C (Kd.int .u8) w A a.length a) (hca : a.length ≤ ca) (hb : Kd.C (Kd.int .u8) w B b.length b) (hcb : b.length ≤ cb) (hc : Kd.C (Kd.int .u8) w C c.length c) (hcc : c.length ≤ cc)
    (hN : IntKind.u64.wrap (Int.tmod n 1152921504606846976 + 1) = N) (hM : IntKind.u64.wrap (Int.tmod m 1152921504606846976 + 1) = M) (hT : IntKind.u64.wrap (max N M + 1) = T)
    (X0 X1 X2 : List Int) (l0 : X0.length = 64) (l1 : X1.length = 64) (l2 : X2.length = 64) (e1 e2 e3 : Int) (f1 : seal_Put.f k N a = some (X0, e1)) (f2 : seal_Put.f k M b = some (X1, e2)) (f3 : seal_Put.f k T c = some (X2, e3)) (h1 : N ≠ M) (h2 : e1 = 0) (h3 : e2 ≠ 0) :
    Calls Try.prog 7 #[.int .u64 n, .int .u64 m, .slice A a.length ca, .slice B b.length cb, .slice C c.length cc, .int .i64 p] w fun e' w' => e' = .returned (.bool true) ∧ Below w.heap.size w w' := by
  have HB := Aside0.mk (Below.refl w.heap.size w)
  have HA := Aside0.mk ha
  have HAL := Aside0.mk hca
  have HQ := Aside0.mk hb
  have HQL := Aside0.mk hcb
  have HC := Aside0.mk hc
  have HCL := Aside0.mk hcc
  have L0 := Aside0.mk l0
  have L1 := Aside0.mk l1
  have L2 := Aside0.mk l2
  have F1 := Aside0.mk f1
  have F2 := Aside0.mk f2
  have F3 := Aside0.mk f3
  clear ha hca hb hcb hc hcc l0 l1 l2 f1 f2 f3
  have q1 : (N == M) = false := by simpa using h1
  subst h2
  have q2 : (e2 != 0) = true := by simpa using h3
  clear h1 h3
  rcases Int.lt_or_le N M with hlt | hlt
  · have hT' : IntKind.u64.wrap (M + 1) = T := by rw [← hT, Int.max_eq_right (Int.le_of_lt hlt)]
    clear hT
    go_enter Try.func7, Try.ntmps7
    go_wp2_with (first
      | (go_at_call 9; first | (with_reducible refine (seal_Put.calls k N A ca a X0 0 _ (Kd.C_below HA.out (by repeat (first | (with_reducible first | exact HB.out | apply below_alloc | apply pw_below_drewN | apply below_drew1) | exact HB.out))) HAL.out F1.out).mono ?_; rintro e' w' ⟨rfl, hb⟩; have n0_ := Aside0.mk (below_step (by repeat (first | (with_reducible first | exact HB.out | apply below_alloc | apply pw_below_drewN | apply below_drew1) | exact HB.out)) hb); (first | have n1_ := Aside0.mk (blk_below BKt.out hb) | have n1_ := Aside0.mk (blk_below (blk_drewN BKt.out _) hb) | have n1_ := Aside0.mk (blk_below (blk_drew BKt.out) hb) | have n1_ := Aside0.mk (blk_below (blk_alloc BKt.out _) hb) | have n1_ := Aside0.mk (blk_below (by (with_reducible repeat (first | refine blk_drewN ?_ _ | refine blk_drew ?_ | refine blk_alloc ?_ _)); exact BKt.out) hb)); clear HB BKt; have HB := n0_; have BKt := n1_; clear n0_ n1_ hb) | (with_reducible refine (seal_Put.calls k M B cb b X1 e2 _ (Kd.C_below HQ.out (by repeat (first | (with_reducible first | exact HB.out | apply below_alloc | apply pw_below_drewN | apply below_drew1) | exact HB.out))) HQL.out F2.out).mono ?_; rintro e' w' ⟨rfl, hb⟩; have n0_ := Aside0.mk (below_step (by repeat (first | (with_reducible first | exact HB.out | apply below_alloc | apply pw_below_drewN | apply below_drew1) | exact HB.out)) hb); (first | have n1_ := Aside0.mk (blk_below BKt.out hb) | have n1_ := Aside0.mk (blk_below (blk_drewN BKt.out _) hb) | have n1_ := Aside0.mk (blk_below (blk_drew BKt.out) hb) | have n1_ := Aside0.mk (blk_below (blk_alloc BKt.out _) hb) | have n1_ := Aside0.mk (blk_below (by (with_reducible repeat (first | refine blk_drewN ?_ _ | refine blk_drew ?_ | refine blk_alloc ?_ _)); exact BKt.out) hb)); clear HB BKt; have HB := n0_; have BKt := n1_; clear n0_ n1_ hb) | (with_reducible refine (seal_Put.calls k T C cc c X2 e3 _ (Kd.C_below HC.out (by repeat (first | (with_reducible first | exact HB.out | apply below_alloc | apply pw_below_drewN | apply below_drew1) | exact HB.out))) HCL.out F3.out).mono ?_; rintro e' w' ⟨rfl, hb⟩; have n0_ := Aside0.mk (below_step (by repeat (first | (with_reducible first | exact HB.out | apply below_alloc | apply pw_below_drewN | apply below_drew1) | exact HB.out)) hb); (first | have n1_ := Aside0.mk (blk_below BKt.out hb) | have n1_ := Aside0.mk (blk_below (blk_drewN BKt.out _) hb) | have n1_ := Aside0.mk (blk_below (blk_drew BKt.out) hb) | have n1_ := Aside0.mk (blk_below (blk_alloc BKt.out _) hb) | have n1_ := Aside0.mk (blk_below (by (with_reducible repeat (first | refine blk_drewN ?_ _ | refine blk_drew ?_ | refine blk_alloc ?_ _)); exact BKt.out) hb)); clear HB BKt; have HB := n0_; have BKt := n1_; clear n0_ n1_ hb))
      | ((with_reducible refine gate_dst (N := 13) rfl ?_); refine box_event ?hg (N := 13) ?hd (cs := bcells (zero64 ++ zero64)) (t := 47) ?hr ?_; (case hd => rfl); (case hg => rfl); (case hr => exact alloc47_run rfl _); intro gt hg w1t hbox hb; have Gt := Aside0.mk (show w.heap.size ≤ gt from by rw [hg]; exact below_size (by repeat (first | (with_reducible first | exact HB.out | apply below_alloc | apply pw_below_drewN | apply below_drew1) | exact HB.out))); have BKt := Aside0.mk hbox; clear hbox hg; have n0_ := Aside0.mk (below_step (by repeat (first | (with_reducible first | exact HB.out | apply below_alloc | apply pw_below_drewN | apply below_drew1) | exact HB.out)) hb); clear HB; have HB := n0_; clear n0_ hb)
      | (refine wpList_store_blk rfl (.tmp 33) (.tmp 31) rfl gt 0 rfl X0 L0.out rfl (zero64 ++ zero64) 47 BKt.out (by rw [List.length_append]; (first | rw [L0.out] | skip); decide) w.heap.size HB.out Gt.out ?_; intro w1 h1 h2 h3; rw [splice_l _ _ _ (by rw [L0.out]; rfl)] at h1; clear BKt HB h2; have BKt := Aside0.mk h1; have HB := Aside0.mk h3; clear h1 h3)
      | (refine wpList_store_blk rfl (.tmp 40) (.tmp 38) rfl gt 64 rfl X1 L1.out rfl (X0 ++ zero64) 47 BKt.out (by rw [List.length_append]; (first | rw [L0.out] | skip); decide) w.heap.size HB.out Gt.out ?_; intro w1 h1 h2 h3; rw [splice_r _ _ _ L0.out (by rw [L1.out]; rfl)] at h1; clear BKt HB h2; have BKt := Aside0.mk h1; have HB := Aside0.mk h3; clear h1 h3)
      | ((with_reducible refine gate_dst (N := 17) rfl ?_); refine box_event ?hg (N := 17) ?hd (cs := bcells zero64) (t := 26) ?hr ?_; (case hd => rfl); (case hg => rfl); (case hr => first | (go_simp; done) | (go_simp; rfl)); intro gh hg w1h hbox hb; have Gh := Aside0.mk (show w.heap.size ≤ gh from by rw [hg]; exact below_size (by repeat (first | (with_reducible first | exact HB.out | apply below_alloc | apply pw_below_drewN | apply below_drew1) | exact HB.out))); have NEth := Aside0.mk (show gt ≠ gh from by rw [hg]; exact Nat.ne_of_lt (blk_lt (by (with_reducible repeat (first | refine blk_drewN ?_ _ | refine blk_drew ?_ | refine blk_alloc ?_ _)); exact BKt.out))); have BKh := Aside0.mk hbox; clear hbox hg; have n0_ := Aside0.mk (below_step (by repeat (first | (with_reducible first | exact HB.out | apply below_alloc | apply pw_below_drewN | apply below_drew1) | exact HB.out)) hb); (first | have n1_ := Aside0.mk (blk_below BKt.out hb) | have n1_ := Aside0.mk (blk_below (blk_drewN BKt.out _) hb) | have n1_ := Aside0.mk (blk_below (blk_drew BKt.out) hb) | have n1_ := Aside0.mk (blk_below (blk_alloc BKt.out _) hb) | have n1_ := Aside0.mk (blk_below (by (with_reducible repeat (first | refine blk_drewN ?_ _ | refine blk_drew ?_ | refine blk_alloc ?_ _)); exact BKt.out) hb)); clear HB BKt; have HB := n0_; have BKt := n1_; clear n0_ n1_ hb)
      | (refine wpList_store_row rfl 26 (.tmp 17) (.tmp 48) rfl gh (bcells X2) rfl (by rfl) 26 (bcells zero64) (by (with_reducible repeat (first | refine blk_drewN ?_ _ | refine blk_drew ?_ | refine blk_alloc ?_ _)); exact BKh.out) (seal_size _ L2.out) (by rw [bcells_size, bcells_size, L2.out]; rfl) (bcells_all _) ?_; have n0 := Aside0.mk (below_setRow (show Below w.heap.size w _ from by repeat (first | (with_reducible first | exact HB.out | apply below_alloc | apply pw_below_drewN | apply below_drew1) | exact HB.out)) (show w.heap.size ≤ gh from Gh.out) (bcells X2)); have n1 := Aside0.mk (setRow_heap _ _ _ (bcells X2) _ _ (by (with_reducible repeat (first | refine blk_drewN ?_ _ | refine blk_drew ?_ | refine blk_alloc ?_ _)); exact BKh.out)); have kt := Aside0.mk ((setRow_other _ gh gt (bcells X2) NEth.out).trans (by (with_reducible repeat (first | refine blk_drewN ?_ _ | refine blk_drew ?_ | refine blk_alloc ?_ _)); exact BKt.out)); generalize World.setRow _ _ _ = w3 at n0 n1 kt; clear HB BKh BKt; have HB := n0; have BKh := n1; have BKt := kt; clear kt; clear n0 n1)
      | (go_at_call 12; with_reducible refine (law_lives.calls _).mono ?_; rintro e' w' ⟨rfl, hb⟩; have n0_ := Aside0.mk (below_step (by repeat (first | (with_reducible first | exact HB.out | apply below_alloc | apply pw_below_drewN | apply below_drew1) | exact HB.out)) hb); clear HB; have HB := n0_; clear n0_ hb))
    go_ret
    exact ⟨rfl, by repeat (first | (with_reducible first | exact HB.out | apply below_alloc | apply pw_below_drewN | apply below_drew1) | exact HB.out)⟩
  · have hT' : IntKind.u64.wrap (N + 1) = T := by rw [← hT, Int.max_eq_left hlt]
    clear hT
    go_enter Try.func7, Try.ntmps7
    go_wp2_with (first
      | (go_at_call 9; first | (with_reducible refine (seal_Put.calls k N A ca a X0 0 _ (Kd.C_below HA.out (by repeat (first | (with_reducible first | exact HB.out | apply below_alloc | apply pw_below_drewN | apply below_drew1) | exact HB.out))) HAL.out F1.out).mono ?_; rintro e' w' ⟨rfl, hb⟩; have n0_ := Aside0.mk (below_step (by repeat (first | (with_reducible first | exact HB.out | apply below_alloc | apply pw_below_drewN | apply below_drew1) | exact HB.out)) hb); (first | have n1_ := Aside0.mk (blk_below BKt.out hb) | have n1_ := Aside0.mk (blk_below (blk_drewN BKt.out _) hb) | have n1_ := Aside0.mk (blk_below (blk_drew BKt.out) hb) | have n1_ := Aside0.mk (blk_below (blk_alloc BKt.out _) hb) | have n1_ := Aside0.mk (blk_below (by (with_reducible repeat (first | refine blk_drewN ?_ _ | refine blk_drew ?_ | refine blk_alloc ?_ _)); exact BKt.out) hb)); clear HB BKt; have HB := n0_; have BKt := n1_; clear n0_ n1_ hb) | (with_reducible refine (seal_Put.calls k M B cb b X1 e2 _ (Kd.C_below HQ.out (by repeat (first | (with_reducible first | exact HB.out | apply below_alloc | apply pw_below_drewN | apply below_drew1) | exact HB.out))) HQL.out F2.out).mono ?_; rintro e' w' ⟨rfl, hb⟩; have n0_ := Aside0.mk (below_step (by repeat (first | (with_reducible first | exact HB.out | apply below_alloc | apply pw_below_drewN | apply below_drew1) | exact HB.out)) hb); (first | have n1_ := Aside0.mk (blk_below BKt.out hb) | have n1_ := Aside0.mk (blk_below (blk_drewN BKt.out _) hb) | have n1_ := Aside0.mk (blk_below (blk_drew BKt.out) hb) | have n1_ := Aside0.mk (blk_below (blk_alloc BKt.out _) hb) | have n1_ := Aside0.mk (blk_below (by (with_reducible repeat (first | refine blk_drewN ?_ _ | refine blk_drew ?_ | refine blk_alloc ?_ _)); exact BKt.out) hb)); clear HB BKt; have HB := n0_; have BKt := n1_; clear n0_ n1_ hb) | (with_reducible refine (seal_Put.calls k T C cc c X2 e3 _ (Kd.C_below HC.out (by repeat (first | (with_reducible first | exact HB.out | apply below_alloc | apply pw_below_drewN | apply below_drew1) | exact HB.out))) HCL.out F3.out).mono ?_; rintro e' w' ⟨rfl, hb⟩; have n0_ := Aside0.mk (below_step (by repeat (first | (with_reducible first | exact HB.out | apply below_alloc | apply pw_below_drewN | apply below_drew1) | exact HB.out)) hb); (first | have n1_ := Aside0.mk (blk_below BKt.out hb) | have n1_ := Aside0.mk (blk_below (blk_drewN BKt.out _) hb) | have n1_ := Aside0.mk (blk_below (blk_drew BKt.out) hb) | have n1_ := Aside0.mk (blk_below (blk_alloc BKt.out _) hb) | have n1_ := Aside0.mk (blk_below (by (with_reducible repeat (first | refine blk_drewN ?_ _ | refine blk_drew ?_ | refine blk_alloc ?_ _)); exact BKt.out) hb)); clear HB BKt; have HB := n0_; have BKt := n1_; clear n0_ n1_ hb))
      | ((with_reducible refine gate_dst (N := 13) rfl ?_); refine box_event ?hg (N := 13) ?hd (cs := bcells (zero64 ++ zero64)) (t := 47) ?hr ?_; (case hd => rfl); (case hg => rfl); (case hr => exact alloc47_run rfl _); intro gt hg w1t hbox hb; have Gt := Aside0.mk (show w.heap.size ≤ gt from by rw [hg]; exact below_size (by repeat (first | (with_reducible first | exact HB.out | apply below_alloc | apply pw_below_drewN | apply below_drew1) | exact HB.out))); have BKt := Aside0.mk hbox; clear hbox hg; have n0_ := Aside0.mk (below_step (by repeat (first | (with_reducible first | exact HB.out | apply below_alloc | apply pw_below_drewN | apply below_drew1) | exact HB.out)) hb); clear HB; have HB := n0_; clear n0_ hb)
      | (refine wpList_store_blk rfl (.tmp 33) (.tmp 31) rfl gt 0 rfl X0 L0.out rfl (zero64 ++ zero64) 47 BKt.out (by rw [List.length_append]; (first | rw [L0.out] | skip); decide) w.heap.size HB.out Gt.out ?_; intro w1 h1 h2 h3; rw [splice_l _ _ _ (by rw [L0.out]; rfl)] at h1; clear BKt HB h2; have BKt := Aside0.mk h1; have HB := Aside0.mk h3; clear h1 h3)
      | (refine wpList_store_blk rfl (.tmp 40) (.tmp 38) rfl gt 64 rfl X1 L1.out rfl (X0 ++ zero64) 47 BKt.out (by rw [List.length_append]; (first | rw [L0.out] | skip); decide) w.heap.size HB.out Gt.out ?_; intro w1 h1 h2 h3; rw [splice_r _ _ _ L0.out (by rw [L1.out]; rfl)] at h1; clear BKt HB h2; have BKt := Aside0.mk h1; have HB := Aside0.mk h3; clear h1 h3)
      | ((with_reducible refine gate_dst (N := 17) rfl ?_); refine box_event ?hg (N := 17) ?hd (cs := bcells zero64) (t := 26) ?hr ?_; (case hd => rfl); (case hg => rfl); (case hr => first | (go_simp; done) | (go_simp; rfl)); intro gh hg w1h hbox hb; have Gh := Aside0.mk (show w.heap.size ≤ gh from by rw [hg]; exact below_size (by repeat (first | (with_reducible first | exact HB.out | apply below_alloc | apply pw_below_drewN | apply below_drew1) | exact HB.out))); have NEth := Aside0.mk (show gt ≠ gh from by rw [hg]; exact Nat.ne_of_lt (blk_lt (by (with_reducible repeat (first | refine blk_drewN ?_ _ | refine blk_drew ?_ | refine blk_alloc ?_ _)); exact BKt.out))); have BKh := Aside0.mk hbox; clear hbox hg; have n0_ := Aside0.mk (below_step (by repeat (first | (with_reducible first | exact HB.out | apply below_alloc | apply pw_below_drewN | apply below_drew1) | exact HB.out)) hb); (first | have n1_ := Aside0.mk (blk_below BKt.out hb) | have n1_ := Aside0.mk (blk_below (blk_drewN BKt.out _) hb) | have n1_ := Aside0.mk (blk_below (blk_drew BKt.out) hb) | have n1_ := Aside0.mk (blk_below (blk_alloc BKt.out _) hb) | have n1_ := Aside0.mk (blk_below (by (with_reducible repeat (first | refine blk_drewN ?_ _ | refine blk_drew ?_ | refine blk_alloc ?_ _)); exact BKt.out) hb)); clear HB BKt; have HB := n0_; have BKt := n1_; clear n0_ n1_ hb)
      | (refine wpList_store_row rfl 26 (.tmp 17) (.tmp 48) rfl gh (bcells X2) rfl (by rfl) 26 (bcells zero64) (by (with_reducible repeat (first | refine blk_drewN ?_ _ | refine blk_drew ?_ | refine blk_alloc ?_ _)); exact BKh.out) (seal_size _ L2.out) (by rw [bcells_size, bcells_size, L2.out]; rfl) (bcells_all _) ?_; have n0 := Aside0.mk (below_setRow (show Below w.heap.size w _ from by repeat (first | (with_reducible first | exact HB.out | apply below_alloc | apply pw_below_drewN | apply below_drew1) | exact HB.out)) (show w.heap.size ≤ gh from Gh.out) (bcells X2)); have n1 := Aside0.mk (setRow_heap _ _ _ (bcells X2) _ _ (by (with_reducible repeat (first | refine blk_drewN ?_ _ | refine blk_drew ?_ | refine blk_alloc ?_ _)); exact BKh.out)); have kt := Aside0.mk ((setRow_other _ gh gt (bcells X2) NEth.out).trans (by (with_reducible repeat (first | refine blk_drewN ?_ _ | refine blk_drew ?_ | refine blk_alloc ?_ _)); exact BKt.out)); generalize World.setRow _ _ _ = w3 at n0 n1 kt; clear HB BKh BKt; have HB := n0; have BKh := n1; have BKt := kt; clear kt; clear n0 n1)
      | (go_at_call 12; with_reducible refine (law_lives.calls _).mono ?_; rintro e' w' ⟨rfl, hb⟩; have n0_ := Aside0.mk (below_step (by repeat (first | (with_reducible first | exact HB.out | apply below_alloc | apply pw_below_drewN | apply below_drew1) | exact HB.out)) hb); clear HB; have HB := n0_; clear n0_ hb))
    go_ret
    exact ⟨rfl, by repeat (first | (with_reducible first | exact HB.out | apply below_alloc | apply pw_below_drewN | apply below_drew1) | exact HB.out)⟩

set_option maxHeartbeats 16000000 in
set_option maxRecDepth 100000 in
theorem sealNext.callsA4 (k : Nat) (n m : Int) (A : Option Addr) (ca : Nat) (a : List Int) (B : Option Addr) (cb : Nat) (b : List Int) (C : Option Addr) (cc : Nat) (c : List Int) (p : Int) (N M T : Int) (w : World) (ha : Kd.C (Kd.int .u8) w A a.length a) (hca : a.length ≤ ca) (hb : Kd.C (Kd.int .u8) w B b.length b) (hcb : b.length ≤ cb) (hc : Kd.C (Kd.int .u8) w C c.length c) (hcc : c.length ≤ cc)
    (hN : IntKind.u64.wrap (Int.tmod n 1152921504606846976 + 1) = N) (hM : IntKind.u64.wrap (Int.tmod m 1152921504606846976 + 1) = M) (hT : IntKind.u64.wrap (max N M + 1) = T)
    (X0 X1 X2 : List Int) (l0 : X0.length = 64) (l1 : X1.length = 64) (l2 : X2.length = 64) (e1 e2 e3 : Int) (f1 : seal_Put.f k N a = some (X0, e1)) (f2 : seal_Put.f k M b = some (X1, e2)) (f3 : seal_Put.f k T c = some (X2, e3)) (h1 : N ≠ M) (h2 : e1 = 0) (h3 : e2 = 0) (h4 : e3 ≠ 0) :
    Calls Try.prog 7 #[.int .u64 n, .int .u64 m, .slice A a.length ca, .slice B b.length cb, .slice C c.length cc, .int .i64 p] w fun e' w' => e' = .returned (.bool true) ∧ Below w.heap.size w w' := by
  have HB := Aside0.mk (Below.refl w.heap.size w)
  have HA := Aside0.mk ha
  have HAL := Aside0.mk hca
  have HQ := Aside0.mk hb
  have HQL := Aside0.mk hcb
  have HC := Aside0.mk hc
  have HCL := Aside0.mk hcc
  have L0 := Aside0.mk l0
  have L1 := Aside0.mk l1
  have L2 := Aside0.mk l2
  have F1 := Aside0.mk f1
  have F2 := Aside0.mk f2
  have F3 := Aside0.mk f3
  clear ha hca hb hcb hc hcc l0 l1 l2 f1 f2 f3
  have q1 : (N == M) = false := by simpa using h1
  subst h2
  subst h3
  have q2 : (e3 != 0) = true := by simpa using h4
  clear h1 h4
  rcases Int.lt_or_le N M with hlt | hlt
  · have hT' : IntKind.u64.wrap (M + 1) = T := by rw [← hT, Int.max_eq_right (Int.le_of_lt hlt)]
    clear hT
    go_enter Try.func7, Try.ntmps7
    go_wp2_with (first
      | (go_at_call 9; first | (with_reducible refine (seal_Put.calls k N A ca a X0 0 _ (Kd.C_below HA.out (by repeat (first | (with_reducible first | exact HB.out | apply below_alloc | apply pw_below_drewN | apply below_drew1) | exact HB.out))) HAL.out F1.out).mono ?_; rintro e' w' ⟨rfl, hb⟩; have n0_ := Aside0.mk (below_step (by repeat (first | (with_reducible first | exact HB.out | apply below_alloc | apply pw_below_drewN | apply below_drew1) | exact HB.out)) hb); (first | have n1_ := Aside0.mk (blk_below BKt.out hb) | have n1_ := Aside0.mk (blk_below (blk_drewN BKt.out _) hb) | have n1_ := Aside0.mk (blk_below (blk_drew BKt.out) hb) | have n1_ := Aside0.mk (blk_below (blk_alloc BKt.out _) hb) | have n1_ := Aside0.mk (blk_below (by (with_reducible repeat (first | refine blk_drewN ?_ _ | refine blk_drew ?_ | refine blk_alloc ?_ _)); exact BKt.out) hb)); clear HB BKt; have HB := n0_; have BKt := n1_; clear n0_ n1_ hb) | (with_reducible refine (seal_Put.calls k M B cb b X1 0 _ (Kd.C_below HQ.out (by repeat (first | (with_reducible first | exact HB.out | apply below_alloc | apply pw_below_drewN | apply below_drew1) | exact HB.out))) HQL.out F2.out).mono ?_; rintro e' w' ⟨rfl, hb⟩; have n0_ := Aside0.mk (below_step (by repeat (first | (with_reducible first | exact HB.out | apply below_alloc | apply pw_below_drewN | apply below_drew1) | exact HB.out)) hb); (first | have n1_ := Aside0.mk (blk_below BKt.out hb) | have n1_ := Aside0.mk (blk_below (blk_drewN BKt.out _) hb) | have n1_ := Aside0.mk (blk_below (blk_drew BKt.out) hb) | have n1_ := Aside0.mk (blk_below (blk_alloc BKt.out _) hb) | have n1_ := Aside0.mk (blk_below (by (with_reducible repeat (first | refine blk_drewN ?_ _ | refine blk_drew ?_ | refine blk_alloc ?_ _)); exact BKt.out) hb)); clear HB BKt; have HB := n0_; have BKt := n1_; clear n0_ n1_ hb) | (with_reducible refine (seal_Put.calls k T C cc c X2 e3 _ (Kd.C_below HC.out (by repeat (first | (with_reducible first | exact HB.out | apply below_alloc | apply pw_below_drewN | apply below_drew1) | exact HB.out))) HCL.out F3.out).mono ?_; rintro e' w' ⟨rfl, hb⟩; have n0_ := Aside0.mk (below_step (by repeat (first | (with_reducible first | exact HB.out | apply below_alloc | apply pw_below_drewN | apply below_drew1) | exact HB.out)) hb); (first | have n1_ := Aside0.mk (blk_below BKt.out hb) | have n1_ := Aside0.mk (blk_below (blk_drewN BKt.out _) hb) | have n1_ := Aside0.mk (blk_below (blk_drew BKt.out) hb) | have n1_ := Aside0.mk (blk_below (blk_alloc BKt.out _) hb) | have n1_ := Aside0.mk (blk_below (by (with_reducible repeat (first | refine blk_drewN ?_ _ | refine blk_drew ?_ | refine blk_alloc ?_ _)); exact BKt.out) hb)); clear HB BKt; have HB := n0_; have BKt := n1_; clear n0_ n1_ hb))
      | ((with_reducible refine gate_dst (N := 13) rfl ?_); refine box_event ?hg (N := 13) ?hd (cs := bcells (zero64 ++ zero64)) (t := 47) ?hr ?_; (case hd => rfl); (case hg => rfl); (case hr => exact alloc47_run rfl _); intro gt hg w1t hbox hb; have Gt := Aside0.mk (show w.heap.size ≤ gt from by rw [hg]; exact below_size (by repeat (first | (with_reducible first | exact HB.out | apply below_alloc | apply pw_below_drewN | apply below_drew1) | exact HB.out))); have BKt := Aside0.mk hbox; clear hbox hg; have n0_ := Aside0.mk (below_step (by repeat (first | (with_reducible first | exact HB.out | apply below_alloc | apply pw_below_drewN | apply below_drew1) | exact HB.out)) hb); clear HB; have HB := n0_; clear n0_ hb)
      | (refine wpList_store_blk rfl (.tmp 33) (.tmp 31) rfl gt 0 rfl X0 L0.out rfl (zero64 ++ zero64) 47 BKt.out (by rw [List.length_append]; (first | rw [L0.out] | skip); decide) w.heap.size HB.out Gt.out ?_; intro w1 h1 h2 h3; rw [splice_l _ _ _ (by rw [L0.out]; rfl)] at h1; clear BKt HB h2; have BKt := Aside0.mk h1; have HB := Aside0.mk h3; clear h1 h3)
      | (refine wpList_store_blk rfl (.tmp 40) (.tmp 38) rfl gt 64 rfl X1 L1.out rfl (X0 ++ zero64) 47 BKt.out (by rw [List.length_append]; (first | rw [L0.out] | skip); decide) w.heap.size HB.out Gt.out ?_; intro w1 h1 h2 h3; rw [splice_r _ _ _ L0.out (by rw [L1.out]; rfl)] at h1; clear BKt HB h2; have BKt := Aside0.mk h1; have HB := Aside0.mk h3; clear h1 h3)
      | ((with_reducible refine gate_dst (N := 17) rfl ?_); refine box_event ?hg (N := 17) ?hd (cs := bcells zero64) (t := 26) ?hr ?_; (case hd => rfl); (case hg => rfl); (case hr => first | (go_simp; done) | (go_simp; rfl)); intro gh hg w1h hbox hb; have Gh := Aside0.mk (show w.heap.size ≤ gh from by rw [hg]; exact below_size (by repeat (first | (with_reducible first | exact HB.out | apply below_alloc | apply pw_below_drewN | apply below_drew1) | exact HB.out))); have NEth := Aside0.mk (show gt ≠ gh from by rw [hg]; exact Nat.ne_of_lt (blk_lt (by (with_reducible repeat (first | refine blk_drewN ?_ _ | refine blk_drew ?_ | refine blk_alloc ?_ _)); exact BKt.out))); have BKh := Aside0.mk hbox; clear hbox hg; have n0_ := Aside0.mk (below_step (by repeat (first | (with_reducible first | exact HB.out | apply below_alloc | apply pw_below_drewN | apply below_drew1) | exact HB.out)) hb); (first | have n1_ := Aside0.mk (blk_below BKt.out hb) | have n1_ := Aside0.mk (blk_below (blk_drewN BKt.out _) hb) | have n1_ := Aside0.mk (blk_below (blk_drew BKt.out) hb) | have n1_ := Aside0.mk (blk_below (blk_alloc BKt.out _) hb) | have n1_ := Aside0.mk (blk_below (by (with_reducible repeat (first | refine blk_drewN ?_ _ | refine blk_drew ?_ | refine blk_alloc ?_ _)); exact BKt.out) hb)); clear HB BKt; have HB := n0_; have BKt := n1_; clear n0_ n1_ hb)
      | (refine wpList_store_row rfl 26 (.tmp 17) (.tmp 48) rfl gh (bcells X2) rfl (by rfl) 26 (bcells zero64) (by (with_reducible repeat (first | refine blk_drewN ?_ _ | refine blk_drew ?_ | refine blk_alloc ?_ _)); exact BKh.out) (seal_size _ L2.out) (by rw [bcells_size, bcells_size, L2.out]; rfl) (bcells_all _) ?_; have n0 := Aside0.mk (below_setRow (show Below w.heap.size w _ from by repeat (first | (with_reducible first | exact HB.out | apply below_alloc | apply pw_below_drewN | apply below_drew1) | exact HB.out)) (show w.heap.size ≤ gh from Gh.out) (bcells X2)); have n1 := Aside0.mk (setRow_heap _ _ _ (bcells X2) _ _ (by (with_reducible repeat (first | refine blk_drewN ?_ _ | refine blk_drew ?_ | refine blk_alloc ?_ _)); exact BKh.out)); have kt := Aside0.mk ((setRow_other _ gh gt (bcells X2) NEth.out).trans (by (with_reducible repeat (first | refine blk_drewN ?_ _ | refine blk_drew ?_ | refine blk_alloc ?_ _)); exact BKt.out)); generalize World.setRow _ _ _ = w3 at n0 n1 kt; clear HB BKh BKt; have HB := n0; have BKh := n1; have BKt := kt; clear kt; clear n0 n1)
      | (go_at_call 12; with_reducible refine (law_lives.calls _).mono ?_; rintro e' w' ⟨rfl, hb⟩; have n0_ := Aside0.mk (below_step (by repeat (first | (with_reducible first | exact HB.out | apply below_alloc | apply pw_below_drewN | apply below_drew1) | exact HB.out)) hb); clear HB; have HB := n0_; clear n0_ hb))
    go_ret
    exact ⟨rfl, by repeat (first | (with_reducible first | exact HB.out | apply below_alloc | apply pw_below_drewN | apply below_drew1) | exact HB.out)⟩
  · have hT' : IntKind.u64.wrap (N + 1) = T := by rw [← hT, Int.max_eq_left hlt]
    clear hT
    go_enter Try.func7, Try.ntmps7
    go_wp2_with (first
      | (go_at_call 9; first | (with_reducible refine (seal_Put.calls k N A ca a X0 0 _ (Kd.C_below HA.out (by repeat (first | (with_reducible first | exact HB.out | apply below_alloc | apply pw_below_drewN | apply below_drew1) | exact HB.out))) HAL.out F1.out).mono ?_; rintro e' w' ⟨rfl, hb⟩; have n0_ := Aside0.mk (below_step (by repeat (first | (with_reducible first | exact HB.out | apply below_alloc | apply pw_below_drewN | apply below_drew1) | exact HB.out)) hb); (first | have n1_ := Aside0.mk (blk_below BKt.out hb) | have n1_ := Aside0.mk (blk_below (blk_drewN BKt.out _) hb) | have n1_ := Aside0.mk (blk_below (blk_drew BKt.out) hb) | have n1_ := Aside0.mk (blk_below (blk_alloc BKt.out _) hb) | have n1_ := Aside0.mk (blk_below (by (with_reducible repeat (first | refine blk_drewN ?_ _ | refine blk_drew ?_ | refine blk_alloc ?_ _)); exact BKt.out) hb)); clear HB BKt; have HB := n0_; have BKt := n1_; clear n0_ n1_ hb) | (with_reducible refine (seal_Put.calls k M B cb b X1 0 _ (Kd.C_below HQ.out (by repeat (first | (with_reducible first | exact HB.out | apply below_alloc | apply pw_below_drewN | apply below_drew1) | exact HB.out))) HQL.out F2.out).mono ?_; rintro e' w' ⟨rfl, hb⟩; have n0_ := Aside0.mk (below_step (by repeat (first | (with_reducible first | exact HB.out | apply below_alloc | apply pw_below_drewN | apply below_drew1) | exact HB.out)) hb); (first | have n1_ := Aside0.mk (blk_below BKt.out hb) | have n1_ := Aside0.mk (blk_below (blk_drewN BKt.out _) hb) | have n1_ := Aside0.mk (blk_below (blk_drew BKt.out) hb) | have n1_ := Aside0.mk (blk_below (blk_alloc BKt.out _) hb) | have n1_ := Aside0.mk (blk_below (by (with_reducible repeat (first | refine blk_drewN ?_ _ | refine blk_drew ?_ | refine blk_alloc ?_ _)); exact BKt.out) hb)); clear HB BKt; have HB := n0_; have BKt := n1_; clear n0_ n1_ hb) | (with_reducible refine (seal_Put.calls k T C cc c X2 e3 _ (Kd.C_below HC.out (by repeat (first | (with_reducible first | exact HB.out | apply below_alloc | apply pw_below_drewN | apply below_drew1) | exact HB.out))) HCL.out F3.out).mono ?_; rintro e' w' ⟨rfl, hb⟩; have n0_ := Aside0.mk (below_step (by repeat (first | (with_reducible first | exact HB.out | apply below_alloc | apply pw_below_drewN | apply below_drew1) | exact HB.out)) hb); (first | have n1_ := Aside0.mk (blk_below BKt.out hb) | have n1_ := Aside0.mk (blk_below (blk_drewN BKt.out _) hb) | have n1_ := Aside0.mk (blk_below (blk_drew BKt.out) hb) | have n1_ := Aside0.mk (blk_below (blk_alloc BKt.out _) hb) | have n1_ := Aside0.mk (blk_below (by (with_reducible repeat (first | refine blk_drewN ?_ _ | refine blk_drew ?_ | refine blk_alloc ?_ _)); exact BKt.out) hb)); clear HB BKt; have HB := n0_; have BKt := n1_; clear n0_ n1_ hb))
      | ((with_reducible refine gate_dst (N := 13) rfl ?_); refine box_event ?hg (N := 13) ?hd (cs := bcells (zero64 ++ zero64)) (t := 47) ?hr ?_; (case hd => rfl); (case hg => rfl); (case hr => exact alloc47_run rfl _); intro gt hg w1t hbox hb; have Gt := Aside0.mk (show w.heap.size ≤ gt from by rw [hg]; exact below_size (by repeat (first | (with_reducible first | exact HB.out | apply below_alloc | apply pw_below_drewN | apply below_drew1) | exact HB.out))); have BKt := Aside0.mk hbox; clear hbox hg; have n0_ := Aside0.mk (below_step (by repeat (first | (with_reducible first | exact HB.out | apply below_alloc | apply pw_below_drewN | apply below_drew1) | exact HB.out)) hb); clear HB; have HB := n0_; clear n0_ hb)
      | (refine wpList_store_blk rfl (.tmp 33) (.tmp 31) rfl gt 0 rfl X0 L0.out rfl (zero64 ++ zero64) 47 BKt.out (by rw [List.length_append]; (first | rw [L0.out] | skip); decide) w.heap.size HB.out Gt.out ?_; intro w1 h1 h2 h3; rw [splice_l _ _ _ (by rw [L0.out]; rfl)] at h1; clear BKt HB h2; have BKt := Aside0.mk h1; have HB := Aside0.mk h3; clear h1 h3)
      | (refine wpList_store_blk rfl (.tmp 40) (.tmp 38) rfl gt 64 rfl X1 L1.out rfl (X0 ++ zero64) 47 BKt.out (by rw [List.length_append]; (first | rw [L0.out] | skip); decide) w.heap.size HB.out Gt.out ?_; intro w1 h1 h2 h3; rw [splice_r _ _ _ L0.out (by rw [L1.out]; rfl)] at h1; clear BKt HB h2; have BKt := Aside0.mk h1; have HB := Aside0.mk h3; clear h1 h3)
      | ((with_reducible refine gate_dst (N := 17) rfl ?_); refine box_event ?hg (N := 17) ?hd (cs := bcells zero64) (t := 26) ?hr ?_; (case hd => rfl); (case hg => rfl); (case hr => first | (go_simp; done) | (go_simp; rfl)); intro gh hg w1h hbox hb; have Gh := Aside0.mk (show w.heap.size ≤ gh from by rw [hg]; exact below_size (by repeat (first | (with_reducible first | exact HB.out | apply below_alloc | apply pw_below_drewN | apply below_drew1) | exact HB.out))); have NEth := Aside0.mk (show gt ≠ gh from by rw [hg]; exact Nat.ne_of_lt (blk_lt (by (with_reducible repeat (first | refine blk_drewN ?_ _ | refine blk_drew ?_ | refine blk_alloc ?_ _)); exact BKt.out))); have BKh := Aside0.mk hbox; clear hbox hg; have n0_ := Aside0.mk (below_step (by repeat (first | (with_reducible first | exact HB.out | apply below_alloc | apply pw_below_drewN | apply below_drew1) | exact HB.out)) hb); (first | have n1_ := Aside0.mk (blk_below BKt.out hb) | have n1_ := Aside0.mk (blk_below (blk_drewN BKt.out _) hb) | have n1_ := Aside0.mk (blk_below (blk_drew BKt.out) hb) | have n1_ := Aside0.mk (blk_below (blk_alloc BKt.out _) hb) | have n1_ := Aside0.mk (blk_below (by (with_reducible repeat (first | refine blk_drewN ?_ _ | refine blk_drew ?_ | refine blk_alloc ?_ _)); exact BKt.out) hb)); clear HB BKt; have HB := n0_; have BKt := n1_; clear n0_ n1_ hb)
      | (refine wpList_store_row rfl 26 (.tmp 17) (.tmp 48) rfl gh (bcells X2) rfl (by rfl) 26 (bcells zero64) (by (with_reducible repeat (first | refine blk_drewN ?_ _ | refine blk_drew ?_ | refine blk_alloc ?_ _)); exact BKh.out) (seal_size _ L2.out) (by rw [bcells_size, bcells_size, L2.out]; rfl) (bcells_all _) ?_; have n0 := Aside0.mk (below_setRow (show Below w.heap.size w _ from by repeat (first | (with_reducible first | exact HB.out | apply below_alloc | apply pw_below_drewN | apply below_drew1) | exact HB.out)) (show w.heap.size ≤ gh from Gh.out) (bcells X2)); have n1 := Aside0.mk (setRow_heap _ _ _ (bcells X2) _ _ (by (with_reducible repeat (first | refine blk_drewN ?_ _ | refine blk_drew ?_ | refine blk_alloc ?_ _)); exact BKh.out)); have kt := Aside0.mk ((setRow_other _ gh gt (bcells X2) NEth.out).trans (by (with_reducible repeat (first | refine blk_drewN ?_ _ | refine blk_drew ?_ | refine blk_alloc ?_ _)); exact BKt.out)); generalize World.setRow _ _ _ = w3 at n0 n1 kt; clear HB BKh BKt; have HB := n0; have BKh := n1; have BKt := kt; clear kt; clear n0 n1)
      | (go_at_call 12; with_reducible refine (law_lives.calls _).mono ?_; rintro e' w' ⟨rfl, hb⟩; have n0_ := Aside0.mk (below_step (by repeat (first | (with_reducible first | exact HB.out | apply below_alloc | apply pw_below_drewN | apply below_drew1) | exact HB.out)) hb); clear HB; have HB := n0_; clear n0_ hb))
    go_ret
    exact ⟨rfl, by repeat (first | (with_reducible first | exact HB.out | apply below_alloc | apply pw_below_drewN | apply below_drew1) | exact HB.out)⟩

set_option maxHeartbeats 16000000 in
set_option maxRecDepth 100000 in
theorem sealNext.callsB0 (k : Nat) (n m : Int) (A : Option Addr) (ca : Nat) (a : List Int) (B : Option Addr) (cb : Nat) (b : List Int) (C : Option Addr) (cc : Nat) (c : List Int) (p : Int) (N M T : Int) (w : World) (ha : Kd.C (Kd.int .u8) w A a.length a) (hca : a.length ≤ ca) (hb : Kd.C (Kd.int .u8) w B b.length b) (hcb : b.length ≤ cb) (hc : Kd.C (Kd.int .u8) w C c.length c) (hcc : c.length ≤ cc)
    (hN : IntKind.u64.wrap (Int.tmod n 1152921504606846976 + 1) = N) (hM : IntKind.u64.wrap (Int.tmod m 1152921504606846976 + 1) = M) (hT : IntKind.u64.wrap (max N M + 1) = T)
    (X0 X1 X2 : List Int) (l0 : X0.length = 64) (l1 : X1.length = 64) (l2 : X2.length = 64) (f1 : seal_Put.f k N a = some (X0, 0)) (f2 : seal_Put.f k M b = some (X1, 0)) (f3 : seal_Put.f k T c = some (X2, 0)) (h1 : N ≠ M) (h2 : N < M) (fn : seal_Next.f k X0 X1 = some 0) (z : List Int) (hz : z = tornL X0 X2 p) (wh : Int) (fw : seal_Newest.f k z X1 = some (wh, 0)) (hwh : wh = 0 ↔ z = X2) :
    Calls Try.prog 7 #[.int .u64 n, .int .u64 m, .slice A a.length ca, .slice B b.length cb, .slice C c.length cc, .int .i64 p] w fun e' w' => e' = .returned (.bool true) ∧ Below w.heap.size w w' := by
  have HB := Aside0.mk (Below.refl w.heap.size w)
  have HA := Aside0.mk ha
  have HAL := Aside0.mk hca
  have HQ := Aside0.mk hb
  have HQL := Aside0.mk hcb
  have HC := Aside0.mk hc
  have HCL := Aside0.mk hcc
  have L0 := Aside0.mk l0
  have L1 := Aside0.mk l1
  have L2 := Aside0.mk l2
  have F1 := Aside0.mk f1
  have F2 := Aside0.mk f2
  have F3 := Aside0.mk f3
  clear ha hca hb hcb hc hcc l0 l1 l2 f1 f2 f3
  have FN := Aside0.mk fn
  have FW := Aside0.mk fw
  have HWH := Aside0.mk hwh
  have LZ := Aside0.mk (show z.length = 64 from by rw [hz]; exact tornL_len _ _ L0.out L2.out p)
  have TC := Aside0.mk (show ∀ W, Calls Try.prog 22 #[.agg (bcells X0), .agg (bcells X2), .int .i64 p] W fun e' w' => e' = .returned (.agg (bcells z)) ∧ Below W.heap.size W w' from fun W => by rw [hz]; exact torn.calls X0 X2 L0.out L2.out p W)
  have p1 : (N == M) = false := by simpa using h1
  have p2 : decide (N < M) = true := decide_eq_true h2
  have hT' : IntKind.u64.wrap (M + 1) = T := by rw [← hT, Int.max_eq_right (Int.le_of_lt h2)]
  clear hT
  clear h1 fn fw hwh hz
  go_enter Try.func7, Try.ntmps7
  go_wp2_with (first
    | (go_at_call 9; first | (with_reducible refine (seal_Put.calls k N A ca a X0 0 _ (Kd.C_below HA.out (by repeat (first | (with_reducible first | exact HB.out | apply below_alloc | apply pw_below_drewN | apply below_drew1) | exact HB.out))) HAL.out F1.out).mono ?_; rintro e' w' ⟨rfl, hb⟩; have n0_ := Aside0.mk (below_step (by repeat (first | (with_reducible first | exact HB.out | apply below_alloc | apply pw_below_drewN | apply below_drew1) | exact HB.out)) hb); (first | have n1_ := Aside0.mk (blk_below BKt.out hb) | have n1_ := Aside0.mk (blk_below (blk_drewN BKt.out _) hb) | have n1_ := Aside0.mk (blk_below (blk_drew BKt.out) hb) | have n1_ := Aside0.mk (blk_below (blk_alloc BKt.out _) hb) | have n1_ := Aside0.mk (blk_below (by (with_reducible repeat (first | refine blk_drewN ?_ _ | refine blk_drew ?_ | refine blk_alloc ?_ _)); exact BKt.out) hb)); clear HB BKt; have HB := n0_; have BKt := n1_; clear n0_ n1_ hb) | (with_reducible refine (seal_Put.calls k M B cb b X1 0 _ (Kd.C_below HQ.out (by repeat (first | (with_reducible first | exact HB.out | apply below_alloc | apply pw_below_drewN | apply below_drew1) | exact HB.out))) HQL.out F2.out).mono ?_; rintro e' w' ⟨rfl, hb⟩; have n0_ := Aside0.mk (below_step (by repeat (first | (with_reducible first | exact HB.out | apply below_alloc | apply pw_below_drewN | apply below_drew1) | exact HB.out)) hb); (first | have n1_ := Aside0.mk (blk_below BKt.out hb) | have n1_ := Aside0.mk (blk_below (blk_drewN BKt.out _) hb) | have n1_ := Aside0.mk (blk_below (blk_drew BKt.out) hb) | have n1_ := Aside0.mk (blk_below (blk_alloc BKt.out _) hb) | have n1_ := Aside0.mk (blk_below (by (with_reducible repeat (first | refine blk_drewN ?_ _ | refine blk_drew ?_ | refine blk_alloc ?_ _)); exact BKt.out) hb)); clear HB BKt; have HB := n0_; have BKt := n1_; clear n0_ n1_ hb) | (with_reducible refine (seal_Put.calls k T C cc c X2 0 _ (Kd.C_below HC.out (by repeat (first | (with_reducible first | exact HB.out | apply below_alloc | apply pw_below_drewN | apply below_drew1) | exact HB.out))) HCL.out F3.out).mono ?_; rintro e' w' ⟨rfl, hb⟩; have n0_ := Aside0.mk (below_step (by repeat (first | (with_reducible first | exact HB.out | apply below_alloc | apply pw_below_drewN | apply below_drew1) | exact HB.out)) hb); (first | have n1_ := Aside0.mk (blk_below BKt.out hb) | have n1_ := Aside0.mk (blk_below (blk_drewN BKt.out _) hb) | have n1_ := Aside0.mk (blk_below (blk_drew BKt.out) hb) | have n1_ := Aside0.mk (blk_below (blk_alloc BKt.out _) hb) | have n1_ := Aside0.mk (blk_below (by (with_reducible repeat (first | refine blk_drewN ?_ _ | refine blk_drew ?_ | refine blk_alloc ?_ _)); exact BKt.out) hb)); clear HB BKt; have HB := n0_; have BKt := n1_; clear n0_ n1_ hb))
    | ((with_reducible refine gate_dst (N := 13) rfl ?_); refine box_event ?hg (N := 13) ?hd (cs := bcells (zero64 ++ zero64)) (t := 47) ?hr ?_; (case hd => rfl); (case hg => rfl); (case hr => exact alloc47_run rfl _); intro gt hg w1t hbox hb; have Gt := Aside0.mk (show w.heap.size ≤ gt from by rw [hg]; exact below_size (by repeat (first | (with_reducible first | exact HB.out | apply below_alloc | apply pw_below_drewN | apply below_drew1) | exact HB.out))); have BKt := Aside0.mk hbox; clear hbox hg; have n0_ := Aside0.mk (below_step (by repeat (first | (with_reducible first | exact HB.out | apply below_alloc | apply pw_below_drewN | apply below_drew1) | exact HB.out)) hb); clear HB; have HB := n0_; clear n0_ hb)
    | (refine wpList_store_blk rfl (.tmp 33) (.tmp 31) rfl gt 0 rfl X0 L0.out rfl (zero64 ++ zero64) 47 BKt.out (by rw [List.length_append]; (first | rw [L0.out] | skip); decide) w.heap.size HB.out Gt.out ?_; intro w1 h1 h2 h3; rw [splice_l _ _ _ (by rw [L0.out]; rfl)] at h1; clear BKt HB h2; have BKt := Aside0.mk h1; have HB := Aside0.mk h3; clear h1 h3)
    | (refine wpList_store_blk rfl (.tmp 40) (.tmp 38) rfl gt 64 rfl X1 L1.out rfl (X0 ++ zero64) 47 BKt.out (by rw [List.length_append]; (first | rw [L0.out] | skip); decide) w.heap.size HB.out Gt.out ?_; intro w1 h1 h2 h3; rw [splice_r _ _ _ L0.out (by rw [L1.out]; rfl)] at h1; clear BKt HB h2; have BKt := Aside0.mk h1; have HB := Aside0.mk h3; clear h1 h3)
    | ((with_reducible refine gate_dst (N := 17) rfl ?_); refine box_event ?hg (N := 17) ?hd (cs := bcells zero64) (t := 26) ?hr ?_; (case hd => rfl); (case hg => rfl); (case hr => first | (go_simp; done) | (go_simp; rfl)); intro gh hg w1h hbox hb; have Gh := Aside0.mk (show w.heap.size ≤ gh from by rw [hg]; exact below_size (by repeat (first | (with_reducible first | exact HB.out | apply below_alloc | apply pw_below_drewN | apply below_drew1) | exact HB.out))); have NEth := Aside0.mk (show gt ≠ gh from by rw [hg]; exact Nat.ne_of_lt (blk_lt (by (with_reducible repeat (first | refine blk_drewN ?_ _ | refine blk_drew ?_ | refine blk_alloc ?_ _)); exact BKt.out))); have BKh := Aside0.mk hbox; clear hbox hg; have n0_ := Aside0.mk (below_step (by repeat (first | (with_reducible first | exact HB.out | apply below_alloc | apply pw_below_drewN | apply below_drew1) | exact HB.out)) hb); (first | have n1_ := Aside0.mk (blk_below BKt.out hb) | have n1_ := Aside0.mk (blk_below (blk_drewN BKt.out _) hb) | have n1_ := Aside0.mk (blk_below (blk_drew BKt.out) hb) | have n1_ := Aside0.mk (blk_below (blk_alloc BKt.out _) hb) | have n1_ := Aside0.mk (blk_below (by (with_reducible repeat (first | refine blk_drewN ?_ _ | refine blk_drew ?_ | refine blk_alloc ?_ _)); exact BKt.out) hb)); clear HB BKt; have HB := n0_; have BKt := n1_; clear n0_ n1_ hb)
    | (refine wpList_store_row rfl 26 (.tmp 17) (.tmp 48) rfl gh (bcells X2) rfl (by rfl) 26 (bcells zero64) (by (with_reducible repeat (first | refine blk_drewN ?_ _ | refine blk_drew ?_ | refine blk_alloc ?_ _)); exact BKh.out) (seal_size _ L2.out) (by rw [bcells_size, bcells_size, L2.out]; rfl) (bcells_all _) ?_; have n0 := Aside0.mk (below_setRow (show Below w.heap.size w _ from by repeat (first | (with_reducible first | exact HB.out | apply below_alloc | apply pw_below_drewN | apply below_drew1) | exact HB.out)) (show w.heap.size ≤ gh from Gh.out) (bcells X2)); have n1 := Aside0.mk (setRow_heap _ _ _ (bcells X2) _ _ (by (with_reducible repeat (first | refine blk_drewN ?_ _ | refine blk_drew ?_ | refine blk_alloc ?_ _)); exact BKh.out)); have kt := Aside0.mk ((setRow_other _ gh gt (bcells X2) NEth.out).trans (by (with_reducible repeat (first | refine blk_drewN ?_ _ | refine blk_drew ?_ | refine blk_alloc ?_ _)); exact BKt.out)); generalize World.setRow _ _ _ = w3 at n0 n1 kt; clear HB BKh BKt; have HB := n0; have BKh := n1; have BKt := kt; clear kt; clear n0 n1)
    | ((with_reducible refine gate_dst (N := 70) rfl ?_); refine wpList_load_blk rfl (.tmp 69) rfl gt 0 rfl X0 L0.out (range_l (by (with_reducible repeat (first | refine blk_drewN ?_ _ | refine blk_drew ?_ | refine blk_alloc ?_ _)); exact BKt.out)) ?_)
    | ((with_reducible refine gate_dst (N := 72) rfl ?_); refine wpList_load_blk rfl (.tmp 71) rfl gt 64 rfl X1 L1.out (range_r (by (with_reducible repeat (first | refine blk_drewN ?_ _ | refine blk_drew ?_ | refine blk_alloc ?_ _)); exact BKt.out) L0.out) ?_)
    | (go_at_call 18; with_reducible refine (seal_Next.calls k X0 X1 L0.out L1.out 0 _ FN.out).mono ?_; rintro e' w' ⟨rfl, hb⟩; have n0_ := Aside0.mk (below_step (by repeat (first | (with_reducible first | exact HB.out | apply below_alloc | apply pw_below_drewN | apply below_drew1) | exact HB.out)) hb); (first | have n1_ := Aside0.mk (blk_below BKt.out hb) | have n1_ := Aside0.mk (blk_below (blk_drewN BKt.out _) hb) | have n1_ := Aside0.mk (blk_below (blk_drew BKt.out) hb) | have n1_ := Aside0.mk (blk_below (blk_alloc BKt.out _) hb) | have n1_ := Aside0.mk (blk_below (by (with_reducible repeat (first | refine blk_drewN ?_ _ | refine blk_drew ?_ | refine blk_alloc ?_ _)); exact BKt.out) hb)); (first | have n2_ := Aside0.mk (blk_below BKh.out hb) | have n2_ := Aside0.mk (blk_below (blk_drewN BKh.out _) hb) | have n2_ := Aside0.mk (blk_below (blk_drew BKh.out) hb) | have n2_ := Aside0.mk (blk_below (blk_alloc BKh.out _) hb) | have n2_ := Aside0.mk (blk_below (by (with_reducible repeat (first | refine blk_drewN ?_ _ | refine blk_drew ?_ | refine blk_alloc ?_ _)); exact BKh.out) hb)); clear HB BKt BKh; have HB := n0_; have BKt := n1_; have BKh := n2_; clear n0_ n1_ n2_ hb))
  refine start_ (n := 9) (S := fun w' => w'.heap[gt]? = some (.cells (bcells (X0 ++ X1)) 47 (0, 0)) ∧ w'.heap[gh]? = some (.cells (bcells X2) 26 (0, 0))) (ds := [8]) #[false, false, false, false, false, false, false, false, false] (by kernel_rfl) rfl rfl ⟨BKt.out, BKh.out⟩ (fun hHeld => ?_)
  refine pure_ (i := 0) (N := some 78) (v := ?_) (a' := ?_) #[true, false, false, false, false, false, false, false, false] rfl rfl (by kernel_rfl) (fun _ _ _ h => h) (Or.inl ⟨by rfl, ?_⟩) ?_ ?_
  rotate_left
  · intro w'
    go_simp
    with_reducible rfl
  rotate_left
  · simp only [Act.put, List.setIfInBounds_toArray, List.set_cons_zero, List.set_cons_succ, i64_w, i32_w]
    rfl
  refine pure_ (i := 1) (N := some 79) (v := ?_) (a' := ?_) #[true, true, false, false, false, false, false, false, false] rfl rfl (by kernel_rfl) (fun _ _ _ h => h) (Or.inl ⟨by rfl, ?_⟩) ?_ ?_
  rotate_left
  · intro w'
    go_simp
    with_reducible rfl
  rotate_left
  · simp only [Act.put, List.setIfInBounds_toArray, List.set_cons_zero, List.set_cons_succ, i64_w, i32_w]
    rfl
  refine pure_ (i := 2) (N := some 80) (v := ?_) (a' := ?_) #[true, true, true, false, false, false, false, false, false] rfl rfl (by kernel_rfl) (fun _ _ _ h => h) (Or.inl ⟨by rfl, ?_⟩) ?_ ?_
  rotate_left
  · intro w'
    go_simp
    with_reducible rfl
  rotate_left
  · simp only [Act.put, List.setIfInBounds_toArray, List.set_cons_zero, List.set_cons_succ, i64_w, i32_w]
    rfl
  refine pure_ (i := 5) (N := some 83) (v := ?_) (a' := ?_) #[true, true, true, false, false, true, false, false, false] rfl rfl (by kernel_rfl) (fun _ _ _ h => h) (Or.inl ⟨by rfl, ?_⟩) ?_ ?_
  rotate_left
  · intro w'
    go_simp
    with_reducible rfl
  rotate_left
  · simp only [Act.put, List.setIfInBounds_toArray, List.set_cons_zero, List.set_cons_succ, i64_w, i32_w]
    rfl
  refine take_ (i := 3) (N := some 81) (v := ?_) (a' := ?_) #[true, true, true, true, false, true, false, false, false] rfl rfl (by kernel_rfl) (fun _ _ _ h => h) (Or.inl ⟨by rfl, ?_⟩) hHeld ?_ ?_
  rotate_left
  · rintro w' ⟨s0, s1⟩
    refine mid.load_run 80 gt 0 X0 L0.out ?_ ?_ w' (range_l s0)
    · rfl
    · rfl
  rotate_left
  · simp only [Act.put, List.setIfInBounds_toArray, List.set_cons_zero, List.set_cons_succ, i64_w, i32_w]
    rfl
  refine take_ (i := 4) (N := some 82) (v := ?_) (a' := ?_) #[true, true, true, true, true, true, false, false, false] rfl rfl (by kernel_rfl) (fun _ _ _ h => h) (Or.inl ⟨by rfl, ?_⟩) hHeld ?_ ?_
  rotate_left
  · rintro w' ⟨s0, s1⟩
    refine bl.load_run 17 gh (bcells X2) ?_ ?_ w' s1 (seal_size X2 L2.out)
    · rfl
    · rfl
  rotate_left
  · simp only [Act.put, List.setIfInBounds_toArray, List.set_cons_zero, List.set_cons_succ, i64_w, i32_w]
    rfl
  refine one_ (i := 6) (N := some 84) #[true, true, true, true, true, true, true, false, false] rfl rfl (by kernel_rfl) (by decide) (fun K hK => ?_)
  refine goes_ Try.func22 (by kernel_rfl) rfl #[.agg (bcells X0), .agg (bcells X2), .int .i64 p] (by rfl) rfl rfl (by simp only [List.map_toArray, List.map_cons, List.map_nil]; rfl) ?_
  with_reducible refine (TC.out _).mono ?_
  rintro e w3 ⟨rfl, hb⟩
  have n0_ := Aside0.mk (below_step (by repeat (first | (with_reducible first | exact HB.out | apply below_alloc | apply pw_below_drewN | apply below_drew1) | exact HB.out)) hb); (first | have n1_ := Aside0.mk (blk_below BKt.out hb) | have n1_ := Aside0.mk (blk_below (blk_drewN BKt.out _) hb) | have n1_ := Aside0.mk (blk_below (blk_drew BKt.out) hb) | have n1_ := Aside0.mk (blk_below (blk_alloc BKt.out _) hb) | have n1_ := Aside0.mk (blk_below (by (with_reducible repeat (first | refine blk_drewN ?_ _ | refine blk_drew ?_ | refine blk_alloc ?_ _)); exact BKt.out) hb)); (first | have n2_ := Aside0.mk (blk_below BKh.out hb) | have n2_ := Aside0.mk (blk_below (blk_drewN BKh.out _) hb) | have n2_ := Aside0.mk (blk_below (blk_drew BKh.out) hb) | have n2_ := Aside0.mk (blk_below (blk_alloc BKh.out _) hb) | have n2_ := Aside0.mk (blk_below (by (with_reducible repeat (first | refine blk_drewN ?_ _ | refine blk_drew ?_ | refine blk_alloc ?_ _)); exact BKh.out) hb)); clear HB BKt BKh; have HB := n0_; have BKt := n1_; have BKh := n2_; clear n0_ n1_ n2_ hb
  refine ⟨_, rfl, ?_⟩
  refine hK.out _ _ ⟨BKt.out, BKh.out⟩ (fun hHeld => ?_)
  clear hK K
  refine norm_ (a' := ?_) ?_ ?_
  rotate_left
  · show Act.put _ (some 84) _ = _
    simp only [Act.put, List.setIfInBounds_toArray, List.set_cons_zero, List.set_cons_succ, i64_w, i32_w]
    rfl
  refine pure_ (i := 7) (N := some 85) (v := ?_) (a' := ?_) #[true, true, true, true, true, true, true, true, false] rfl rfl (by kernel_rfl) (fun _ _ _ h => h) (Or.inl ⟨by rfl, ?_⟩) ?_ ?_
  rotate_left
  · intro w'
    go_simp
    with_reducible rfl
  rotate_left
  · simp only [Act.put, List.setIfInBounds_toArray, List.set_cons_zero, List.set_cons_succ, i64_w, i32_w]
    rfl
  refine last_ (i := 8) (N := none) #[true, true, true, true, true, true, true, true, true] rfl rfl (by kernel_rfl) (by decide) (fun K hK => ?_)
  refine store_blk_ev (by rfl) rfl 85 84 rfl gt 0 rfl z LZ.out rfl (X0 ++ X1) 47 BKt.out (by rw [List.length_append, L0.out, L1.out]; decide) w.heap.size HB.out Gt.out ?_
  intro w4 h1 h2 h3; rw [splice_l _ _ _ (by rw [L0.out, LZ.out])] at h1; have kh := Aside0.mk ((h2.out gh (NEth.out.symm)).trans BKh.out); clear BKt BKh HB h2; have BKt := Aside0.mk h1; have HB := Aside0.mk h3; have BKh := kh; clear h1 h3 kh
  refine hK.out _ _ ?_
  clear hK K
  refine done_ (by kernel_rfl) ?_
  
  go_wp2_with (first
    | ((with_reducible refine gate_dst (N := 88) rfl ?_); refine wpList_load_blk rfl (.tmp 87) rfl gt 0 rfl z LZ.out (range_l (by (with_reducible repeat (first | refine blk_drewN ?_ _ | refine blk_drew ?_ | refine blk_alloc ?_ _)); exact BKt.out)) ?_)
    | ((with_reducible refine gate_dst (N := 90) rfl ?_); refine wpList_load_blk rfl (.tmp 89) rfl gt 64 rfl X1 L1.out (range_r (by (with_reducible repeat (first | refine blk_drewN ?_ _ | refine blk_drew ?_ | refine blk_alloc ?_ _)); exact BKt.out) LZ.out) ?_)
    | (go_at_call 16; with_reducible refine (seal_Newest.calls k z X1 LZ.out L1.out wh 0 _ FW.out).mono ?_; rintro e' w' ⟨rfl, hb⟩; have n0_ := Aside0.mk (below_step (by repeat (first | (with_reducible first | exact HB.out | apply below_alloc | apply pw_below_drewN | apply below_drew1) | exact HB.out)) hb); (first | have n1_ := Aside0.mk (blk_below BKt.out hb) | have n1_ := Aside0.mk (blk_below (blk_drewN BKt.out _) hb) | have n1_ := Aside0.mk (blk_below (blk_drew BKt.out) hb) | have n1_ := Aside0.mk (blk_below (blk_alloc BKt.out _) hb) | have n1_ := Aside0.mk (blk_below (by (with_reducible repeat (first | refine blk_drewN ?_ _ | refine blk_drew ?_ | refine blk_alloc ?_ _)); exact BKt.out) hb)); (first | have n2_ := Aside0.mk (blk_below BKh.out hb) | have n2_ := Aside0.mk (blk_below (blk_drewN BKh.out _) hb) | have n2_ := Aside0.mk (blk_below (blk_drew BKh.out) hb) | have n2_ := Aside0.mk (blk_below (blk_alloc BKh.out _) hb) | have n2_ := Aside0.mk (blk_below (by (with_reducible repeat (first | refine blk_drewN ?_ _ | refine blk_drew ?_ | refine blk_alloc ?_ _)); exact BKh.out) hb)); clear HB BKt BKh; have HB := n0_; have BKt := n1_; have BKh := n2_; clear n0_ n1_ n2_ hb))
  by_cases hz : z = X2
  · have hEq : ∀ (d : Nat) (W : World), (Op.equalIn (d + 2) 26 (.agg (bcells z)) (.agg (bcells X2))).run Try.prog W = .ok true W := fun d W => (eqArr d z X2 LZ.out L2.out W).trans (by rw [decide_eq_true hz])
    have hEq2 : ∀ (W : World), (Op.equal 26 (.agg (bcells z)) (.agg (bcells X2))).run Try.prog W = .ok true W := fun W => hEq 9998 W
    have q1 : (wh == 0) = true := by rw [HWH.out.2 hz]; rfl
    clear hz
    refine start_ (n := 13) (S := fun w' => w'.heap[gt]? = some (.cells (bcells (z ++ X1)) 47 (0, 0)) ∧ w'.heap[gh]? = some (.cells (bcells X2) 26 (0, 0))) (ds := []) #[false, false, false, false, false, false, false, false, false, false, false, false, false] (by kernel_rfl) rfl rfl ⟨BKt.out, BKh.out⟩ (fun hHeld => ?_)
    refine pure_ (i := 0) (N := some 96) (v := ?_) (a' := ?_) #[true, false, false, false, false, false, false, false, false, false, false, false, false] rfl rfl (by kernel_rfl) (fun _ _ _ h => h) (Or.inl ⟨by rfl, ?_⟩) ?_ ?_
    rotate_left
    · intro w'
      go_simp
      with_reducible rfl
    rotate_left
    · simp only [Act.put, List.setIfInBounds_toArray, List.set_cons_zero, List.set_cons_succ, i64_w, i32_w]
      rfl
    refine pure_ (i := 1) (N := some 97) (v := ?_) (a' := ?_) #[true, true, false, false, false, false, false, false, false, false, false, false, false] rfl rfl (by kernel_rfl) (fun _ _ _ h => h) (Or.inl ⟨by rfl, ?_⟩) ?_ ?_
    rotate_left
    · intro w'
      go_simp
      with_reducible rfl
    rotate_left
    · simp only [Act.put, List.setIfInBounds_toArray, List.set_cons_zero, List.set_cons_succ, i64_w, i32_w]
      rfl
    refine pure_ (i := 2) (N := some 98) (v := ?_) (a' := ?_) #[true, true, true, false, false, false, false, false, false, false, false, false, false] rfl rfl (by kernel_rfl) (fun _ _ _ h => h) (Or.inl ⟨by rfl, ?_⟩) ?_ ?_
    rotate_left
    · intro w'
      go_simp
      with_reducible rfl
    rotate_left
    · simp only [Act.put, List.setIfInBounds_toArray, List.set_cons_zero, List.set_cons_succ, i64_w, i32_w]
      rfl
    refine pure_ (i := 3) (N := some 99) (v := ?_) (a' := ?_) #[true, true, true, true, false, false, false, false, false, false, false, false, false] rfl rfl (by kernel_rfl) (fun _ _ _ h => h) (Or.inl ⟨by rfl, ?_⟩) ?_ ?_
    rotate_left
    · intro w'
      go_simp
      with_reducible rfl
    rotate_left
    · simp only [Act.put, List.setIfInBounds_toArray, List.set_cons_zero, List.set_cons_succ, i64_w, i32_w]
      rfl
    refine pure_ (i := 4) (N := some 100) (v := ?_) (a' := ?_) #[true, true, true, true, true, false, false, false, false, false, false, false, false] rfl rfl (by kernel_rfl) (fun _ _ _ h => h) (Or.inl ⟨by rfl, ?_⟩) ?_ ?_
    rotate_left
    · intro w'
      go_simp
      with_reducible rfl
    rotate_left
    · simp only [Act.put, List.setIfInBounds_toArray, List.set_cons_zero, List.set_cons_succ, i64_w, i32_w]
      rfl
    refine take_ (i := 5) (N := some 101) (v := ?_) (a' := ?_) #[true, true, true, true, true, true, false, false, false, false, false, false, false] rfl rfl (by kernel_rfl) (fun _ _ _ h => h) (Or.inl ⟨by rfl, ?_⟩) hHeld ?_ ?_
    rotate_left
    · rintro w' ⟨s0, s1⟩
      refine mid.load_run 100 gt 0 z LZ.out ?_ ?_ w' (range_l s0)
      · rfl
      · rfl
    rotate_left
    · simp only [Act.put, List.setIfInBounds_toArray, List.set_cons_zero, List.set_cons_succ, i64_w, i32_w]
      rfl
    refine take_ (i := 6) (N := some 102) (v := ?_) (a' := ?_) #[true, true, true, true, true, true, true, false, false, false, false, false, false] rfl rfl (by kernel_rfl) (fun _ _ _ h => h) (Or.inl ⟨by rfl, ?_⟩) hHeld ?_ ?_
    rotate_left
    · rintro w' ⟨s0, s1⟩
      refine bl.load_run 17 gh (bcells X2) ?_ ?_ w' s1 (seal_size X2 L2.out)
      · rfl
      · rfl
    rotate_left
    · simp only [Act.put, List.setIfInBounds_toArray, List.set_cons_zero, List.set_cons_succ, i64_w, i32_w]
      rfl
    refine pure_ (i := 7) (N := some 103) (v := ?_) (a' := ?_) #[true, true, true, true, true, true, true, true, false, false, false, false, false] rfl rfl (by kernel_rfl) (fun _ _ _ h => h) (Or.inl ⟨by rfl, ?_⟩) ?_ ?_
    rotate_left
    · intro w'
      go_simp
      with_reducible rfl
    rotate_left
    · simp only [Act.put, List.setIfInBounds_toArray, List.set_cons_zero, List.set_cons_succ, i64_w, i32_w]
      rfl
    refine pure_ (i := 8) (N := some 104) (v := ?_) (a' := ?_) #[true, true, true, true, true, true, true, true, true, false, false, false, false] rfl rfl (by kernel_rfl) (fun _ _ _ h => h) (Or.inl ⟨by rfl, ?_⟩) ?_ ?_
    rotate_left
    · intro w'
      go_simp
      with_reducible rfl
    rotate_left
    · simp only [Act.put, List.setIfInBounds_toArray, List.set_cons_zero, List.set_cons_succ, i64_w, i32_w]
      rfl
    refine pure_ (i := 9) (N := some 105) (v := ?_) (a' := ?_) #[true, true, true, true, true, true, true, true, true, true, false, false, false] rfl rfl (by kernel_rfl) (fun _ _ _ h => h) (Or.inl ⟨by rfl, ?_⟩) ?_ ?_
    rotate_left
    · intro w'
      go_simp
      with_reducible rfl
    rotate_left
    · simp only [Act.put, List.setIfInBounds_toArray, List.set_cons_zero, List.set_cons_succ, i64_w, i32_w]
      rfl
    refine one_ (i := 10) (N := some 106) #[true, true, true, true, true, true, true, true, true, true, true, false, false] rfl rfl (by kernel_rfl) (by decide) (fun K hK => ?_)
    refine goes_ Try.func12 (by kernel_rfl) rfl #[] (by rfl) rfl rfl (by simp only [List.map_toArray, List.map_nil]) ?_
    with_reducible refine (law_lives.calls _).mono ?_
    rintro e w5 ⟨rfl, hb⟩
    have n0_ := Aside0.mk (below_step (by repeat (first | (with_reducible first | exact HB.out | apply below_alloc | apply pw_below_drewN | apply below_drew1) | exact HB.out)) hb); (first | have n1_ := Aside0.mk (blk_below BKt.out hb) | have n1_ := Aside0.mk (blk_below (blk_drewN BKt.out _) hb) | have n1_ := Aside0.mk (blk_below (blk_drew BKt.out) hb) | have n1_ := Aside0.mk (blk_below (blk_alloc BKt.out _) hb) | have n1_ := Aside0.mk (blk_below (by (with_reducible repeat (first | refine blk_drewN ?_ _ | refine blk_drew ?_ | refine blk_alloc ?_ _)); exact BKt.out) hb)); (first | have n2_ := Aside0.mk (blk_below BKh.out hb) | have n2_ := Aside0.mk (blk_below (blk_drewN BKh.out _) hb) | have n2_ := Aside0.mk (blk_below (blk_drew BKh.out) hb) | have n2_ := Aside0.mk (blk_below (blk_alloc BKh.out _) hb) | have n2_ := Aside0.mk (blk_below (by (with_reducible repeat (first | refine blk_drewN ?_ _ | refine blk_drew ?_ | refine blk_alloc ?_ _)); exact BKh.out) hb)); clear HB BKt BKh; have HB := n0_; have BKt := n1_; have BKh := n2_; clear n0_ n1_ n2_ hb
    refine ⟨_, rfl, ?_⟩
    refine hK.out _ _ ⟨BKt.out, BKh.out⟩ (fun hHeld => ?_)
    clear hK K
    refine norm_ (a' := ?_) ?_ ?_
    rotate_left
    · show Act.put _ (some 106) _ = _
      simp only [Act.put, List.setIfInBounds_toArray, List.set_cons_zero, List.set_cons_succ, i64_w, i32_w]
      rfl
    refine pure_ (i := 11) (N := some 107) (v := ?_) (a' := ?_) #[true, true, true, true, true, true, true, true, true, true, true, true, false] rfl rfl (by kernel_rfl) (fun _ _ _ h => h) (Or.inl ⟨by rfl, ?_⟩) ?_ ?_
    rotate_left
    · intro w'
      go_simp
      with_reducible rfl
    rotate_left
    · simp only [Act.put, List.setIfInBounds_toArray, List.set_cons_zero, List.set_cons_succ, i64_w, i32_w]
      rfl
    refine pure_ (i := 12) (N := some 12) (v := ?_) (a' := ?_) #[true, true, true, true, true, true, true, true, true, true, true, true, true] rfl rfl (by kernel_rfl) (fun _ _ _ h => h) (Or.inl ⟨by rfl, ?_⟩) ?_ ?_
    rotate_left
    · intro w'
      go_simp
      with_reducible rfl
    rotate_left
    · simp only [Act.put, List.setIfInBounds_toArray, List.set_cons_zero, List.set_cons_succ, i64_w, i32_w]
      rfl
    refine done_ (by kernel_rfl) ?_
  
    go_wp2
    go_ret
    exact ⟨rfl, by repeat (first | (with_reducible first | exact HB.out | apply below_alloc | apply pw_below_drewN | apply below_drew1) | exact HB.out)⟩
  · have hEq : ∀ (d : Nat) (W : World), (Op.equalIn (d + 2) 26 (.agg (bcells z)) (.agg (bcells X2))).run Try.prog W = .ok false W := fun d W => (eqArr d z X2 LZ.out L2.out W).trans (by rw [decide_eq_false hz])
    have hEq2 : ∀ (W : World), (Op.equal 26 (.agg (bcells z)) (.agg (bcells X2))).run Try.prog W = .ok false W := fun W => hEq 9998 W
    have q1 : (wh == 0) = false := by simpa using fun h => hz (HWH.out.1 h)
    clear hz
    refine start_ (n := 13) (S := fun w' => w'.heap[gt]? = some (.cells (bcells (z ++ X1)) 47 (0, 0)) ∧ w'.heap[gh]? = some (.cells (bcells X2) 26 (0, 0))) (ds := []) #[false, false, false, false, false, false, false, false, false, false, false, false, false] (by kernel_rfl) rfl rfl ⟨BKt.out, BKh.out⟩ (fun hHeld => ?_)
    refine pure_ (i := 0) (N := some 96) (v := ?_) (a' := ?_) #[true, false, false, false, false, false, false, false, false, false, false, false, false] rfl rfl (by kernel_rfl) (fun _ _ _ h => h) (Or.inl ⟨by rfl, ?_⟩) ?_ ?_
    rotate_left
    · intro w'
      go_simp
      with_reducible rfl
    rotate_left
    · simp only [Act.put, List.setIfInBounds_toArray, List.set_cons_zero, List.set_cons_succ, i64_w, i32_w]
      rfl
    refine pure_ (i := 1) (N := some 97) (v := ?_) (a' := ?_) #[true, true, false, false, false, false, false, false, false, false, false, false, false] rfl rfl (by kernel_rfl) (fun _ _ _ h => h) (Or.inl ⟨by rfl, ?_⟩) ?_ ?_
    rotate_left
    · intro w'
      go_simp
      with_reducible rfl
    rotate_left
    · simp only [Act.put, List.setIfInBounds_toArray, List.set_cons_zero, List.set_cons_succ, i64_w, i32_w]
      rfl
    refine pure_ (i := 2) (N := some 98) (v := ?_) (a' := ?_) #[true, true, true, false, false, false, false, false, false, false, false, false, false] rfl rfl (by kernel_rfl) (fun _ _ _ h => h) (Or.inl ⟨by rfl, ?_⟩) ?_ ?_
    rotate_left
    · intro w'
      go_simp
      with_reducible rfl
    rotate_left
    · simp only [Act.put, List.setIfInBounds_toArray, List.set_cons_zero, List.set_cons_succ, i64_w, i32_w]
      rfl
    refine pure_ (i := 3) (N := some 99) (v := ?_) (a' := ?_) #[true, true, true, true, false, false, false, false, false, false, false, false, false] rfl rfl (by kernel_rfl) (fun _ _ _ h => h) (Or.inl ⟨by rfl, ?_⟩) ?_ ?_
    rotate_left
    · intro w'
      go_simp
      with_reducible rfl
    rotate_left
    · simp only [Act.put, List.setIfInBounds_toArray, List.set_cons_zero, List.set_cons_succ, i64_w, i32_w]
      rfl
    refine pure_ (i := 4) (N := some 100) (v := ?_) (a' := ?_) #[true, true, true, true, true, false, false, false, false, false, false, false, false] rfl rfl (by kernel_rfl) (fun _ _ _ h => h) (Or.inl ⟨by rfl, ?_⟩) ?_ ?_
    rotate_left
    · intro w'
      go_simp
      with_reducible rfl
    rotate_left
    · simp only [Act.put, List.setIfInBounds_toArray, List.set_cons_zero, List.set_cons_succ, i64_w, i32_w]
      rfl
    refine take_ (i := 5) (N := some 101) (v := ?_) (a' := ?_) #[true, true, true, true, true, true, false, false, false, false, false, false, false] rfl rfl (by kernel_rfl) (fun _ _ _ h => h) (Or.inl ⟨by rfl, ?_⟩) hHeld ?_ ?_
    rotate_left
    · rintro w' ⟨s0, s1⟩
      refine mid.load_run 100 gt 0 z LZ.out ?_ ?_ w' (range_l s0)
      · rfl
      · rfl
    rotate_left
    · simp only [Act.put, List.setIfInBounds_toArray, List.set_cons_zero, List.set_cons_succ, i64_w, i32_w]
      rfl
    refine take_ (i := 6) (N := some 102) (v := ?_) (a' := ?_) #[true, true, true, true, true, true, true, false, false, false, false, false, false] rfl rfl (by kernel_rfl) (fun _ _ _ h => h) (Or.inl ⟨by rfl, ?_⟩) hHeld ?_ ?_
    rotate_left
    · rintro w' ⟨s0, s1⟩
      refine bl.load_run 17 gh (bcells X2) ?_ ?_ w' s1 (seal_size X2 L2.out)
      · rfl
      · rfl
    rotate_left
    · simp only [Act.put, List.setIfInBounds_toArray, List.set_cons_zero, List.set_cons_succ, i64_w, i32_w]
      rfl
    refine pure_ (i := 7) (N := some 103) (v := ?_) (a' := ?_) #[true, true, true, true, true, true, true, true, false, false, false, false, false] rfl rfl (by kernel_rfl) (fun _ _ _ h => h) (Or.inl ⟨by rfl, ?_⟩) ?_ ?_
    rotate_left
    · intro w'
      go_simp
      with_reducible rfl
    rotate_left
    · simp only [Act.put, List.setIfInBounds_toArray, List.set_cons_zero, List.set_cons_succ, i64_w, i32_w]
      rfl
    refine pure_ (i := 8) (N := some 104) (v := ?_) (a' := ?_) #[true, true, true, true, true, true, true, true, true, false, false, false, false] rfl rfl (by kernel_rfl) (fun _ _ _ h => h) (Or.inl ⟨by rfl, ?_⟩) ?_ ?_
    rotate_left
    · intro w'
      go_simp
      with_reducible rfl
    rotate_left
    · simp only [Act.put, List.setIfInBounds_toArray, List.set_cons_zero, List.set_cons_succ, i64_w, i32_w]
      rfl
    refine pure_ (i := 9) (N := some 105) (v := ?_) (a' := ?_) #[true, true, true, true, true, true, true, true, true, true, false, false, false] rfl rfl (by kernel_rfl) (fun _ _ _ h => h) (Or.inl ⟨by rfl, ?_⟩) ?_ ?_
    rotate_left
    · intro w'
      go_simp
      with_reducible rfl
    rotate_left
    · simp only [Act.put, List.setIfInBounds_toArray, List.set_cons_zero, List.set_cons_succ, i64_w, i32_w]
      rfl
    refine one_ (i := 10) (N := some 106) #[true, true, true, true, true, true, true, true, true, true, true, false, false] rfl rfl (by kernel_rfl) (by decide) (fun K hK => ?_)
    refine goes_ Try.func12 (by kernel_rfl) rfl #[] (by rfl) rfl rfl (by simp only [List.map_toArray, List.map_nil]) ?_
    with_reducible refine (law_lives.calls _).mono ?_
    rintro e w5 ⟨rfl, hb⟩
    have n0_ := Aside0.mk (below_step (by repeat (first | (with_reducible first | exact HB.out | apply below_alloc | apply pw_below_drewN | apply below_drew1) | exact HB.out)) hb); (first | have n1_ := Aside0.mk (blk_below BKt.out hb) | have n1_ := Aside0.mk (blk_below (blk_drewN BKt.out _) hb) | have n1_ := Aside0.mk (blk_below (blk_drew BKt.out) hb) | have n1_ := Aside0.mk (blk_below (blk_alloc BKt.out _) hb) | have n1_ := Aside0.mk (blk_below (by (with_reducible repeat (first | refine blk_drewN ?_ _ | refine blk_drew ?_ | refine blk_alloc ?_ _)); exact BKt.out) hb)); (first | have n2_ := Aside0.mk (blk_below BKh.out hb) | have n2_ := Aside0.mk (blk_below (blk_drewN BKh.out _) hb) | have n2_ := Aside0.mk (blk_below (blk_drew BKh.out) hb) | have n2_ := Aside0.mk (blk_below (blk_alloc BKh.out _) hb) | have n2_ := Aside0.mk (blk_below (by (with_reducible repeat (first | refine blk_drewN ?_ _ | refine blk_drew ?_ | refine blk_alloc ?_ _)); exact BKh.out) hb)); clear HB BKt BKh; have HB := n0_; have BKt := n1_; have BKh := n2_; clear n0_ n1_ n2_ hb
    refine ⟨_, rfl, ?_⟩
    refine hK.out _ _ ⟨BKt.out, BKh.out⟩ (fun hHeld => ?_)
    clear hK K
    refine norm_ (a' := ?_) ?_ ?_
    rotate_left
    · show Act.put _ (some 106) _ = _
      simp only [Act.put, List.setIfInBounds_toArray, List.set_cons_zero, List.set_cons_succ, i64_w, i32_w]
      rfl
    refine pure_ (i := 11) (N := some 107) (v := ?_) (a' := ?_) #[true, true, true, true, true, true, true, true, true, true, true, true, false] rfl rfl (by kernel_rfl) (fun _ _ _ h => h) (Or.inl ⟨by rfl, ?_⟩) ?_ ?_
    rotate_left
    · intro w'
      go_simp
      with_reducible rfl
    rotate_left
    · simp only [Act.put, List.setIfInBounds_toArray, List.set_cons_zero, List.set_cons_succ, i64_w, i32_w]
      rfl
    refine pure_ (i := 12) (N := some 12) (v := ?_) (a' := ?_) #[true, true, true, true, true, true, true, true, true, true, true, true, true] rfl rfl (by kernel_rfl) (fun _ _ _ h => h) (Or.inl ⟨by rfl, ?_⟩) ?_ ?_
    rotate_left
    · intro w'
      go_simp
      with_reducible rfl
    rotate_left
    · simp only [Act.put, List.setIfInBounds_toArray, List.set_cons_zero, List.set_cons_succ, i64_w, i32_w]
      rfl
    refine done_ (by kernel_rfl) ?_
  
    go_wp2
    go_ret
    exact ⟨rfl, by repeat (first | (with_reducible first | exact HB.out | apply below_alloc | apply pw_below_drewN | apply below_drew1) | exact HB.out)⟩
set_option maxHeartbeats 16000000 in
set_option maxRecDepth 100000 in
theorem sealNext.callsB1 (k : Nat) (n m : Int) (A : Option Addr) (ca : Nat) (a : List Int) (B : Option Addr) (cb : Nat) (b : List Int) (C : Option Addr) (cc : Nat) (c : List Int) (p : Int) (N M T : Int) (w : World) (ha : Kd.C (Kd.int .u8) w A a.length a) (hca : a.length ≤ ca) (hb : Kd.C (Kd.int .u8) w B b.length b) (hcb : b.length ≤ cb) (hc : Kd.C (Kd.int .u8) w C c.length c) (hcc : c.length ≤ cc)
    (hN : IntKind.u64.wrap (Int.tmod n 1152921504606846976 + 1) = N) (hM : IntKind.u64.wrap (Int.tmod m 1152921504606846976 + 1) = M) (hT : IntKind.u64.wrap (max N M + 1) = T)
    (X0 X1 X2 : List Int) (l0 : X0.length = 64) (l1 : X1.length = 64) (l2 : X2.length = 64) (f1 : seal_Put.f k N a = some (X0, 0)) (f2 : seal_Put.f k M b = some (X1, 0)) (f3 : seal_Put.f k T c = some (X2, 0)) (h1 : N ≠ M) (h2 : M ≤ N) (fn : seal_Next.f k X0 X1 = some 1) (z : List Int) (hz : z = tornL X1 X2 p) (wh : Int) (fw : seal_Newest.f k X0 z = some (wh, 0)) (hwh : wh = 1 ↔ z = X2) :
    Calls Try.prog 7 #[.int .u64 n, .int .u64 m, .slice A a.length ca, .slice B b.length cb, .slice C c.length cc, .int .i64 p] w fun e' w' => e' = .returned (.bool true) ∧ Below w.heap.size w w' := by
  have HB := Aside0.mk (Below.refl w.heap.size w)
  have HA := Aside0.mk ha
  have HAL := Aside0.mk hca
  have HQ := Aside0.mk hb
  have HQL := Aside0.mk hcb
  have HC := Aside0.mk hc
  have HCL := Aside0.mk hcc
  have L0 := Aside0.mk l0
  have L1 := Aside0.mk l1
  have L2 := Aside0.mk l2
  have F1 := Aside0.mk f1
  have F2 := Aside0.mk f2
  have F3 := Aside0.mk f3
  clear ha hca hb hcb hc hcc l0 l1 l2 f1 f2 f3
  have FN := Aside0.mk fn
  have FW := Aside0.mk fw
  have HWH := Aside0.mk hwh
  have LZ := Aside0.mk (show z.length = 64 from by rw [hz]; exact tornL_len _ _ L1.out L2.out p)
  have TC := Aside0.mk (show ∀ W, Calls Try.prog 22 #[.agg (bcells X1), .agg (bcells X2), .int .i64 p] W fun e' w' => e' = .returned (.agg (bcells z)) ∧ Below W.heap.size W w' from fun W => by rw [hz]; exact torn.calls X1 X2 L1.out L2.out p W)
  have p1 : (N == M) = false := by simpa using h1
  have p2 : decide (N < M) = false := decide_eq_false (by omega)
  have hT' : IntKind.u64.wrap (N + 1) = T := by rw [← hT, Int.max_eq_left h2]
  clear hT
  clear h1 fn fw hwh hz
  go_enter Try.func7, Try.ntmps7
  go_wp2_with (first
    | (go_at_call 9; first | (with_reducible refine (seal_Put.calls k N A ca a X0 0 _ (Kd.C_below HA.out (by repeat (first | (with_reducible first | exact HB.out | apply below_alloc | apply pw_below_drewN | apply below_drew1) | exact HB.out))) HAL.out F1.out).mono ?_; rintro e' w' ⟨rfl, hb⟩; have n0_ := Aside0.mk (below_step (by repeat (first | (with_reducible first | exact HB.out | apply below_alloc | apply pw_below_drewN | apply below_drew1) | exact HB.out)) hb); (first | have n1_ := Aside0.mk (blk_below BKt.out hb) | have n1_ := Aside0.mk (blk_below (blk_drewN BKt.out _) hb) | have n1_ := Aside0.mk (blk_below (blk_drew BKt.out) hb) | have n1_ := Aside0.mk (blk_below (blk_alloc BKt.out _) hb) | have n1_ := Aside0.mk (blk_below (by (with_reducible repeat (first | refine blk_drewN ?_ _ | refine blk_drew ?_ | refine blk_alloc ?_ _)); exact BKt.out) hb)); clear HB BKt; have HB := n0_; have BKt := n1_; clear n0_ n1_ hb) | (with_reducible refine (seal_Put.calls k M B cb b X1 0 _ (Kd.C_below HQ.out (by repeat (first | (with_reducible first | exact HB.out | apply below_alloc | apply pw_below_drewN | apply below_drew1) | exact HB.out))) HQL.out F2.out).mono ?_; rintro e' w' ⟨rfl, hb⟩; have n0_ := Aside0.mk (below_step (by repeat (first | (with_reducible first | exact HB.out | apply below_alloc | apply pw_below_drewN | apply below_drew1) | exact HB.out)) hb); (first | have n1_ := Aside0.mk (blk_below BKt.out hb) | have n1_ := Aside0.mk (blk_below (blk_drewN BKt.out _) hb) | have n1_ := Aside0.mk (blk_below (blk_drew BKt.out) hb) | have n1_ := Aside0.mk (blk_below (blk_alloc BKt.out _) hb) | have n1_ := Aside0.mk (blk_below (by (with_reducible repeat (first | refine blk_drewN ?_ _ | refine blk_drew ?_ | refine blk_alloc ?_ _)); exact BKt.out) hb)); clear HB BKt; have HB := n0_; have BKt := n1_; clear n0_ n1_ hb) | (with_reducible refine (seal_Put.calls k T C cc c X2 0 _ (Kd.C_below HC.out (by repeat (first | (with_reducible first | exact HB.out | apply below_alloc | apply pw_below_drewN | apply below_drew1) | exact HB.out))) HCL.out F3.out).mono ?_; rintro e' w' ⟨rfl, hb⟩; have n0_ := Aside0.mk (below_step (by repeat (first | (with_reducible first | exact HB.out | apply below_alloc | apply pw_below_drewN | apply below_drew1) | exact HB.out)) hb); (first | have n1_ := Aside0.mk (blk_below BKt.out hb) | have n1_ := Aside0.mk (blk_below (blk_drewN BKt.out _) hb) | have n1_ := Aside0.mk (blk_below (blk_drew BKt.out) hb) | have n1_ := Aside0.mk (blk_below (blk_alloc BKt.out _) hb) | have n1_ := Aside0.mk (blk_below (by (with_reducible repeat (first | refine blk_drewN ?_ _ | refine blk_drew ?_ | refine blk_alloc ?_ _)); exact BKt.out) hb)); clear HB BKt; have HB := n0_; have BKt := n1_; clear n0_ n1_ hb))
    | ((with_reducible refine gate_dst (N := 13) rfl ?_); refine box_event ?hg (N := 13) ?hd (cs := bcells (zero64 ++ zero64)) (t := 47) ?hr ?_; (case hd => rfl); (case hg => rfl); (case hr => exact alloc47_run rfl _); intro gt hg w1t hbox hb; have Gt := Aside0.mk (show w.heap.size ≤ gt from by rw [hg]; exact below_size (by repeat (first | (with_reducible first | exact HB.out | apply below_alloc | apply pw_below_drewN | apply below_drew1) | exact HB.out))); have BKt := Aside0.mk hbox; clear hbox hg; have n0_ := Aside0.mk (below_step (by repeat (first | (with_reducible first | exact HB.out | apply below_alloc | apply pw_below_drewN | apply below_drew1) | exact HB.out)) hb); clear HB; have HB := n0_; clear n0_ hb)
    | (refine wpList_store_blk rfl (.tmp 33) (.tmp 31) rfl gt 0 rfl X0 L0.out rfl (zero64 ++ zero64) 47 BKt.out (by rw [List.length_append]; (first | rw [L0.out] | skip); decide) w.heap.size HB.out Gt.out ?_; intro w1 h1 h2 h3; rw [splice_l _ _ _ (by rw [L0.out]; rfl)] at h1; clear BKt HB h2; have BKt := Aside0.mk h1; have HB := Aside0.mk h3; clear h1 h3)
    | (refine wpList_store_blk rfl (.tmp 40) (.tmp 38) rfl gt 64 rfl X1 L1.out rfl (X0 ++ zero64) 47 BKt.out (by rw [List.length_append]; (first | rw [L0.out] | skip); decide) w.heap.size HB.out Gt.out ?_; intro w1 h1 h2 h3; rw [splice_r _ _ _ L0.out (by rw [L1.out]; rfl)] at h1; clear BKt HB h2; have BKt := Aside0.mk h1; have HB := Aside0.mk h3; clear h1 h3)
    | ((with_reducible refine gate_dst (N := 17) rfl ?_); refine box_event ?hg (N := 17) ?hd (cs := bcells zero64) (t := 26) ?hr ?_; (case hd => rfl); (case hg => rfl); (case hr => first | (go_simp; done) | (go_simp; rfl)); intro gh hg w1h hbox hb; have Gh := Aside0.mk (show w.heap.size ≤ gh from by rw [hg]; exact below_size (by repeat (first | (with_reducible first | exact HB.out | apply below_alloc | apply pw_below_drewN | apply below_drew1) | exact HB.out))); have NEth := Aside0.mk (show gt ≠ gh from by rw [hg]; exact Nat.ne_of_lt (blk_lt (by (with_reducible repeat (first | refine blk_drewN ?_ _ | refine blk_drew ?_ | refine blk_alloc ?_ _)); exact BKt.out))); have BKh := Aside0.mk hbox; clear hbox hg; have n0_ := Aside0.mk (below_step (by repeat (first | (with_reducible first | exact HB.out | apply below_alloc | apply pw_below_drewN | apply below_drew1) | exact HB.out)) hb); (first | have n1_ := Aside0.mk (blk_below BKt.out hb) | have n1_ := Aside0.mk (blk_below (blk_drewN BKt.out _) hb) | have n1_ := Aside0.mk (blk_below (blk_drew BKt.out) hb) | have n1_ := Aside0.mk (blk_below (blk_alloc BKt.out _) hb) | have n1_ := Aside0.mk (blk_below (by (with_reducible repeat (first | refine blk_drewN ?_ _ | refine blk_drew ?_ | refine blk_alloc ?_ _)); exact BKt.out) hb)); clear HB BKt; have HB := n0_; have BKt := n1_; clear n0_ n1_ hb)
    | (refine wpList_store_row rfl 26 (.tmp 17) (.tmp 48) rfl gh (bcells X2) rfl (by rfl) 26 (bcells zero64) (by (with_reducible repeat (first | refine blk_drewN ?_ _ | refine blk_drew ?_ | refine blk_alloc ?_ _)); exact BKh.out) (seal_size _ L2.out) (by rw [bcells_size, bcells_size, L2.out]; rfl) (bcells_all _) ?_; have n0 := Aside0.mk (below_setRow (show Below w.heap.size w _ from by repeat (first | (with_reducible first | exact HB.out | apply below_alloc | apply pw_below_drewN | apply below_drew1) | exact HB.out)) (show w.heap.size ≤ gh from Gh.out) (bcells X2)); have n1 := Aside0.mk (setRow_heap _ _ _ (bcells X2) _ _ (by (with_reducible repeat (first | refine blk_drewN ?_ _ | refine blk_drew ?_ | refine blk_alloc ?_ _)); exact BKh.out)); have kt := Aside0.mk ((setRow_other _ gh gt (bcells X2) NEth.out).trans (by (with_reducible repeat (first | refine blk_drewN ?_ _ | refine blk_drew ?_ | refine blk_alloc ?_ _)); exact BKt.out)); generalize World.setRow _ _ _ = w3 at n0 n1 kt; clear HB BKh BKt; have HB := n0; have BKh := n1; have BKt := kt; clear kt; clear n0 n1)
    | ((with_reducible refine gate_dst (N := 70) rfl ?_); refine wpList_load_blk rfl (.tmp 69) rfl gt 0 rfl X0 L0.out (range_l (by (with_reducible repeat (first | refine blk_drewN ?_ _ | refine blk_drew ?_ | refine blk_alloc ?_ _)); exact BKt.out)) ?_)
    | ((with_reducible refine gate_dst (N := 72) rfl ?_); refine wpList_load_blk rfl (.tmp 71) rfl gt 64 rfl X1 L1.out (range_r (by (with_reducible repeat (first | refine blk_drewN ?_ _ | refine blk_drew ?_ | refine blk_alloc ?_ _)); exact BKt.out) L0.out) ?_)
    | (go_at_call 18; with_reducible refine (seal_Next.calls k X0 X1 L0.out L1.out 1 _ FN.out).mono ?_; rintro e' w' ⟨rfl, hb⟩; have n0_ := Aside0.mk (below_step (by repeat (first | (with_reducible first | exact HB.out | apply below_alloc | apply pw_below_drewN | apply below_drew1) | exact HB.out)) hb); (first | have n1_ := Aside0.mk (blk_below BKt.out hb) | have n1_ := Aside0.mk (blk_below (blk_drewN BKt.out _) hb) | have n1_ := Aside0.mk (blk_below (blk_drew BKt.out) hb) | have n1_ := Aside0.mk (blk_below (blk_alloc BKt.out _) hb) | have n1_ := Aside0.mk (blk_below (by (with_reducible repeat (first | refine blk_drewN ?_ _ | refine blk_drew ?_ | refine blk_alloc ?_ _)); exact BKt.out) hb)); (first | have n2_ := Aside0.mk (blk_below BKh.out hb) | have n2_ := Aside0.mk (blk_below (blk_drewN BKh.out _) hb) | have n2_ := Aside0.mk (blk_below (blk_drew BKh.out) hb) | have n2_ := Aside0.mk (blk_below (blk_alloc BKh.out _) hb) | have n2_ := Aside0.mk (blk_below (by (with_reducible repeat (first | refine blk_drewN ?_ _ | refine blk_drew ?_ | refine blk_alloc ?_ _)); exact BKh.out) hb)); clear HB BKt BKh; have HB := n0_; have BKt := n1_; have BKh := n2_; clear n0_ n1_ n2_ hb))
  refine start_ (n := 9) (S := fun w' => w'.heap[gt]? = some (.cells (bcells (X0 ++ X1)) 47 (0, 0)) ∧ w'.heap[gh]? = some (.cells (bcells X2) 26 (0, 0))) (ds := [8]) #[false, false, false, false, false, false, false, false, false] (by kernel_rfl) rfl rfl ⟨BKt.out, BKh.out⟩ (fun hHeld => ?_)
  refine pure_ (i := 0) (N := some 78) (v := ?_) (a' := ?_) #[true, false, false, false, false, false, false, false, false] rfl rfl (by kernel_rfl) (fun _ _ _ h => h) (Or.inl ⟨by rfl, ?_⟩) ?_ ?_
  rotate_left
  · intro w'
    go_simp
    with_reducible rfl
  rotate_left
  · simp only [Act.put, List.setIfInBounds_toArray, List.set_cons_zero, List.set_cons_succ, i64_w, i32_w]
    rfl
  refine pure_ (i := 1) (N := some 79) (v := ?_) (a' := ?_) #[true, true, false, false, false, false, false, false, false] rfl rfl (by kernel_rfl) (fun _ _ _ h => h) (Or.inl ⟨by rfl, ?_⟩) ?_ ?_
  rotate_left
  · intro w'
    go_simp
    with_reducible rfl
  rotate_left
  · simp only [Act.put, List.setIfInBounds_toArray, List.set_cons_zero, List.set_cons_succ, i64_w, i32_w]
    rfl
  refine pure_ (i := 2) (N := some 80) (v := ?_) (a' := ?_) #[true, true, true, false, false, false, false, false, false] rfl rfl (by kernel_rfl) (fun _ _ _ h => h) (Or.inl ⟨by rfl, ?_⟩) ?_ ?_
  rotate_left
  · intro w'
    go_simp
    with_reducible rfl
  rotate_left
  · simp only [Act.put, List.setIfInBounds_toArray, List.set_cons_zero, List.set_cons_succ, i64_w, i32_w]
    rfl
  refine pure_ (i := 5) (N := some 83) (v := ?_) (a' := ?_) #[true, true, true, false, false, true, false, false, false] rfl rfl (by kernel_rfl) (fun _ _ _ h => h) (Or.inl ⟨by rfl, ?_⟩) ?_ ?_
  rotate_left
  · intro w'
    go_simp
    with_reducible rfl
  rotate_left
  · simp only [Act.put, List.setIfInBounds_toArray, List.set_cons_zero, List.set_cons_succ, i64_w, i32_w]
    rfl
  refine take_ (i := 3) (N := some 81) (v := ?_) (a' := ?_) #[true, true, true, true, false, true, false, false, false] rfl rfl (by kernel_rfl) (fun _ _ _ h => h) (Or.inl ⟨by rfl, ?_⟩) hHeld ?_ ?_
  rotate_left
  · rintro w' ⟨s0, s1⟩
    refine mid.load_run 80 gt 64 X1 L1.out ?_ ?_ w' (range_r s0 L0.out)
    · rfl
    · rfl
  rotate_left
  · simp only [Act.put, List.setIfInBounds_toArray, List.set_cons_zero, List.set_cons_succ, i64_w, i32_w]
    rfl
  refine take_ (i := 4) (N := some 82) (v := ?_) (a' := ?_) #[true, true, true, true, true, true, false, false, false] rfl rfl (by kernel_rfl) (fun _ _ _ h => h) (Or.inl ⟨by rfl, ?_⟩) hHeld ?_ ?_
  rotate_left
  · rintro w' ⟨s0, s1⟩
    refine bl.load_run 17 gh (bcells X2) ?_ ?_ w' s1 (seal_size X2 L2.out)
    · rfl
    · rfl
  rotate_left
  · simp only [Act.put, List.setIfInBounds_toArray, List.set_cons_zero, List.set_cons_succ, i64_w, i32_w]
    rfl
  refine one_ (i := 6) (N := some 84) #[true, true, true, true, true, true, true, false, false] rfl rfl (by kernel_rfl) (by decide) (fun K hK => ?_)
  refine goes_ Try.func22 (by kernel_rfl) rfl #[.agg (bcells X1), .agg (bcells X2), .int .i64 p] (by rfl) rfl rfl (by simp only [List.map_toArray, List.map_cons, List.map_nil]; rfl) ?_
  with_reducible refine (TC.out _).mono ?_
  rintro e w3 ⟨rfl, hb⟩
  have n0_ := Aside0.mk (below_step (by repeat (first | (with_reducible first | exact HB.out | apply below_alloc | apply pw_below_drewN | apply below_drew1) | exact HB.out)) hb); (first | have n1_ := Aside0.mk (blk_below BKt.out hb) | have n1_ := Aside0.mk (blk_below (blk_drewN BKt.out _) hb) | have n1_ := Aside0.mk (blk_below (blk_drew BKt.out) hb) | have n1_ := Aside0.mk (blk_below (blk_alloc BKt.out _) hb) | have n1_ := Aside0.mk (blk_below (by (with_reducible repeat (first | refine blk_drewN ?_ _ | refine blk_drew ?_ | refine blk_alloc ?_ _)); exact BKt.out) hb)); (first | have n2_ := Aside0.mk (blk_below BKh.out hb) | have n2_ := Aside0.mk (blk_below (blk_drewN BKh.out _) hb) | have n2_ := Aside0.mk (blk_below (blk_drew BKh.out) hb) | have n2_ := Aside0.mk (blk_below (blk_alloc BKh.out _) hb) | have n2_ := Aside0.mk (blk_below (by (with_reducible repeat (first | refine blk_drewN ?_ _ | refine blk_drew ?_ | refine blk_alloc ?_ _)); exact BKh.out) hb)); clear HB BKt BKh; have HB := n0_; have BKt := n1_; have BKh := n2_; clear n0_ n1_ n2_ hb
  refine ⟨_, rfl, ?_⟩
  refine hK.out _ _ ⟨BKt.out, BKh.out⟩ (fun hHeld => ?_)
  clear hK K
  refine norm_ (a' := ?_) ?_ ?_
  rotate_left
  · show Act.put _ (some 84) _ = _
    simp only [Act.put, List.setIfInBounds_toArray, List.set_cons_zero, List.set_cons_succ, i64_w, i32_w]
    rfl
  refine pure_ (i := 7) (N := some 85) (v := ?_) (a' := ?_) #[true, true, true, true, true, true, true, true, false] rfl rfl (by kernel_rfl) (fun _ _ _ h => h) (Or.inl ⟨by rfl, ?_⟩) ?_ ?_
  rotate_left
  · intro w'
    go_simp
    with_reducible rfl
  rotate_left
  · simp only [Act.put, List.setIfInBounds_toArray, List.set_cons_zero, List.set_cons_succ, i64_w, i32_w]
    rfl
  refine last_ (i := 8) (N := none) #[true, true, true, true, true, true, true, true, true] rfl rfl (by kernel_rfl) (by decide) (fun K hK => ?_)
  refine store_blk_ev (by rfl) rfl 85 84 rfl gt 64 rfl z LZ.out rfl (X0 ++ X1) 47 BKt.out (by rw [List.length_append, L0.out, L1.out]; decide) w.heap.size HB.out Gt.out ?_
  intro w4 h1 h2 h3; rw [splice_r _ _ _ L0.out (by rw [L1.out, LZ.out])] at h1; have kh := Aside0.mk ((h2.out gh (NEth.out.symm)).trans BKh.out); clear BKt BKh HB h2; have BKt := Aside0.mk h1; have HB := Aside0.mk h3; have BKh := kh; clear h1 h3 kh
  refine hK.out _ _ ?_
  clear hK K
  refine done_ (by kernel_rfl) ?_
  
  go_wp2_with (first
    | ((with_reducible refine gate_dst (N := 88) rfl ?_); refine wpList_load_blk rfl (.tmp 87) rfl gt 0 rfl X0 L0.out (range_l (by (with_reducible repeat (first | refine blk_drewN ?_ _ | refine blk_drew ?_ | refine blk_alloc ?_ _)); exact BKt.out)) ?_)
    | ((with_reducible refine gate_dst (N := 90) rfl ?_); refine wpList_load_blk rfl (.tmp 89) rfl gt 64 rfl z LZ.out (range_r (by (with_reducible repeat (first | refine blk_drewN ?_ _ | refine blk_drew ?_ | refine blk_alloc ?_ _)); exact BKt.out) L0.out) ?_)
    | (go_at_call 16; with_reducible refine (seal_Newest.calls k X0 z L0.out LZ.out wh 0 _ FW.out).mono ?_; rintro e' w' ⟨rfl, hb⟩; have n0_ := Aside0.mk (below_step (by repeat (first | (with_reducible first | exact HB.out | apply below_alloc | apply pw_below_drewN | apply below_drew1) | exact HB.out)) hb); (first | have n1_ := Aside0.mk (blk_below BKt.out hb) | have n1_ := Aside0.mk (blk_below (blk_drewN BKt.out _) hb) | have n1_ := Aside0.mk (blk_below (blk_drew BKt.out) hb) | have n1_ := Aside0.mk (blk_below (blk_alloc BKt.out _) hb) | have n1_ := Aside0.mk (blk_below (by (with_reducible repeat (first | refine blk_drewN ?_ _ | refine blk_drew ?_ | refine blk_alloc ?_ _)); exact BKt.out) hb)); (first | have n2_ := Aside0.mk (blk_below BKh.out hb) | have n2_ := Aside0.mk (blk_below (blk_drewN BKh.out _) hb) | have n2_ := Aside0.mk (blk_below (blk_drew BKh.out) hb) | have n2_ := Aside0.mk (blk_below (blk_alloc BKh.out _) hb) | have n2_ := Aside0.mk (blk_below (by (with_reducible repeat (first | refine blk_drewN ?_ _ | refine blk_drew ?_ | refine blk_alloc ?_ _)); exact BKh.out) hb)); clear HB BKt BKh; have HB := n0_; have BKt := n1_; have BKh := n2_; clear n0_ n1_ n2_ hb))
  by_cases hz : z = X2
  · have hEq : ∀ (d : Nat) (W : World), (Op.equalIn (d + 2) 26 (.agg (bcells z)) (.agg (bcells X2))).run Try.prog W = .ok true W := fun d W => (eqArr d z X2 LZ.out L2.out W).trans (by rw [decide_eq_true hz])
    have hEq2 : ∀ (W : World), (Op.equal 26 (.agg (bcells z)) (.agg (bcells X2))).run Try.prog W = .ok true W := fun W => hEq 9998 W
    have q1 : (wh == 1) = true := by rw [HWH.out.2 hz]; rfl
    clear hz
    refine start_ (n := 13) (S := fun w' => w'.heap[gt]? = some (.cells (bcells (X0 ++ z)) 47 (0, 0)) ∧ w'.heap[gh]? = some (.cells (bcells X2) 26 (0, 0))) (ds := []) #[false, false, false, false, false, false, false, false, false, false, false, false, false] (by kernel_rfl) rfl rfl ⟨BKt.out, BKh.out⟩ (fun hHeld => ?_)
    refine pure_ (i := 0) (N := some 96) (v := ?_) (a' := ?_) #[true, false, false, false, false, false, false, false, false, false, false, false, false] rfl rfl (by kernel_rfl) (fun _ _ _ h => h) (Or.inl ⟨by rfl, ?_⟩) ?_ ?_
    rotate_left
    · intro w'
      go_simp
      with_reducible rfl
    rotate_left
    · simp only [Act.put, List.setIfInBounds_toArray, List.set_cons_zero, List.set_cons_succ, i64_w, i32_w]
      rfl
    refine pure_ (i := 1) (N := some 97) (v := ?_) (a' := ?_) #[true, true, false, false, false, false, false, false, false, false, false, false, false] rfl rfl (by kernel_rfl) (fun _ _ _ h => h) (Or.inl ⟨by rfl, ?_⟩) ?_ ?_
    rotate_left
    · intro w'
      go_simp
      with_reducible rfl
    rotate_left
    · simp only [Act.put, List.setIfInBounds_toArray, List.set_cons_zero, List.set_cons_succ, i64_w, i32_w]
      rfl
    refine pure_ (i := 2) (N := some 98) (v := ?_) (a' := ?_) #[true, true, true, false, false, false, false, false, false, false, false, false, false] rfl rfl (by kernel_rfl) (fun _ _ _ h => h) (Or.inl ⟨by rfl, ?_⟩) ?_ ?_
    rotate_left
    · intro w'
      go_simp
      with_reducible rfl
    rotate_left
    · simp only [Act.put, List.setIfInBounds_toArray, List.set_cons_zero, List.set_cons_succ, i64_w, i32_w]
      rfl
    refine pure_ (i := 3) (N := some 99) (v := ?_) (a' := ?_) #[true, true, true, true, false, false, false, false, false, false, false, false, false] rfl rfl (by kernel_rfl) (fun _ _ _ h => h) (Or.inl ⟨by rfl, ?_⟩) ?_ ?_
    rotate_left
    · intro w'
      go_simp
      with_reducible rfl
    rotate_left
    · simp only [Act.put, List.setIfInBounds_toArray, List.set_cons_zero, List.set_cons_succ, i64_w, i32_w]
      rfl
    refine pure_ (i := 4) (N := some 100) (v := ?_) (a' := ?_) #[true, true, true, true, true, false, false, false, false, false, false, false, false] rfl rfl (by kernel_rfl) (fun _ _ _ h => h) (Or.inl ⟨by rfl, ?_⟩) ?_ ?_
    rotate_left
    · intro w'
      go_simp
      with_reducible rfl
    rotate_left
    · simp only [Act.put, List.setIfInBounds_toArray, List.set_cons_zero, List.set_cons_succ, i64_w, i32_w]
      rfl
    refine take_ (i := 5) (N := some 101) (v := ?_) (a' := ?_) #[true, true, true, true, true, true, false, false, false, false, false, false, false] rfl rfl (by kernel_rfl) (fun _ _ _ h => h) (Or.inl ⟨by rfl, ?_⟩) hHeld ?_ ?_
    rotate_left
    · rintro w' ⟨s0, s1⟩
      refine mid.load_run 100 gt 64 z LZ.out ?_ ?_ w' (range_r s0 L0.out)
      · rfl
      · rfl
    rotate_left
    · simp only [Act.put, List.setIfInBounds_toArray, List.set_cons_zero, List.set_cons_succ, i64_w, i32_w]
      rfl
    refine take_ (i := 6) (N := some 102) (v := ?_) (a' := ?_) #[true, true, true, true, true, true, true, false, false, false, false, false, false] rfl rfl (by kernel_rfl) (fun _ _ _ h => h) (Or.inl ⟨by rfl, ?_⟩) hHeld ?_ ?_
    rotate_left
    · rintro w' ⟨s0, s1⟩
      refine bl.load_run 17 gh (bcells X2) ?_ ?_ w' s1 (seal_size X2 L2.out)
      · rfl
      · rfl
    rotate_left
    · simp only [Act.put, List.setIfInBounds_toArray, List.set_cons_zero, List.set_cons_succ, i64_w, i32_w]
      rfl
    refine pure_ (i := 7) (N := some 103) (v := ?_) (a' := ?_) #[true, true, true, true, true, true, true, true, false, false, false, false, false] rfl rfl (by kernel_rfl) (fun _ _ _ h => h) (Or.inl ⟨by rfl, ?_⟩) ?_ ?_
    rotate_left
    · intro w'
      go_simp
      with_reducible rfl
    rotate_left
    · simp only [Act.put, List.setIfInBounds_toArray, List.set_cons_zero, List.set_cons_succ, i64_w, i32_w]
      rfl
    refine pure_ (i := 8) (N := some 104) (v := ?_) (a' := ?_) #[true, true, true, true, true, true, true, true, true, false, false, false, false] rfl rfl (by kernel_rfl) (fun _ _ _ h => h) (Or.inl ⟨by rfl, ?_⟩) ?_ ?_
    rotate_left
    · intro w'
      go_simp
      with_reducible rfl
    rotate_left
    · simp only [Act.put, List.setIfInBounds_toArray, List.set_cons_zero, List.set_cons_succ, i64_w, i32_w]
      rfl
    refine pure_ (i := 9) (N := some 105) (v := ?_) (a' := ?_) #[true, true, true, true, true, true, true, true, true, true, false, false, false] rfl rfl (by kernel_rfl) (fun _ _ _ h => h) (Or.inl ⟨by rfl, ?_⟩) ?_ ?_
    rotate_left
    · intro w'
      go_simp
      with_reducible rfl
    rotate_left
    · simp only [Act.put, List.setIfInBounds_toArray, List.set_cons_zero, List.set_cons_succ, i64_w, i32_w]
      rfl
    refine one_ (i := 10) (N := some 106) #[true, true, true, true, true, true, true, true, true, true, true, false, false] rfl rfl (by kernel_rfl) (by decide) (fun K hK => ?_)
    refine goes_ Try.func12 (by kernel_rfl) rfl #[] (by rfl) rfl rfl (by simp only [List.map_toArray, List.map_nil]) ?_
    with_reducible refine (law_lives.calls _).mono ?_
    rintro e w5 ⟨rfl, hb⟩
    have n0_ := Aside0.mk (below_step (by repeat (first | (with_reducible first | exact HB.out | apply below_alloc | apply pw_below_drewN | apply below_drew1) | exact HB.out)) hb); (first | have n1_ := Aside0.mk (blk_below BKt.out hb) | have n1_ := Aside0.mk (blk_below (blk_drewN BKt.out _) hb) | have n1_ := Aside0.mk (blk_below (blk_drew BKt.out) hb) | have n1_ := Aside0.mk (blk_below (blk_alloc BKt.out _) hb) | have n1_ := Aside0.mk (blk_below (by (with_reducible repeat (first | refine blk_drewN ?_ _ | refine blk_drew ?_ | refine blk_alloc ?_ _)); exact BKt.out) hb)); (first | have n2_ := Aside0.mk (blk_below BKh.out hb) | have n2_ := Aside0.mk (blk_below (blk_drewN BKh.out _) hb) | have n2_ := Aside0.mk (blk_below (blk_drew BKh.out) hb) | have n2_ := Aside0.mk (blk_below (blk_alloc BKh.out _) hb) | have n2_ := Aside0.mk (blk_below (by (with_reducible repeat (first | refine blk_drewN ?_ _ | refine blk_drew ?_ | refine blk_alloc ?_ _)); exact BKh.out) hb)); clear HB BKt BKh; have HB := n0_; have BKt := n1_; have BKh := n2_; clear n0_ n1_ n2_ hb
    refine ⟨_, rfl, ?_⟩
    refine hK.out _ _ ⟨BKt.out, BKh.out⟩ (fun hHeld => ?_)
    clear hK K
    refine norm_ (a' := ?_) ?_ ?_
    rotate_left
    · show Act.put _ (some 106) _ = _
      simp only [Act.put, List.setIfInBounds_toArray, List.set_cons_zero, List.set_cons_succ, i64_w, i32_w]
      rfl
    refine pure_ (i := 11) (N := some 107) (v := ?_) (a' := ?_) #[true, true, true, true, true, true, true, true, true, true, true, true, false] rfl rfl (by kernel_rfl) (fun _ _ _ h => h) (Or.inl ⟨by rfl, ?_⟩) ?_ ?_
    rotate_left
    · intro w'
      go_simp
      with_reducible rfl
    rotate_left
    · simp only [Act.put, List.setIfInBounds_toArray, List.set_cons_zero, List.set_cons_succ, i64_w, i32_w]
      rfl
    refine pure_ (i := 12) (N := some 12) (v := ?_) (a' := ?_) #[true, true, true, true, true, true, true, true, true, true, true, true, true] rfl rfl (by kernel_rfl) (fun _ _ _ h => h) (Or.inl ⟨by rfl, ?_⟩) ?_ ?_
    rotate_left
    · intro w'
      go_simp
      with_reducible rfl
    rotate_left
    · simp only [Act.put, List.setIfInBounds_toArray, List.set_cons_zero, List.set_cons_succ, i64_w, i32_w]
      rfl
    refine done_ (by kernel_rfl) ?_
  
    go_wp2
    go_ret
    exact ⟨rfl, by repeat (first | (with_reducible first | exact HB.out | apply below_alloc | apply pw_below_drewN | apply below_drew1) | exact HB.out)⟩
  · have hEq : ∀ (d : Nat) (W : World), (Op.equalIn (d + 2) 26 (.agg (bcells z)) (.agg (bcells X2))).run Try.prog W = .ok false W := fun d W => (eqArr d z X2 LZ.out L2.out W).trans (by rw [decide_eq_false hz])
    have hEq2 : ∀ (W : World), (Op.equal 26 (.agg (bcells z)) (.agg (bcells X2))).run Try.prog W = .ok false W := fun W => hEq 9998 W
    have q1 : (wh == 1) = false := by simpa using fun h => hz (HWH.out.1 h)
    clear hz
    refine start_ (n := 13) (S := fun w' => w'.heap[gt]? = some (.cells (bcells (X0 ++ z)) 47 (0, 0)) ∧ w'.heap[gh]? = some (.cells (bcells X2) 26 (0, 0))) (ds := []) #[false, false, false, false, false, false, false, false, false, false, false, false, false] (by kernel_rfl) rfl rfl ⟨BKt.out, BKh.out⟩ (fun hHeld => ?_)
    refine pure_ (i := 0) (N := some 96) (v := ?_) (a' := ?_) #[true, false, false, false, false, false, false, false, false, false, false, false, false] rfl rfl (by kernel_rfl) (fun _ _ _ h => h) (Or.inl ⟨by rfl, ?_⟩) ?_ ?_
    rotate_left
    · intro w'
      go_simp
      with_reducible rfl
    rotate_left
    · simp only [Act.put, List.setIfInBounds_toArray, List.set_cons_zero, List.set_cons_succ, i64_w, i32_w]
      rfl
    refine pure_ (i := 1) (N := some 97) (v := ?_) (a' := ?_) #[true, true, false, false, false, false, false, false, false, false, false, false, false] rfl rfl (by kernel_rfl) (fun _ _ _ h => h) (Or.inl ⟨by rfl, ?_⟩) ?_ ?_
    rotate_left
    · intro w'
      go_simp
      with_reducible rfl
    rotate_left
    · simp only [Act.put, List.setIfInBounds_toArray, List.set_cons_zero, List.set_cons_succ, i64_w, i32_w]
      rfl
    refine pure_ (i := 2) (N := some 98) (v := ?_) (a' := ?_) #[true, true, true, false, false, false, false, false, false, false, false, false, false] rfl rfl (by kernel_rfl) (fun _ _ _ h => h) (Or.inl ⟨by rfl, ?_⟩) ?_ ?_
    rotate_left
    · intro w'
      go_simp
      with_reducible rfl
    rotate_left
    · simp only [Act.put, List.setIfInBounds_toArray, List.set_cons_zero, List.set_cons_succ, i64_w, i32_w]
      rfl
    refine pure_ (i := 3) (N := some 99) (v := ?_) (a' := ?_) #[true, true, true, true, false, false, false, false, false, false, false, false, false] rfl rfl (by kernel_rfl) (fun _ _ _ h => h) (Or.inl ⟨by rfl, ?_⟩) ?_ ?_
    rotate_left
    · intro w'
      go_simp
      with_reducible rfl
    rotate_left
    · simp only [Act.put, List.setIfInBounds_toArray, List.set_cons_zero, List.set_cons_succ, i64_w, i32_w]
      rfl
    refine pure_ (i := 4) (N := some 100) (v := ?_) (a' := ?_) #[true, true, true, true, true, false, false, false, false, false, false, false, false] rfl rfl (by kernel_rfl) (fun _ _ _ h => h) (Or.inl ⟨by rfl, ?_⟩) ?_ ?_
    rotate_left
    · intro w'
      go_simp
      with_reducible rfl
    rotate_left
    · simp only [Act.put, List.setIfInBounds_toArray, List.set_cons_zero, List.set_cons_succ, i64_w, i32_w]
      rfl
    refine take_ (i := 5) (N := some 101) (v := ?_) (a' := ?_) #[true, true, true, true, true, true, false, false, false, false, false, false, false] rfl rfl (by kernel_rfl) (fun _ _ _ h => h) (Or.inl ⟨by rfl, ?_⟩) hHeld ?_ ?_
    rotate_left
    · rintro w' ⟨s0, s1⟩
      refine mid.load_run 100 gt 64 z LZ.out ?_ ?_ w' (range_r s0 L0.out)
      · rfl
      · rfl
    rotate_left
    · simp only [Act.put, List.setIfInBounds_toArray, List.set_cons_zero, List.set_cons_succ, i64_w, i32_w]
      rfl
    refine take_ (i := 6) (N := some 102) (v := ?_) (a' := ?_) #[true, true, true, true, true, true, true, false, false, false, false, false, false] rfl rfl (by kernel_rfl) (fun _ _ _ h => h) (Or.inl ⟨by rfl, ?_⟩) hHeld ?_ ?_
    rotate_left
    · rintro w' ⟨s0, s1⟩
      refine bl.load_run 17 gh (bcells X2) ?_ ?_ w' s1 (seal_size X2 L2.out)
      · rfl
      · rfl
    rotate_left
    · simp only [Act.put, List.setIfInBounds_toArray, List.set_cons_zero, List.set_cons_succ, i64_w, i32_w]
      rfl
    refine pure_ (i := 7) (N := some 103) (v := ?_) (a' := ?_) #[true, true, true, true, true, true, true, true, false, false, false, false, false] rfl rfl (by kernel_rfl) (fun _ _ _ h => h) (Or.inl ⟨by rfl, ?_⟩) ?_ ?_
    rotate_left
    · intro w'
      go_simp
      with_reducible rfl
    rotate_left
    · simp only [Act.put, List.setIfInBounds_toArray, List.set_cons_zero, List.set_cons_succ, i64_w, i32_w]
      rfl
    refine pure_ (i := 8) (N := some 104) (v := ?_) (a' := ?_) #[true, true, true, true, true, true, true, true, true, false, false, false, false] rfl rfl (by kernel_rfl) (fun _ _ _ h => h) (Or.inl ⟨by rfl, ?_⟩) ?_ ?_
    rotate_left
    · intro w'
      go_simp
      with_reducible rfl
    rotate_left
    · simp only [Act.put, List.setIfInBounds_toArray, List.set_cons_zero, List.set_cons_succ, i64_w, i32_w]
      rfl
    refine pure_ (i := 9) (N := some 105) (v := ?_) (a' := ?_) #[true, true, true, true, true, true, true, true, true, true, false, false, false] rfl rfl (by kernel_rfl) (fun _ _ _ h => h) (Or.inl ⟨by rfl, ?_⟩) ?_ ?_
    rotate_left
    · intro w'
      go_simp
      with_reducible rfl
    rotate_left
    · simp only [Act.put, List.setIfInBounds_toArray, List.set_cons_zero, List.set_cons_succ, i64_w, i32_w]
      rfl
    refine one_ (i := 10) (N := some 106) #[true, true, true, true, true, true, true, true, true, true, true, false, false] rfl rfl (by kernel_rfl) (by decide) (fun K hK => ?_)
    refine goes_ Try.func12 (by kernel_rfl) rfl #[] (by rfl) rfl rfl (by simp only [List.map_toArray, List.map_nil]) ?_
    with_reducible refine (law_lives.calls _).mono ?_
    rintro e w5 ⟨rfl, hb⟩
    have n0_ := Aside0.mk (below_step (by repeat (first | (with_reducible first | exact HB.out | apply below_alloc | apply pw_below_drewN | apply below_drew1) | exact HB.out)) hb); (first | have n1_ := Aside0.mk (blk_below BKt.out hb) | have n1_ := Aside0.mk (blk_below (blk_drewN BKt.out _) hb) | have n1_ := Aside0.mk (blk_below (blk_drew BKt.out) hb) | have n1_ := Aside0.mk (blk_below (blk_alloc BKt.out _) hb) | have n1_ := Aside0.mk (blk_below (by (with_reducible repeat (first | refine blk_drewN ?_ _ | refine blk_drew ?_ | refine blk_alloc ?_ _)); exact BKt.out) hb)); (first | have n2_ := Aside0.mk (blk_below BKh.out hb) | have n2_ := Aside0.mk (blk_below (blk_drewN BKh.out _) hb) | have n2_ := Aside0.mk (blk_below (blk_drew BKh.out) hb) | have n2_ := Aside0.mk (blk_below (blk_alloc BKh.out _) hb) | have n2_ := Aside0.mk (blk_below (by (with_reducible repeat (first | refine blk_drewN ?_ _ | refine blk_drew ?_ | refine blk_alloc ?_ _)); exact BKh.out) hb)); clear HB BKt BKh; have HB := n0_; have BKt := n1_; have BKh := n2_; clear n0_ n1_ n2_ hb
    refine ⟨_, rfl, ?_⟩
    refine hK.out _ _ ⟨BKt.out, BKh.out⟩ (fun hHeld => ?_)
    clear hK K
    refine norm_ (a' := ?_) ?_ ?_
    rotate_left
    · show Act.put _ (some 106) _ = _
      simp only [Act.put, List.setIfInBounds_toArray, List.set_cons_zero, List.set_cons_succ, i64_w, i32_w]
      rfl
    refine pure_ (i := 11) (N := some 107) (v := ?_) (a' := ?_) #[true, true, true, true, true, true, true, true, true, true, true, true, false] rfl rfl (by kernel_rfl) (fun _ _ _ h => h) (Or.inl ⟨by rfl, ?_⟩) ?_ ?_
    rotate_left
    · intro w'
      go_simp
      with_reducible rfl
    rotate_left
    · simp only [Act.put, List.setIfInBounds_toArray, List.set_cons_zero, List.set_cons_succ, i64_w, i32_w]
      rfl
    refine pure_ (i := 12) (N := some 12) (v := ?_) (a' := ?_) #[true, true, true, true, true, true, true, true, true, true, true, true, true] rfl rfl (by kernel_rfl) (fun _ _ _ h => h) (Or.inl ⟨by rfl, ?_⟩) ?_ ?_
    rotate_left
    · intro w'
      go_simp
      with_reducible rfl
    rotate_left
    · simp only [Act.put, List.setIfInBounds_toArray, List.set_cons_zero, List.set_cons_succ, i64_w, i32_w]
      rfl
    refine done_ (by kernel_rfl) ?_
  
    go_wp2
    go_ret
    exact ⟨rfl, by repeat (first | (with_reducible first | exact HB.out | apply below_alloc | apply pw_below_drewN | apply below_drew1) | exact HB.out)⟩
/-- what the law asks -/
def nextAll (k : Nat) (n m : Int) (a b c : List Int) (p : Int) : Prop := ∃ (N M T : Int) (X0 : List Int) (e1 : Int) (X1 : List Int) (e2 : Int) (X2 : List Int) (e3 : Int), IntKind.u64.wrap (Int.tmod n 1152921504606846976 + 1) = N ∧ IntKind.u64.wrap (Int.tmod m 1152921504606846976 + 1) = M ∧ IntKind.u64.wrap (max N M + 1) = T ∧ X0.length = 64 ∧ X1.length = 64 ∧ X2.length = 64 ∧
  seal_Put.f k N a = some (X0, e1) ∧ seal_Put.f k M b = some (X1, e2) ∧ seal_Put.f k T c = some (X2, e3) ∧
  (N = M ∨ (N ≠ M ∧ e1 ≠ 0) ∨ (N ≠ M ∧ e1 = 0 ∧ e2 ≠ 0) ∨ (N ≠ M ∧ e1 = 0 ∧ e2 = 0 ∧ e3 ≠ 0)
   ∨ (N ≠ M ∧ e1 = 0 ∧ e2 = 0 ∧ e3 = 0 ∧ N < M ∧ seal_Next.f k X0 X1 = some 0 ∧ ∃ wh, seal_Newest.f k (tornL X0 X2 p) X1 = some (wh, 0) ∧ (wh = 0 ↔ tornL X0 X2 p = X2))
   ∨ (N ≠ M ∧ e1 = 0 ∧ e2 = 0 ∧ e3 = 0 ∧ M ≤ N ∧ seal_Next.f k X0 X1 = some 1 ∧ ∃ wh, seal_Newest.f k X0 (tornL X1 X2 p) = some (wh, 0) ∧ (wh = 1 ↔ tornL X1 X2 p = X2)))
theorem sealNext.calls (k : Nat) (n m : Int) (A : Option Addr) (ca : Nat) (a : List Int) (B : Option Addr) (cb : Nat) (b : List Int) (C : Option Addr) (cc : Nat) (c : List Int) (p : Int) (w : World) (ha : Kd.C (Kd.int .u8) w A a.length a) (hca : a.length ≤ ca) (hb : Kd.C (Kd.int .u8) w B b.length b) (hcb : b.length ≤ cb) (hc : Kd.C (Kd.int .u8) w C c.length c) (hcc : c.length ≤ cc) (h : nextAll k n m a b c p) :
    Calls Try.prog 7 #[.int .u64 n, .int .u64 m, .slice A a.length ca, .slice B b.length cb, .slice C c.length cc, .int .i64 p] w fun e' w' => e' = .returned (.bool true) ∧ Below w.heap.size w w' := by
  obtain ⟨N, M, T, X0, e1, X1, e2, X2, e3, hN, hM, hT, l0, l1, l2, f1, f2, f3, h⟩ := h
  rcases h with h | ⟨h1, h2⟩ | ⟨h1, h2, h3⟩ | ⟨h1, h2, h3, h4⟩ | ⟨h1, h2, h3, h4, h5, h6, wh, h7, h8⟩ | ⟨h1, h2, h3, h4, h5, h6, wh, h7, h8⟩
  · exact sealNext.callsA1 k n m A ca a B cb b C cc c p N M T w ha hca hb hcb hc hcc hN hM hT X0 X1 X2 l0 l1 l2 e1 e2 e3 f1 f2 f3 h
  · exact sealNext.callsA2 k n m A ca a B cb b C cc c p N M T w ha hca hb hcb hc hcc hN hM hT X0 X1 X2 l0 l1 l2 e1 e2 e3 f1 f2 f3 h1 h2
  · exact sealNext.callsA3 k n m A ca a B cb b C cc c p N M T w ha hca hb hcb hc hcc hN hM hT X0 X1 X2 l0 l1 l2 e1 e2 e3 f1 f2 f3 h1 h2 h3
  · exact sealNext.callsA4 k n m A ca a B cb b C cc c p N M T w ha hca hb hcb hc hcc hN hM hT X0 X1 X2 l0 l1 l2 e1 e2 e3 f1 f2 f3 h1 h2 h3 h4
  · subst h2; subst h3; subst h4
    exact sealNext.callsB0 k n m A ca a B cb b C cc c p N M T w ha hca hb hcb hc hcc hN hM hT X0 X1 X2 l0 l1 l2 f1 f2 f3 h1 h5 h6 _ rfl wh h7 h8
  · subst h2; subst h3; subst h4
    exact sealNext.callsB1 k n m A ca a B cb b C cc c p N M T w ha hca hb hcb hc hcc hN hM hT X0 X1 X2 l0 l1 l2 f1 f2 f3 h1 h5 h6 _ rfl wh h7 h8
end Go.Proofs.Ythgbipgfplokeaa.GA
