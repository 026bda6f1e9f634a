import Derived.Test.YthgbipgfplokeaaS13
import Derived.Deep.RegionHeld3
namespace Go.Proofs.Ythgbipgfplokeaa.GA
open Go.RowKit Go.Proofs.YthgbipgfplokeaaW.PrintWords Go.Proofs.YthgbipgfplokeaaW.PrintLast Go.Proofs.YthgbipgfplokeaaW.PrintMore
set_option linter.unusedVariables false
set_option linter.unusedSimpArgs false

theorem bl.load_run {o : Oper} {a : Act} (t : Nat) (g : Nat) (cs : Array Value) (ho : o.op = .load 26 (.tmp t)) (hx : a.eval (.tmp t) = .pointer (some ⟨g, 0, none⟩)) (w : World) (hg : w.heap[g]? = some (.cells cs 26 (0, 0))) (hi : (Try.prog.info? 26).map (·.size) = some cs.size) :
    (execOp a.eval o).run Try.prog w = .ok (.value (.agg cs)) w := by
  unfold execOp
  simp only [ho, hx, Instr.loadAt, Instr.sureAddr, Sem.run_bind, Sem.run_pure, Result.andThen_ok, run_loadVar_row w g 26 26 cs (0, 0) _ hg Try.underlying26 rfl hi]
theorem same_refl (l : List Int) : cohortref00_Same.f l l = some true := by unfold cohortref00_Same.f; simp
/-- of two blocks the program and the document say the same -/
def Pair (k : Nat) (a b : List Int) : Prop := a.length = 64 ∧ b.length = 64 ∧ ∃ (n : Int) (l : List Int) (e p q z : Int),
  seal_Get.f k a = some (n, l, e) ∧ refGet.f k a = some (n, l, e) ∧ seal_Newest.f k a b = some (p, q) ∧ refNewest.f k a b = some (p, q) ∧ seal_Next.f k a b = some z ∧ refNext.f k a b = some z
set_option maxHeartbeats 16000000 in
set_option maxRecDepth 100000 in
theorem sealGets.calls (k : Nat) (x y : List Int) (w : World) (h1 : Pair k x y) (h2 : Pair k y x) :
    Calls Try.prog 4 #[.agg (bcells x), .agg (bcells y)] w fun e' w' => e' = .returned (.bool true) ∧ Below w.heap.size w w' := by
  have HB := Aside0.mk (Below.refl w.heap.size w)
  have PX := Aside0.mk h1
  have PY := Aside0.mk h2
  clear h1 h2
  go_enter Try.func4, Try.ntmps4
  go_wp2_with (first
    | ((with_reducible refine gate_dst (N := 2) rfl ?_); refine box_event ?hg (N := 2) ?hd (cs := bcells x) (t := 26) ?hr ?_; (case hd => rfl); (case hg => rfl); (case hr => first | (go_simp; done) | (go_simp; rfl)); intro gx hg w1x hbox hb; have Gx := Aside0.mk (show w.heap.size ≤ gx from by rw [hg]; exact below_size (by repeat (first | (with_reducible first | exact HB.out | apply below_alloc | apply pw_below_drewN | apply below_drew1) | exact HB.out))); have BKx := Aside0.mk hbox; clear hbox hg; have n0_ := Aside0.mk (below_step (by repeat (first | (with_reducible first | exact HB.out | apply below_alloc | apply pw_below_drewN | apply below_drew1) | exact HB.out)) hb); clear HB; have HB := n0_; clear n0_ hb)
    | ((with_reducible refine gate_dst (N := 3) rfl ?_); refine box_event ?hg (N := 3) ?hd (cs := bcells y) (t := 26) ?hr ?_; (case hd => rfl); (case hg => rfl); (case hr => first | (go_simp; done) | (go_simp; rfl)); intro gy hg w1y hbox hb; have Gy := Aside0.mk (show w.heap.size ≤ gy from by rw [hg]; exact below_size (by repeat (first | (with_reducible first | exact HB.out | apply below_alloc | apply pw_below_drewN | apply below_drew1) | exact HB.out))); have NE := Aside0.mk (show gx ≠ gy from by rw [hg]; exact Nat.ne_of_lt (blk_lt (by (with_reducible repeat (first | refine blk_drewN ?_ _ | refine blk_drew ?_ | refine blk_alloc ?_ _)); exact BKx.out))); have BKy := Aside0.mk hbox; clear hbox hg; have n0_ := Aside0.mk (below_step (by repeat (first | (with_reducible first | exact HB.out | apply below_alloc | apply pw_below_drewN | apply below_drew1) | exact HB.out)) hb); (first | have n1_ := Aside0.mk (blk_below BKx.out hb) | have n1_ := Aside0.mk (blk_below (blk_drewN BKx.out _) hb) | have n1_ := Aside0.mk (blk_below (blk_drew BKx.out) hb) | have n1_ := Aside0.mk (blk_below (blk_alloc BKx.out _) hb) | have n1_ := Aside0.mk (blk_below (by (with_reducible repeat (first | refine blk_drewN ?_ _ | refine blk_drew ?_ | refine blk_alloc ?_ _)); exact BKx.out) hb)); clear HB BKx; have HB := n0_; have BKx := n1_; clear n0_ n1_ hb))
  go_loopw [5] (fun v5 w' => ∃ (i : Nat) (a b : List Int), i ≤ 2 ∧ v5 = .int .i64 i ∧ Aside0 (Pair k a b) ∧ Aside0 (Pair k b a) ∧ Aside0 (w'.heap[gx]? = some (.cells (bcells a) 26 (0, 0))) ∧ Aside0 (w'.heap[gy]? = some (.cells (bcells b) 26 (0, 0))) ∧ Aside0 (Below w.heap.size w w')) (fun v5 _ => 2 - (intOf v5).toNat)
  case atStart => exact ⟨0, x, y, Nat.zero_le _, rfl, PX, PY, BKx, BKy, HB⟩
  case round =>
    clear BKx BKy HB PX PY
    obtain ⟨i, a, b, hi, rfl, PX, PY, BKx, BKy, HB⟩ := hrel
    by_cases hlt : i < 2
    · obtain ⟨la, lb, n, l, e, p, q, z, f1, f2, f3, f4, f5, f6⟩ := PX.out
      have LA := Aside0.mk la
      have LB := Aside0.mk lb
      have F1 := Aside0.mk f1
      have F2 := Aside0.mk f2
      have F3 := Aside0.mk f3
      have F4 := Aside0.mk f4
      have F5 := Aside0.mk f5
      have F6 := Aside0.mk f6
      have i2 : (i : Int) < 2 := by omega
      have i3 : wrap64 ((i : Int) + 1) = (i : Int) + 1 := by unfold wrap64; omega
      clear la lb f1 f2 f3 f4 f5 f6
      go_wp2_with (first
        | ((with_reducible refine gate_dst (N := 21) rfl ?_); refine wpList_load_row rfl 26 (.tmp 2) rfl gx rfl 26 (bcells a) (0, 0) _ (by (with_reducible repeat (first | refine blk_drewN ?_ _ | refine blk_drew ?_ | refine blk_alloc ?_ _)); exact BKx.out) Try.underlying26 rfl (seal_size _ LA.out) ?_)
        | (go_at_call 13; with_reducible refine (seal_Get.calls k a LA.out n l e _ F1.out).mono ?_; rintro e' w1 ⟨v1, rfl, ho, hb⟩; obtain ⟨A1, c1, eA⟩ := Kd.R_slice ho; subst eA; have H1 := Aside0.mk (Kd.R_reads' ho).2.2; have H1L := Aside0.mk (Kd.R_reads' ho).2.1; have W1 := Aside0.mk (Below.refl w1.heap.size w1); clear ho; have n0_ := Aside0.mk (below_step (by repeat (first | (with_reducible first | exact HB.out | apply below_alloc | apply pw_below_drewN | apply below_drew1) | exact HB.out)) hb); (first | have n1_ := Aside0.mk (blk_below BKx.out hb) | have n1_ := Aside0.mk (blk_below (blk_drewN BKx.out _) hb) | have n1_ := Aside0.mk (blk_below (blk_drew BKx.out) hb) | have n1_ := Aside0.mk (blk_below (blk_alloc BKx.out _) hb) | have n1_ := Aside0.mk (blk_below (by (with_reducible repeat (first | refine blk_drewN ?_ _ | refine blk_drew ?_ | refine blk_alloc ?_ _)); exact BKx.out) hb)); (first | have n2_ := Aside0.mk (blk_below BKy.out hb) | have n2_ := Aside0.mk (blk_below (blk_drewN BKy.out _) hb) | have n2_ := Aside0.mk (blk_below (blk_drew BKy.out) hb) | have n2_ := Aside0.mk (blk_below (blk_alloc BKy.out _) hb) | have n2_ := Aside0.mk (blk_below (by (with_reducible repeat (first | refine blk_drewN ?_ _ | refine blk_drew ?_ | refine blk_alloc ?_ _)); exact BKy.out) hb)); clear HB BKx BKy; have HB := n0_; have BKx := n1_; have BKy := n2_; clear n0_ n1_ n2_ hb)
        | ((with_reducible refine gate_dst (N := 27) rfl ?_); refine wpList_load_row rfl 26 (.tmp 2) rfl gx rfl 26 (bcells a) (0, 0) _ (by (with_reducible repeat (first | refine blk_drewN ?_ _ | refine blk_drew ?_ | refine blk_alloc ?_ _)); exact BKx.out) Try.underlying26 rfl (seal_size _ LA.out) ?_)
        | (go_at_call 14; with_reducible refine (refGet.calls k a LA.out n l e _ F2.out).mono ?_; rintro e' w2 ⟨v2, rfl, ho, hb⟩; obtain ⟨A2, c2, eA⟩ := Kd.R_slice ho; subst eA; have H2 := Aside0.mk (Kd.R_reads' ho).2.2; have H2L := Aside0.mk (Kd.R_reads' ho).2.1; have W2 := Aside0.mk (Below.refl w2.heap.size w2); clear ho; have n0_ := Aside0.mk (below_step (by repeat (first | (with_reducible first | exact HB.out | apply below_alloc | apply pw_below_drewN | apply below_drew1) | exact HB.out)) hb); have n1_ := Aside0.mk (below_step (by repeat (first | (with_reducible first | exact W1.out | apply below_alloc | apply pw_below_drewN | apply below_drew1) | exact W1.out)) hb); (first | have n2_ := Aside0.mk (blk_below BKx.out hb) | have n2_ := Aside0.mk (blk_below (blk_drewN BKx.out _) hb) | have n2_ := Aside0.mk (blk_below (blk_drew BKx.out) hb) | have n2_ := Aside0.mk (blk_below (blk_alloc BKx.out _) hb) | have n2_ := Aside0.mk (blk_below (by (with_reducible repeat (first | refine blk_drewN ?_ _ | refine blk_drew ?_ | refine blk_alloc ?_ _)); exact BKx.out) hb)); (first | have n3_ := Aside0.mk (blk_below BKy.out hb) | have n3_ := Aside0.mk (blk_below (blk_drewN BKy.out _) hb) | have n3_ := Aside0.mk (blk_below (blk_drew BKy.out) hb) | have n3_ := Aside0.mk (blk_below (blk_alloc BKy.out _) hb) | have n3_ := Aside0.mk (blk_below (by (with_reducible repeat (first | refine blk_drewN ?_ _ | refine blk_drew ?_ | refine blk_alloc ?_ _)); exact BKy.out) hb)); clear HB W1 BKx BKy; have HB := n0_; have W1 := n1_; have BKx := n2_; have BKy := n3_; clear n0_ n1_ n2_ n3_ hb)
        | (go_at_call 15; with_reducible refine (cohortref00_Same.calls A1 c1 l A2 c2 l true _ (Kd.C_below H1.out (by repeat (first | (with_reducible first | exact W1.out | apply below_alloc | apply pw_below_drewN | apply below_drew1) | exact W1.out))) H1L.out (Kd.C_below H2.out (by repeat (first | (with_reducible first | exact W2.out | apply below_alloc | apply pw_below_drewN | apply below_drew1) | exact W2.out))) H2L.out (same_refl l)).mono ?_; rintro e' w' ⟨rfl, ⟨nd, rfl⟩⟩)
        | ((with_reducible refine gate_dst (N := 47) rfl ?_); refine wpList_load_row rfl 26 (.tmp 2) rfl gx rfl 26 (bcells a) (0, 0) _ (by (with_reducible repeat (first | refine blk_drewN ?_ _ | refine blk_drew ?_ | refine blk_alloc ?_ _)); exact BKx.out) Try.underlying26 rfl (seal_size _ LA.out) ?_)
        | ((with_reducible refine gate_dst (N := 48) rfl ?_); refine wpList_load_row rfl 26 (.tmp 3) rfl gy rfl 26 (bcells b) (0, 0) _ (by (with_reducible repeat (first | refine blk_drewN ?_ _ | refine blk_drew ?_ | refine blk_alloc ?_ _)); exact BKy.out) Try.underlying26 rfl (seal_size _ LB.out) ?_)
        | (go_at_call 16; with_reducible refine (seal_Newest.calls k a b LA.out LB.out p q _ F3.out).mono ?_; rintro e' w' ⟨rfl, hb⟩; have n0_ := Aside0.mk (below_step (by repeat (first | (with_reducible first | exact HB.out | apply below_alloc | apply pw_below_drewN | apply below_drew1) | exact HB.out)) hb); (first | have n1_ := Aside0.mk (blk_below BKx.out hb) | have n1_ := Aside0.mk (blk_below (blk_drewN BKx.out _) hb) | have n1_ := Aside0.mk (blk_below (blk_drew BKx.out) hb) | have n1_ := Aside0.mk (blk_below (blk_alloc BKx.out _) hb) | have n1_ := Aside0.mk (blk_below (by (with_reducible repeat (first | refine blk_drewN ?_ _ | refine blk_drew ?_ | refine blk_alloc ?_ _)); exact BKx.out) hb)); (first | have n2_ := Aside0.mk (blk_below BKy.out hb) | have n2_ := Aside0.mk (blk_below (blk_drewN BKy.out _) hb) | have n2_ := Aside0.mk (blk_below (blk_drew BKy.out) hb) | have n2_ := Aside0.mk (blk_below (blk_alloc BKy.out _) hb) | have n2_ := Aside0.mk (blk_below (by (with_reducible repeat (first | refine blk_drewN ?_ _ | refine blk_drew ?_ | refine blk_alloc ?_ _)); exact BKy.out) hb)); clear HB BKx BKy; have HB := n0_; have BKx := n1_; have BKy := n2_; clear n0_ n1_ n2_ hb)
        | ((with_reducible refine gate_dst (N := 53) rfl ?_); refine wpList_load_row rfl 26 (.tmp 2) rfl gx rfl 26 (bcells a) (0, 0) _ (by (with_reducible repeat (first | refine blk_drewN ?_ _ | refine blk_drew ?_ | refine blk_alloc ?_ _)); exact BKx.out) Try.underlying26 rfl (seal_size _ LA.out) ?_)
        | ((with_reducible refine gate_dst (N := 54) rfl ?_); refine wpList_load_row rfl 26 (.tmp 3) rfl gy rfl 26 (bcells b) (0, 0) _ (by (with_reducible repeat (first | refine blk_drewN ?_ _ | refine blk_drew ?_ | refine blk_alloc ?_ _)); exact BKy.out) Try.underlying26 rfl (seal_size _ LB.out) ?_)
        | (go_at_call 17; with_reducible refine (refNewest.calls k a b LA.out LB.out p q _ F4.out).mono ?_; rintro e' w' ⟨rfl, hb⟩; have n0_ := Aside0.mk (below_step (by repeat (first | (with_reducible first | exact HB.out | apply below_alloc | apply pw_below_drewN | apply below_drew1) | exact HB.out)) hb); (first | have n1_ := Aside0.mk (blk_below BKx.out hb) | have n1_ := Aside0.mk (blk_below (blk_drewN BKx.out _) hb) | have n1_ := Aside0.mk (blk_below (blk_drew BKx.out) hb) | have n1_ := Aside0.mk (blk_below (blk_alloc BKx.out _) hb) | have n1_ := Aside0.mk (blk_below (by (with_reducible repeat (first | refine blk_drewN ?_ _ | refine blk_drew ?_ | refine blk_alloc ?_ _)); exact BKx.out) hb)); (first | have n2_ := Aside0.mk (blk_below BKy.out hb) | have n2_ := Aside0.mk (blk_below (blk_drewN BKy.out _) hb) | have n2_ := Aside0.mk (blk_below (blk_drew BKy.out) hb) | have n2_ := Aside0.mk (blk_below (blk_alloc BKy.out _) hb) | have n2_ := Aside0.mk (blk_below (by (with_reducible repeat (first | refine blk_drewN ?_ _ | refine blk_drew ?_ | refine blk_alloc ?_ _)); exact BKy.out) hb)); clear HB BKx BKy; have HB := n0_; have BKx := n1_; have BKy := n2_; clear n0_ n1_ n2_ hb))
      refine start_ (n := 17) (S := fun w' => w'.heap[gx]? = some (.cells (bcells a) 26 (0, 0)) ∧ w'.heap[gy]? = some (.cells (bcells b) 26 (0, 0))) (ds := []) #[false, false, false, false, false, false, false, false, false, false, false, false, false, false, false, false, false] (by kernel_rfl) rfl rfl ⟨BKx.out, BKy.out⟩ (fun hHeld => ?_)
      refine pure_ (i := 0) (N := some 58) (v := ?_) (a' := ?_) #[true, false, false, false, false, false, false, false, false, false, false, false, false, false, false, false, false] rfl rfl (by kernel_rfl) (fun _ _ _ h => h) (Or.inl ⟨by rfl, ?_⟩) ?_ ?_
      rotate_left
      · intro w'
        go_simp
        with_reducible rfl
      rotate_left
      · simp only [Act.put, List.setIfInBounds_toArray, List.set_cons_zero, List.set_cons_succ, i64_w, i32_w]
        rfl
      refine pure_ (i := 1) (N := some 59) (v := ?_) (a' := ?_) #[true, true, false, false, false, false, false, false, false, false, false, false, false, false, false, false, false] rfl rfl (by kernel_rfl) (fun _ _ _ h => h) (Or.inl ⟨by rfl, ?_⟩) ?_ ?_
      rotate_left
      · intro w'
        go_simp
        with_reducible rfl
      rotate_left
      · simp only [Act.put, List.setIfInBounds_toArray, List.set_cons_zero, List.set_cons_succ, i64_w, i32_w]
        rfl
      refine pure_ (i := 2) (N := some 60) (v := ?_) (a' := ?_) #[true, true, true, false, false, false, false, false, false, false, false, false, false, false, false, false, false] rfl rfl (by kernel_rfl) (fun _ _ _ h => h) (Or.inl ⟨by rfl, ?_⟩) ?_ ?_
      rotate_left
      · intro w'
        go_simp
        with_reducible rfl
      rotate_left
      · simp only [Act.put, List.setIfInBounds_toArray, List.set_cons_zero, List.set_cons_succ, i64_w, i32_w]
        rfl
      refine pure_ (i := 3) (N := some 61) (v := ?_) (a' := ?_) #[true, true, true, true, false, false, false, false, false, false, false, false, false, false, false, false, false] rfl rfl (by kernel_rfl) (fun _ _ _ h => h) (Or.inl ⟨by rfl, ?_⟩) ?_ ?_
      rotate_left
      · intro w'
        go_simp
        with_reducible rfl
      rotate_left
      · simp only [Act.put, List.setIfInBounds_toArray, List.set_cons_zero, List.set_cons_succ, i64_w, i32_w]
        rfl
      refine pure_ (i := 4) (N := some 62) (v := ?_) (a' := ?_) #[true, true, true, true, true, false, false, false, false, false, false, false, false, false, false, false, false] rfl rfl (by kernel_rfl) (fun _ _ _ h => h) (Or.inl ⟨by rfl, ?_⟩) ?_ ?_
      rotate_left
      · intro w'
        go_simp
        with_reducible rfl
      rotate_left
      · simp only [Act.put, List.setIfInBounds_toArray, List.set_cons_zero, List.set_cons_succ, i64_w, i32_w]
        rfl
      refine pure_ (i := 5) (N := some 63) (v := ?_) (a' := ?_) #[true, true, true, true, true, true, false, false, false, false, false, false, false, false, false, false, false] rfl rfl (by kernel_rfl) (fun _ _ _ h => h) (Or.inl ⟨by rfl, ?_⟩) ?_ ?_
      rotate_left
      · intro w'
        go_simp
        with_reducible rfl
      rotate_left
      · simp only [Act.put, List.setIfInBounds_toArray, List.set_cons_zero, List.set_cons_succ, i64_w, i32_w]
        rfl
      refine pure_ (i := 6) (N := some 64) (v := ?_) (a' := ?_) #[true, true, true, true, true, true, true, false, false, false, false, false, false, false, false, false, false] rfl rfl (by kernel_rfl) (fun _ _ _ h => h) (Or.inl ⟨by rfl, ?_⟩) ?_ ?_
      rotate_left
      · intro w'
        go_simp
        with_reducible rfl
      rotate_left
      · simp only [Act.put, List.setIfInBounds_toArray, List.set_cons_zero, List.set_cons_succ, i64_w, i32_w]
        rfl
      refine pure_ (i := 7) (N := some 65) (v := ?_) (a' := ?_) #[true, true, true, true, true, true, true, true, false, false, false, false, false, false, false, false, false] rfl rfl (by kernel_rfl) (fun _ _ _ h => h) (Or.inl ⟨by rfl, ?_⟩) ?_ ?_
      rotate_left
      · intro w'
        go_simp
        with_reducible rfl
      rotate_left
      · simp only [Act.put, List.setIfInBounds_toArray, List.set_cons_zero, List.set_cons_succ, i64_w, i32_w]
        rfl
      refine pure_ (i := 8) (N := some 66) (v := ?_) (a' := ?_) #[true, true, true, true, true, true, true, true, true, false, false, false, false, false, false, false, false] rfl rfl (by kernel_rfl) (fun _ _ _ h => h) (Or.inl ⟨by rfl, ?_⟩) ?_ ?_
      rotate_left
      · intro w'
        go_simp
        with_reducible rfl
      rotate_left
      · simp only [Act.put, List.setIfInBounds_toArray, List.set_cons_zero, List.set_cons_succ, i64_w, i32_w]
        rfl
      refine take_ (i := 9) (N := some 67) (v := ?_) (a' := ?_) #[true, true, true, true, true, true, true, true, true, true, false, false, false, false, false, false, false] rfl rfl (by kernel_rfl) (fun _ _ _ h => h) (Or.inl ⟨by rfl, ?_⟩) hHeld ?_ ?_
      rotate_left
      · rintro w' ⟨s0, s1⟩
        refine bl.load_run 2 gx (bcells a) ?_ ?_ w' s0 (seal_size a LA.out)
        · rfl
        · rfl
      rotate_left
      · simp only [Act.put, List.setIfInBounds_toArray, List.set_cons_zero, List.set_cons_succ, i64_w, i32_w]
        rfl
      refine take_ (i := 10) (N := some 68) (v := ?_) (a' := ?_) #[true, true, true, true, true, true, true, true, true, true, true, false, false, false, false, false, false] rfl rfl (by kernel_rfl) (fun _ _ _ h => h) (Or.inl ⟨by rfl, ?_⟩) hHeld ?_ ?_
      rotate_left
      · rintro w' ⟨s0, s1⟩
        refine bl.load_run 3 gy (bcells b) ?_ ?_ w' s1 (seal_size b LB.out)
        · rfl
        · rfl
      rotate_left
      · simp only [Act.put, List.setIfInBounds_toArray, List.set_cons_zero, List.set_cons_succ, i64_w, i32_w]
        rfl
      refine take_ (i := 12) (N := some 70) (v := ?_) (a' := ?_) #[true, true, true, true, true, true, true, true, true, true, true, false, true, false, false, false, false] rfl rfl (by kernel_rfl) (fun _ _ _ h => h) (Or.inl ⟨by rfl, ?_⟩) hHeld ?_ ?_
      rotate_left
      · rintro w' ⟨s0, s1⟩
        refine bl.load_run 2 gx (bcells a) ?_ ?_ w' s0 (seal_size a LA.out)
        · rfl
        · rfl
      rotate_left
      · simp only [Act.put, List.setIfInBounds_toArray, List.set_cons_zero, List.set_cons_succ, i64_w, i32_w]
        rfl
      refine take_ (i := 13) (N := some 71) (v := ?_) (a' := ?_) #[true, true, true, true, true, true, true, true, true, true, true, false, true, true, false, false, false] rfl rfl (by kernel_rfl) (fun _ _ _ h => h) (Or.inl ⟨by rfl, ?_⟩) hHeld ?_ ?_
      rotate_left
      · rintro w' ⟨s0, s1⟩
        refine bl.load_run 3 gy (bcells b) ?_ ?_ w' s1 (seal_size b LB.out)
        · rfl
        · rfl
      rotate_left
      · simp only [Act.put, List.setIfInBounds_toArray, List.set_cons_zero, List.set_cons_succ, i64_w, i32_w]
        rfl
      refine one_ (i := 11) (N := some 69) #[true, true, true, true, true, true, true, true, true, true, true, true, true, true, false, false, false] rfl rfl (by kernel_rfl) (by decide) (fun K hK => ?_)
      refine goes_ Try.func18 (by kernel_rfl) rfl #[.agg (bcells a), .agg (bcells b)] (by rfl) rfl rfl (by simp only [List.map_toArray, List.map_cons, List.map_nil]; rfl) ?_
      with_reducible refine (seal_Next.calls k a b LA.out LB.out z _ F5.out).mono ?_
      rintro e w3 ⟨rfl, hb⟩
      have n0_ := Aside0.mk (below_step (by repeat (first | (with_reducible first | exact HB.out | apply below_alloc | apply pw_below_drewN | apply below_drew1) | exact HB.out)) hb); (first | have n1_ := Aside0.mk (blk_below BKx.out hb) | have n1_ := Aside0.mk (blk_below (blk_drewN BKx.out _) hb) | have n1_ := Aside0.mk (blk_below (blk_drew BKx.out) hb) | have n1_ := Aside0.mk (blk_below (blk_alloc BKx.out _) hb) | have n1_ := Aside0.mk (blk_below (by (with_reducible repeat (first | refine blk_drewN ?_ _ | refine blk_drew ?_ | refine blk_alloc ?_ _)); exact BKx.out) hb)); (first | have n2_ := Aside0.mk (blk_below BKy.out hb) | have n2_ := Aside0.mk (blk_below (blk_drewN BKy.out _) hb) | have n2_ := Aside0.mk (blk_below (blk_drew BKy.out) hb) | have n2_ := Aside0.mk (blk_below (blk_alloc BKy.out _) hb) | have n2_ := Aside0.mk (blk_below (by (with_reducible repeat (first | refine blk_drewN ?_ _ | refine blk_drew ?_ | refine blk_alloc ?_ _)); exact BKy.out) hb)); clear HB BKx BKy; have HB := n0_; have BKx := n1_; have BKy := n2_; clear n0_ n1_ n2_ hb
      refine ⟨_, rfl, ?_⟩
      refine hK.out _ _ ⟨BKx.out, BKy.out⟩ (fun hHeld => ?_)
      clear hK K
      refine norm_ (a' := ?_) ?_ ?_
      rotate_left
      · show Act.put _ (some 69) _ = _
        simp only [Act.put, List.setIfInBounds_toArray, List.set_cons_zero, List.set_cons_succ, i64_w, i32_w]
        rfl
      refine one_ (i := 14) (N := some 72) #[true, true, true, true, true, true, true, true, true, true, true, true, true, true, true, false, false] rfl rfl (by kernel_rfl) (by decide) (fun K hK => ?_)
      refine goes_ Try.func19 (by kernel_rfl) rfl #[.agg (bcells a), .agg (bcells b)] (by rfl) rfl rfl (by simp only [List.map_toArray, List.map_cons, List.map_nil]; rfl) ?_
      with_reducible refine (refNext.calls k a b LA.out LB.out z _ F6.out).mono ?_
      rintro e w4 ⟨rfl, hb⟩
      have n0_ := Aside0.mk (below_step (by repeat (first | (with_reducible first | exact HB.out | apply below_alloc | apply pw_below_drewN | apply below_drew1) | exact HB.out)) hb); (first | have n1_ := Aside0.mk (blk_below BKx.out hb) | have n1_ := Aside0.mk (blk_below (blk_drewN BKx.out _) hb) | have n1_ := Aside0.mk (blk_below (blk_drew BKx.out) hb) | have n1_ := Aside0.mk (blk_below (blk_alloc BKx.out _) hb) | have n1_ := Aside0.mk (blk_below (by (with_reducible repeat (first | refine blk_drewN ?_ _ | refine blk_drew ?_ | refine blk_alloc ?_ _)); exact BKx.out) hb)); (first | have n2_ := Aside0.mk (blk_below BKy.out hb) | have n2_ := Aside0.mk (blk_below (blk_drewN BKy.out _) hb) | have n2_ := Aside0.mk (blk_below (blk_drew BKy.out) hb) | have n2_ := Aside0.mk (blk_below (blk_alloc BKy.out _) hb) | have n2_ := Aside0.mk (blk_below (by (with_reducible repeat (first | refine blk_drewN ?_ _ | refine blk_drew ?_ | refine blk_alloc ?_ _)); exact BKy.out) hb)); clear HB BKx BKy; have HB := n0_; have BKx := n1_; have BKy := n2_; clear n0_ n1_ n2_ hb
      refine ⟨_, rfl, ?_⟩
      refine hK.out _ _ ⟨BKx.out, BKy.out⟩ (fun hHeld => ?_)
      clear hK K
      refine norm_ (a' := ?_) ?_ ?_
      rotate_left
      · show Act.put _ (some 72) _ = _
        simp only [Act.put, List.setIfInBounds_toArray, List.set_cons_zero, List.set_cons_succ, i64_w, i32_w]
        rfl
      refine pure_ (i := 15) (N := some 73) (v := ?_) (a' := ?_) #[true, true, true, true, true, true, true, true, true, true, true, true, true, true, true, true, false] rfl rfl (by kernel_rfl) (fun _ _ _ h => h) (Or.inl ⟨by rfl, ?_⟩) ?_ ?_
      rotate_left
      · intro w'
        go_simp
        with_reducible rfl
      rotate_left
      · simp only [Act.put, List.setIfInBounds_toArray, List.set_cons_zero, List.set_cons_succ, i64_w, i32_w]
        rfl
      refine pure_ (i := 16) (N := some 74) (v := ?_) (a' := ?_) #[true, true, true, true, true, true, true, true, true, true, true, true, true, true, true, true, true] rfl rfl (by kernel_rfl) (fun _ _ _ h => h) (Or.inl ⟨by rfl, ?_⟩) ?_ ?_
      rotate_left
      · intro w'
        go_simp
        with_reducible rfl
      rotate_left
      · simp only [Act.put, List.setIfInBounds_toArray, List.set_cons_zero, List.set_cons_succ, i64_w, i32_w]
        rfl
      refine done_ (by kernel_rfl) ?_

      go_wp2_with (first
        | ((with_reducible refine gate_dst (N := 75) rfl ?_); refine wpList_load_row rfl 26 (.tmp 3) rfl gy rfl 26 (bcells b) (0, 0) _ (by (with_reducible repeat (first | refine blk_drewN ?_ _ | refine blk_drew ?_ | refine blk_alloc ?_ _)); exact BKy.out) Try.underlying26 rfl (seal_size _ LB.out) ?_)
        | ((with_reducible refine gate_dst (N := 76) rfl ?_); refine wpList_load_row rfl 26 (.tmp 2) rfl gx rfl 26 (bcells a) (0, 0) _ (by (with_reducible repeat (first | refine blk_drewN ?_ _ | refine blk_drew ?_ | refine blk_alloc ?_ _)); exact BKx.out) Try.underlying26 rfl (seal_size _ LA.out) ?_)
        | (refine wpList_store_row rfl 26 (.tmp 2) (.tmp 75) rfl gx (bcells b) rfl (by rfl) 26 (bcells a) (by (with_reducible repeat (first | refine blk_drewN ?_ _ | refine blk_drew ?_ | refine blk_alloc ?_ _)); exact BKx.out) (seal_size _ LB.out) (by rw [bcells_size, bcells_size, LA.out, LB.out]) (bcells_all _) ?_; have n0 := Aside0.mk (below_setRow (show Below w.heap.size w _ from by repeat (first | (with_reducible first | exact HB.out | apply below_alloc | apply pw_below_drewN | apply below_drew1) | exact HB.out)) (show w.heap.size ≤ gx from Gx.out) (bcells b)); have n1 := Aside0.mk (setRow_heap _ _ _ (bcells b) _ _ (by (with_reducible repeat (first | refine blk_drewN ?_ _ | refine blk_drew ?_ | refine blk_alloc ?_ _)); exact BKx.out)); have ky := Aside0.mk ((setRow_other _ gx gy (bcells b) NE.out.symm).trans (by (with_reducible repeat (first | refine blk_drewN ?_ _ | refine blk_drew ?_ | refine blk_alloc ?_ _)); exact BKy.out)); generalize World.setRow _ _ _ = w3 at n0 n1 ky; clear HB BKx BKy; have HB := n0; have BKx := n1; have BKy := ky; clear ky; clear n0 n1)
        | (refine wpList_store_row rfl 26 (.tmp 3) (.tmp 76) rfl gy (bcells a) rfl (by rfl) 26 (bcells b) (by (with_reducible repeat (first | refine blk_drewN ?_ _ | refine blk_drew ?_ | refine blk_alloc ?_ _)); exact BKy.out) (seal_size _ LA.out) (by rw [bcells_size, bcells_size, LA.out, LB.out]) (bcells_all _) ?_; have n0 := Aside0.mk (below_setRow (show Below w.heap.size w _ from by repeat (first | (with_reducible first | exact HB.out | apply below_alloc | apply pw_below_drewN | apply below_drew1) | exact HB.out)) (show w.heap.size ≤ gy from Gy.out) (bcells a)); have n1 := Aside0.mk (setRow_heap _ _ _ (bcells a) _ _ (by (with_reducible repeat (first | refine blk_drewN ?_ _ | refine blk_drew ?_ | refine blk_alloc ?_ _)); exact BKy.out)); have kx := Aside0.mk ((setRow_other _ gy gx (bcells a) NE.out).trans (by (with_reducible repeat (first | refine blk_drewN ?_ _ | refine blk_drew ?_ | refine blk_alloc ?_ _)); exact BKx.out)); generalize World.setRow _ _ _ = w3 at n0 n1 kx; clear HB BKy BKx; have HB := n0; have BKy := n1; have BKx := kx; clear kx; clear n0 n1))
      exact ⟨⟨i + 1, b, a, hlt, by first | rfl | (rw [Int.natCast_add]; rfl), PY, PX, BKx, BKy, HB⟩, by show 2 - (i + 1) < 2 - i; omega⟩
    · have hin : i = 2 := by omega
      subst hin
      go_wp2_with (first
        | (go_at_call 12; with_reducible refine (law_lives.calls _).mono ?_; rintro e' w' ⟨rfl, hb⟩; have n0_ := Aside0.mk (below_step (by repeat (first | (with_reducible first | exact HB.out | apply below_alloc | apply pw_below_drewN | apply below_drew1) | exact HB.out)) hb); clear HB; have HB := n0_; clear n0_ hb))
      go_ret
      exact ⟨rfl, by repeat (first | (with_reducible first | exact HB.out | apply below_alloc | apply pw_below_drewN | apply below_drew1) | exact HB.out)⟩
end Go.Proofs.Ythgbipgfplokeaa.GA
