/- Events. No condition. -/
import Derived.Test.YtfhopjigdkjnoaaK28
import Derived.Laws.CopyOwn
import Derived.Laws.CopyRow
import Derived.ChangeKeysEq
import Derived.Deep.RegionHeld3
import Derived.Deep.MidRow
import Derived.Shelf.Abstract
import Derived.Maps.OwnSet
import Derived.Maps.AppendAt
import Derived.WalkSpells
namespace Go.Proofs.Ytfhopjigdkjnoaa.GA
open Go.RowKit Go.Shelf Go.Proofs.YtfhopjigdkjnoaaW.PrintWords Go.Proofs.YtfhopjigdkjnoaaW.PrintLast Go.Proofs.YtfhopjigdkjnoaaW.PrintMore
set_option linter.unusedVariables false
set_option linter.unusedSimpArgs false

section
variable {ops : Array Oper} {Q : Exit → Act → World → Prop} {oi : Oper} {N : Option Tmp} {a : Act} {W : World} {K : Act → World → Prop}
theorem alloc45_make (W : World) : (Instr.alloc 45 true (.tuple #[])).run Try.prog W = .ok (.pointer (some ⟨W.heap.size, 0, none⟩)) (W.alloc (.cells (row ⟨0, 0, 0, 0, 0, 0, 0⟩) 45)) := by
  simp only [Instr.alloc, Sem.run_bind, zval45, Result.andThen_ok]
  rfl
theorem alloc45_ev (hw : Region.wanted oi (yielded ops a.tmps) = true) (hN : oi.dst = N) (hop : oi.op = .alloc 45)
    (h : ∀ g, g = W.heap.size → ∀ w1, w1.heap[g]? = some (.cells (row ⟨0, 0, 0, 0, 0, 0, 0⟩) 45 (0, 0)) → Below W.heap.size W w1 → K (a.put N (.pointer (some ⟨g, 0, none⟩))) w1) : if Region.wanted oi (yielded ops a.tmps) = true then Oper.wp Try.prog oi a W K Q else K (a.put N undef) W := by
  refine value_ hw hN (v := .pointer (some ⟨W.heap.size, 0, none⟩)) (w1 := W.alloc (.cells (row ⟨0, 0, 0, 0, 0, 0, 0⟩) 45)) ?_ (h _ rfl _ (blk_new W _) (below_alloc (Below.refl _ _) _))
  unfold execOp
  simp only [hop, Sem.run_bind, alloc45_make, Result.andThen_ok, Sem.run_pure]
end

set_option maxHeartbeats 8000000 in
set_option maxRecDepth 100000 in
theorem Events.same (v1 v2 : Value) (B1 B2 : Nat) (e : SE) (w : World) (h1 : Evs w B1 v1 (some e)) (h2 : Evs w B2 v2 (some e)) : Calls Try.prog 11 #[v1, v2] w fun e' w' => e' = .returned (.bool true) ∧ Below w.heap.size w w' := by
  obtain ⟨g1, rfl, -, hb1⟩ := h1
  obtain ⟨g2, rfl, -, hb2⟩ := h2
  have BK1 := Aside0.mk hb1
  have BK2 := Aside0.mk hb2
  have HB := Aside0.mk (Below.refl w.heap.size w)
  clear hb1 hb2
  go_enter Try.func11, Try.ntmps11
  go_wp2
  go_loopw [5] (fun v5 w' => ∃ k : Nat, k ≤ 1 ∧ v5 = .int .i64 k ∧ Aside0 (w'.heap[g1]? = some (.cells (row e) 45 (0, 0))) ∧ Aside0 (w'.heap[g2]? = some (.cells (row e) 45 (0, 0))) ∧ Aside0 (Below w.heap.size w w')) (fun v5 _ => 1 - (intOf v5).toNat)
  case atStart => exact ⟨0, by omega, rfl, BK1, BK2, HB⟩
  case round =>
    clear HB BK1 BK2
    obtain ⟨k, hk, rfl, BK1, BK2, HB⟩ := hrel
    obtain rfl | rfl : k = 0 ∨ k = 1 := by omega
    · go_upto_region 6 with fail
      refine start_ (n := 12) (S := fun w' => w'.heap[g1]? = some (.cells (row e) 45 (0, 0)) ∧ w'.heap[g2]? = some (.cells (row e) 45 (0, 0))) (ds := []) #[false, false, false, false, false, false, false, false, false, false, false, false] (by kernel_rfl) rfl rfl ⟨BK1.out, BK2.out⟩ (fun hHeld => ?_)
      refine pure_ (i := 0) (N := some 19) (v := ?_) (a' := ?_) #[true, false, false, false, false, false, false, false, false, false, false, false] rfl rfl (by kernel_rfl) (fun _ _ _ h => h) (Or.inl ⟨by rfl, ?_⟩) ?_ ?_
      rotate_left
      · intro w'
        go_simp
        with_reducible rfl
      rotate_left
      · simp only [Act.put, List.setIfInBounds_toArray, List.set_cons_zero, List.set_cons_succ, i64_w, i32_w]
        rfl
      refine pure_ (i := 1) (N := some 20) (v := ?_) (a' := ?_) #[true, true, false, false, false, false, false, false, false, false, false, false] rfl rfl (by kernel_rfl) (fun _ _ _ h => h) (Or.inl ⟨by rfl, ?_⟩) ?_ ?_
      rotate_left
      · intro w'
        go_simp
        with_reducible rfl
      rotate_left
      · simp only [Act.put, List.setIfInBounds_toArray, List.set_cons_zero, List.set_cons_succ, i64_w, i32_w]
        rfl
      refine pure_ (i := 2) (N := some 21) (v := ?_) (a' := ?_) #[true, true, true, false, false, false, false, false, false, false, false, false] rfl rfl (by kernel_rfl) (fun _ _ _ h => h) (Or.inl ⟨by rfl, ?_⟩) ?_ ?_
      rotate_left
      · intro w'
        go_simp
        with_reducible rfl
      rotate_left
      · simp only [Act.put, List.setIfInBounds_toArray, List.set_cons_zero, List.set_cons_succ, i64_w, i32_w]
        rfl
      refine pure_ (i := 4) (N := some 23) (v := ?_) (a' := ?_) #[true, true, true, false, true, false, false, false, false, false, false, false] rfl rfl (by kernel_rfl) (fun _ _ _ h => h) (Or.inl ⟨by rfl, ?_⟩) ?_ ?_
      rotate_left
      · intro w'
        go_simp
        with_reducible rfl
      rotate_left
      · simp only [Act.put, List.setIfInBounds_toArray, List.set_cons_zero, List.set_cons_succ, i64_w, i32_w]
        rfl
      refine pure_ (i := 5) (N := some 24) (v := ?_) (a' := ?_) #[true, true, true, false, true, true, false, false, false, false, false, false] rfl rfl (by kernel_rfl) (fun _ _ _ h => h) (Or.inl ⟨by rfl, ?_⟩) ?_ ?_
      rotate_left
      · intro w'
        go_simp
        with_reducible rfl
      rotate_left
      · simp only [Act.put, List.setIfInBounds_toArray, List.set_cons_zero, List.set_cons_succ, i64_w, i32_w]
        rfl
      refine pure_ (i := 6) (N := some 25) (v := ?_) (a' := ?_) #[true, true, true, false, true, true, true, false, false, false, false, false] rfl rfl (by kernel_rfl) (fun _ _ _ h => h) (Or.inl ⟨by rfl, ?_⟩) ?_ ?_
      rotate_left
      · intro w'
        go_simp
        with_reducible rfl
      rotate_left
      · simp only [Act.put, List.setIfInBounds_toArray, List.set_cons_zero, List.set_cons_succ, i64_w, i32_w]
        rfl
      refine take_ (i := 3) (N := some 22) (v := ?_) (a' := ?_) #[true, true, true, true, true, true, true, false, false, false, false, false] rfl rfl (by kernel_rfl) (fun _ _ _ h => h) (Or.inl ⟨by rfl, ?_⟩) hHeld ?_ ?_
      rotate_left
      · rintro w' ⟨s0, s1⟩
        refine row45.load_run 21 g1 (row e) ?_ ?_ w' s0 (row_info e)
        · rfl
        · rfl
      rotate_left
      · simp only [Act.put, List.setIfInBounds_toArray, List.set_cons_zero, List.set_cons_succ, i64_w, i32_w]
        rfl
      refine take_ (i := 7) (N := some 26) (v := ?_) (a' := ?_) #[true, true, true, true, true, true, true, true, false, false, false, false] rfl rfl (by kernel_rfl) (fun _ _ _ h => h) (Or.inl ⟨by rfl, ?_⟩) hHeld ?_ ?_
      rotate_left
      · rintro w' ⟨s0, s1⟩
        refine row45.load_run 25 g2 (row e) ?_ ?_ w' s1 (row_info e)
        · rfl
        · rfl
      rotate_left
      · simp only [Act.put, List.setIfInBounds_toArray, List.set_cons_zero, List.set_cons_succ, i64_w, i32_w]
        rfl
      refine join_ (σ := Nat × Nat) 2 #[true, true, true, true, true, true, true, true, true, true, false, false] (fun g => [(6, .pointer (some ⟨g.1, 0, none⟩)), (7, .pointer (some ⟨g.2, 0, none⟩))]) (fun g w2 => Aside0 (w2.heap[g1]? = some (.cells (row e) 45 (0, 0))) ∧ Aside0 (w2.heap[g2]? = some (.cells (row e) 45 (0, 0))) ∧ Aside0 (w2.heap[g.1]? = some (.cells (row ⟨0, 0, 0, 0, 0, 0, 0⟩) 45 (0, 0))) ∧ Aside0 (w2.heap[g.2]? = some (.cells (row ⟨0, 0, 0, 0, 0, 0, 0⟩) 45 (0, 0))) ∧ Aside0 (g.1 ≠ g.2) ∧ Aside0 (g1 ≠ g.1) ∧ Aside0 (g2 ≠ g.1) ∧ Aside0 (g1 ≠ g.2) ∧ Aside0 (g2 ≠ g.2) ∧ Aside0 (w.heap.size ≤ g.1) ∧ Aside0 (w.heap.size ≤ g.2) ∧ Aside0 (Below w.heap.size w w2)) ?_ ?_
      rotate_left
      · intro hCont
        refine two_ (i := 8) (j := 9) (Ni := some 6) (Nj := some 7) #[true, true, true, true, true, true, true, true, true, false, false, false] #[true, true, true, true, true, true, true, true, false, true, false, false] rfl rfl rfl rfl (by kernel_rfl) (by decide) (by decide) (fun K hK => ?_) (fun K hK => ?_)
        · skip
          refine alloc45_ev (by rfl) rfl rfl ?_
          intro g6 hg w56 hbox hb
          have G6 := Aside0.mk (show w.heap.size ≤ g6 from by rw [hg]; exact below_size (by repeat (first | (with_reducible first | exact HB.out | apply below_alloc | apply pw_below_drewN | apply below_drew1) | exact HB.out)))
          have Ng16 := Aside0.mk (show g1 ≠ g6 from by rw [hg]; exact Nat.ne_of_lt (blk_lt (by first | exact BK1.out | ((with_reducible repeat (first | refine blk_drewN ?_ _ | refine blk_drew ?_ | refine blk_alloc ?_ _)); exact BK1.out))))
          have Ng26 := Aside0.mk (show g2 ≠ g6 from by rw [hg]; exact Nat.ne_of_lt (blk_lt (by first | exact BK2.out | ((with_reducible repeat (first | refine blk_drewN ?_ _ | refine blk_drew ?_ | refine blk_alloc ?_ _)); exact BK2.out))))
          have BK6 := Aside0.mk hbox
          clear hbox hg
          have n0_ := Aside0.mk (below_step (by repeat (first | (with_reducible first | exact HB.out | apply below_alloc | apply pw_below_drewN | apply below_drew1) | exact HB.out)) hb); (first | have n1_ := Aside0.mk (blk_below BK1.out hb) | have n1_ := Aside0.mk (blk_below (blk_drewN BK1.out _) hb) | have n1_ := Aside0.mk (blk_below (blk_drew BK1.out) hb) | have n1_ := Aside0.mk (blk_below (blk_alloc BK1.out _) hb) | have n1_ := Aside0.mk (blk_below (by first | exact BK1.out | ((with_reducible repeat (first | refine blk_drewN ?_ _ | refine blk_drew ?_ | refine blk_alloc ?_ _)); exact BK1.out)) hb)); (first | have n2_ := Aside0.mk (blk_below BK2.out hb) | have n2_ := Aside0.mk (blk_below (blk_drewN BK2.out _) hb) | have n2_ := Aside0.mk (blk_below (blk_drew BK2.out) hb) | have n2_ := Aside0.mk (blk_below (blk_alloc BK2.out _) hb) | have n2_ := Aside0.mk (blk_below (by first | exact BK2.out | ((with_reducible repeat (first | refine blk_drewN ?_ _ | refine blk_drew ?_ | refine blk_alloc ?_ _)); exact BK2.out)) hb)); clear HB BK1 BK2; have HB := n0_; have BK1 := n1_; have BK2 := n2_; clear n0_ n1_ n2_ hb
          refine hK.out _ _ ⟨BK1.out, BK2.out⟩ (fun hHeld => ?_)
          clear hK K
          refine norm_ (a' := ?_) ?_ ?_
          rotate_left
          · show Act.put _ (some 6) _ = _
            simp only [Act.put, List.setIfInBounds_toArray, List.set_cons_zero, List.set_cons_succ, i64_w, i32_w]
            rfl
          refine one_ (i := 9) (N := some 7) #[true, true, true, true, true, true, true, true, true, true, false, false] rfl rfl (by kernel_rfl) (by decide) (fun K hK => ?_)
          refine alloc45_ev (by rfl) rfl rfl ?_
          intro g7 hg w57 hbox hb
          have G7 := Aside0.mk (show w.heap.size ≤ g7 from by rw [hg]; exact below_size (by repeat (first | (with_reducible first | exact HB.out | apply below_alloc | apply pw_below_drewN | apply below_drew1) | exact HB.out)))
          have Ng17 := Aside0.mk (show g1 ≠ g7 from by rw [hg]; exact Nat.ne_of_lt (blk_lt (by first | exact BK1.out | ((with_reducible repeat (first | refine blk_drewN ?_ _ | refine blk_drew ?_ | refine blk_alloc ?_ _)); exact BK1.out))))
          have Ng27 := Aside0.mk (show g2 ≠ g7 from by rw [hg]; exact Nat.ne_of_lt (blk_lt (by first | exact BK2.out | ((with_reducible repeat (first | refine blk_drewN ?_ _ | refine blk_drew ?_ | refine blk_alloc ?_ _)); exact BK2.out))))
          have N67 := Aside0.mk (show g6 ≠ g7 from by rw [hg]; exact Nat.ne_of_lt (blk_lt (by first | exact BK6.out | ((with_reducible repeat (first | refine blk_drewN ?_ _ | refine blk_drew ?_ | refine blk_alloc ?_ _)); exact BK6.out))))
          have BK7 := Aside0.mk hbox
          clear hbox hg
          have n0_ := Aside0.mk (below_step (by repeat (first | (with_reducible first | exact HB.out | apply below_alloc | apply pw_below_drewN | apply below_drew1) | exact HB.out)) hb); (first | have n1_ := Aside0.mk (blk_below BK1.out hb) | have n1_ := Aside0.mk (blk_below (blk_drewN BK1.out _) hb) | have n1_ := Aside0.mk (blk_below (blk_drew BK1.out) hb) | have n1_ := Aside0.mk (blk_below (blk_alloc BK1.out _) hb) | have n1_ := Aside0.mk (blk_below (by first | exact BK1.out | ((with_reducible repeat (first | refine blk_drewN ?_ _ | refine blk_drew ?_ | refine blk_alloc ?_ _)); exact BK1.out)) hb)); (first | have n2_ := Aside0.mk (blk_below BK2.out hb) | have n2_ := Aside0.mk (blk_below (blk_drewN BK2.out _) hb) | have n2_ := Aside0.mk (blk_below (blk_drew BK2.out) hb) | have n2_ := Aside0.mk (blk_below (blk_alloc BK2.out _) hb) | have n2_ := Aside0.mk (blk_below (by first | exact BK2.out | ((with_reducible repeat (first | refine blk_drewN ?_ _ | refine blk_drew ?_ | refine blk_alloc ?_ _)); exact BK2.out)) hb)); (first | have n3_ := Aside0.mk (blk_below BK6.out hb) | have n3_ := Aside0.mk (blk_below (blk_drewN BK6.out _) hb) | have n3_ := Aside0.mk (blk_below (blk_drew BK6.out) hb) | have n3_ := Aside0.mk (blk_below (blk_alloc BK6.out _) hb) | have n3_ := Aside0.mk (blk_below (by first | exact BK6.out | ((with_reducible repeat (first | refine blk_drewN ?_ _ | refine blk_drew ?_ | refine blk_alloc ?_ _)); exact BK6.out)) hb)); clear HB BK1 BK2 BK6; have HB := n0_; have BK1 := n1_; have BK2 := n2_; have BK6 := n3_; clear n0_ n1_ n2_ n3_ hb
          refine hK.out _ _ ⟨BK1.out, BK2.out⟩ (fun hHeld => ?_)
          clear hK K
          refine norm_ (a' := ?_) ?_ ?_
          rotate_left
          · show Act.put _ (some 7) _ = _
            simp only [Act.put, List.setIfInBounds_toArray, List.set_cons_zero, List.set_cons_succ, i64_w, i32_w]
            rfl
          exact norm_ (by simp only [putAll, Act.put, List.setIfInBounds_toArray, List.set_cons_zero, List.set_cons_succ]) (hCont (g6, g7) _ ⟨BK1, BK2, BK6, BK7, N67, Ng16, Ng26, Ng17, Ng27, G6, G7, HB⟩)
        · skip
          refine alloc45_ev (by rfl) rfl rfl ?_
          intro g7 hg w57 hbox hb
          have G7 := Aside0.mk (show w.heap.size ≤ g7 from by rw [hg]; exact below_size (by repeat (first | (with_reducible first | exact HB.out | apply below_alloc | apply pw_below_drewN | apply below_drew1) | exact HB.out)))
          have Ng17 := Aside0.mk (show g1 ≠ g7 from by rw [hg]; exact Nat.ne_of_lt (blk_lt (by first | exact BK1.out | ((with_reducible repeat (first | refine blk_drewN ?_ _ | refine blk_drew ?_ | refine blk_alloc ?_ _)); exact BK1.out))))
          have Ng27 := Aside0.mk (show g2 ≠ g7 from by rw [hg]; exact Nat.ne_of_lt (blk_lt (by first | exact BK2.out | ((with_reducible repeat (first | refine blk_drewN ?_ _ | refine blk_drew ?_ | refine blk_alloc ?_ _)); exact BK2.out))))
          have BK7 := Aside0.mk hbox
          clear hbox hg
          have n0_ := Aside0.mk (below_step (by repeat (first | (with_reducible first | exact HB.out | apply below_alloc | apply pw_below_drewN | apply below_drew1) | exact HB.out)) hb); (first | have n1_ := Aside0.mk (blk_below BK1.out hb) | have n1_ := Aside0.mk (blk_below (blk_drewN BK1.out _) hb) | have n1_ := Aside0.mk (blk_below (blk_drew BK1.out) hb) | have n1_ := Aside0.mk (blk_below (blk_alloc BK1.out _) hb) | have n1_ := Aside0.mk (blk_below (by first | exact BK1.out | ((with_reducible repeat (first | refine blk_drewN ?_ _ | refine blk_drew ?_ | refine blk_alloc ?_ _)); exact BK1.out)) hb)); (first | have n2_ := Aside0.mk (blk_below BK2.out hb) | have n2_ := Aside0.mk (blk_below (blk_drewN BK2.out _) hb) | have n2_ := Aside0.mk (blk_below (blk_drew BK2.out) hb) | have n2_ := Aside0.mk (blk_below (blk_alloc BK2.out _) hb) | have n2_ := Aside0.mk (blk_below (by first | exact BK2.out | ((with_reducible repeat (first | refine blk_drewN ?_ _ | refine blk_drew ?_ | refine blk_alloc ?_ _)); exact BK2.out)) hb)); clear HB BK1 BK2; have HB := n0_; have BK1 := n1_; have BK2 := n2_; clear n0_ n1_ n2_ hb
          refine hK.out _ _ ⟨BK1.out, BK2.out⟩ (fun hHeld => ?_)
          clear hK K
          refine norm_ (a' := ?_) ?_ ?_
          rotate_left
          · show Act.put _ (some 7) _ = _
            simp only [Act.put, List.setIfInBounds_toArray, List.set_cons_zero, List.set_cons_succ, i64_w, i32_w]
            rfl
          refine one_ (i := 8) (N := some 6) #[true, true, true, true, true, true, true, true, true, true, false, false] rfl rfl (by kernel_rfl) (by decide) (fun K hK => ?_)
          refine alloc45_ev (by rfl) rfl rfl ?_
          intro g6 hg w56 hbox hb
          have G6 := Aside0.mk (show w.heap.size ≤ g6 from by rw [hg]; exact below_size (by repeat (first | (with_reducible first | exact HB.out | apply below_alloc | apply pw_below_drewN | apply below_drew1) | exact HB.out)))
          have Ng16 := Aside0.mk (show g1 ≠ g6 from by rw [hg]; exact Nat.ne_of_lt (blk_lt (by first | exact BK1.out | ((with_reducible repeat (first | refine blk_drewN ?_ _ | refine blk_drew ?_ | refine blk_alloc ?_ _)); exact BK1.out))))
          have Ng26 := Aside0.mk (show g2 ≠ g6 from by rw [hg]; exact Nat.ne_of_lt (blk_lt (by first | exact BK2.out | ((with_reducible repeat (first | refine blk_drewN ?_ _ | refine blk_drew ?_ | refine blk_alloc ?_ _)); exact BK2.out))))
          have N67 := Aside0.mk (show g6 ≠ g7 from by rw [hg]; exact (Nat.ne_of_lt (blk_lt (by first | exact BK7.out | ((with_reducible repeat (first | refine blk_drewN ?_ _ | refine blk_drew ?_ | refine blk_alloc ?_ _)); exact BK7.out)))).symm)
          have BK6 := Aside0.mk hbox
          clear hbox hg
          have n0_ := Aside0.mk (below_step (by repeat (first | (with_reducible first | exact HB.out | apply below_alloc | apply pw_below_drewN | apply below_drew1) | exact HB.out)) hb); (first | have n1_ := Aside0.mk (blk_below BK1.out hb) | have n1_ := Aside0.mk (blk_below (blk_drewN BK1.out _) hb) | have n1_ := Aside0.mk (blk_below (blk_drew BK1.out) hb) | have n1_ := Aside0.mk (blk_below (blk_alloc BK1.out _) hb) | have n1_ := Aside0.mk (blk_below (by first | exact BK1.out | ((with_reducible repeat (first | refine blk_drewN ?_ _ | refine blk_drew ?_ | refine blk_alloc ?_ _)); exact BK1.out)) hb)); (first | have n2_ := Aside0.mk (blk_below BK2.out hb) | have n2_ := Aside0.mk (blk_below (blk_drewN BK2.out _) hb) | have n2_ := Aside0.mk (blk_below (blk_drew BK2.out) hb) | have n2_ := Aside0.mk (blk_below (blk_alloc BK2.out _) hb) | have n2_ := Aside0.mk (blk_below (by first | exact BK2.out | ((with_reducible repeat (first | refine blk_drewN ?_ _ | refine blk_drew ?_ | refine blk_alloc ?_ _)); exact BK2.out)) hb)); (first | have n3_ := Aside0.mk (blk_below BK7.out hb) | have n3_ := Aside0.mk (blk_below (blk_drewN BK7.out _) hb) | have n3_ := Aside0.mk (blk_below (blk_drew BK7.out) hb) | have n3_ := Aside0.mk (blk_below (blk_alloc BK7.out _) hb) | have n3_ := Aside0.mk (blk_below (by first | exact BK7.out | ((with_reducible repeat (first | refine blk_drewN ?_ _ | refine blk_drew ?_ | refine blk_alloc ?_ _)); exact BK7.out)) hb)); clear HB BK1 BK2 BK7; have HB := n0_; have BK1 := n1_; have BK2 := n2_; have BK7 := n3_; clear n0_ n1_ n2_ n3_ hb
          refine hK.out _ _ ⟨BK1.out, BK2.out⟩ (fun hHeld => ?_)
          clear hK K
          refine norm_ (a' := ?_) ?_ ?_
          rotate_left
          · show Act.put _ (some 6) _ = _
            simp only [Act.put, List.setIfInBounds_toArray, List.set_cons_zero, List.set_cons_succ, i64_w, i32_w]
            rfl
          exact norm_ (by simp only [putAll, Act.put, List.setIfInBounds_toArray, List.set_cons_zero, List.set_cons_succ]) (hCont (g6, g7) _ ⟨BK1, BK2, BK6, BK7, N67, Ng16, Ng26, Ng17, Ng27, G6, G7, HB⟩)
      clear HB BK1 BK2
      rintro ⟨g6, g7⟩ w2 ⟨BK1, BK2, BK6, BK7, N67, Ng16, Ng26, Ng17, Ng27, G6, G7, HB⟩
      have hHeld : w2.heap[g1]? = some (.cells (row e) 45 (0, 0)) ∧ w2.heap[g2]? = some (.cells (row e) 45 (0, 0)) := ⟨BK1.out, BK2.out⟩
      refine norm_ (a' := ?_) ?_ ?_
      rotate_left
      · simp only [putAll, Act.put, List.setIfInBounds_toArray, List.set_cons_zero, List.set_cons_succ]
        rfl
      refine one_ (i := 10) (N := none) #[true, true, true, true, true, true, true, true, true, true, true, false] rfl rfl (by kernel_rfl) (by decide) (fun K hK => ?_)
      refine store_row_ev (by rfl) rfl 45 6 22 rfl g6 (row e) rfl (by rfl) 45 (row ⟨0, 0, 0, 0, 0, 0, 0⟩) BK6.out (row_info e) rfl (row_all e) ?_
      have n0 := Aside0.mk (below_setRow HB.out (show w.heap.size ≤ g6 from G6.out) (row e))
      have n1 := Aside0.mk (setRow_heap _ _ _ (row e) _ _ BK6.out)
      have m0 := Aside0.mk ((setRow_other _ g6 g1 (row e) (Aside0.out Ng16)).trans BK1.out)
      have m1 := Aside0.mk ((setRow_other _ g6 g2 (row e) (Aside0.out Ng26)).trans BK2.out)
      have m2 := Aside0.mk ((setRow_other _ g6 g7 (row e) (Aside0.out ⟨N67.out.symm⟩)).trans BK7.out)
      generalize World.setRow _ _ _ = w9 at n0 n1 m0 m1 m2 ⊢
      clear HB BK6 BK1 BK2 BK7
      have HB := n0
      have BK6 := n1
      have BK1 := m0
      have BK2 := m1
      have BK7 := m2
      clear n0 n1 m0 m1 m2
      refine hK.out _ _ ⟨BK1.out, BK2.out⟩ (fun hHeld => ?_)
      clear hK K
      refine one_ (i := 11) (N := none) #[true, true, true, true, true, true, true, true, true, true, true, true] rfl rfl (by kernel_rfl) (by decide) (fun K hK => ?_)
      refine store_row_ev (by rfl) rfl 45 7 26 rfl g7 (row e) rfl (by rfl) 45 (row ⟨0, 0, 0, 0, 0, 0, 0⟩) BK7.out (row_info e) rfl (row_all e) ?_
      have n0 := Aside0.mk (below_setRow HB.out (show w.heap.size ≤ g7 from G7.out) (row e))
      have n1 := Aside0.mk (setRow_heap _ _ _ (row e) _ _ BK7.out)
      have m0 := Aside0.mk ((setRow_other _ g7 g1 (row e) (Aside0.out Ng17)).trans BK1.out)
      have m1 := Aside0.mk ((setRow_other _ g7 g2 (row e) (Aside0.out Ng27)).trans BK2.out)
      have m2 := Aside0.mk ((setRow_other _ g7 g6 (row e) (Aside0.out N67)).trans BK6.out)
      generalize World.setRow _ _ _ = w9 at n0 n1 m0 m1 m2 ⊢
      clear HB BK7 BK1 BK2 BK6
      have HB := n0
      have BK7 := n1
      have BK1 := m0
      have BK2 := m1
      have BK6 := m2
      clear n0 n1 m0 m1 m2
      refine hK.out _ _ ⟨BK1.out, BK2.out⟩ (fun hHeld => ?_)
      clear hK K
      refine done_ (by kernel_rfl) ?_

      have x0 : w9.cell? ⟨g6, 0, none⟩ = some (.int .u8 e.k) := (blk_cell BK6.out 0).trans rfl
      have y0 : w9.cell? ⟨g7, 0, none⟩ = some (.int .u8 e.k) := (blk_cell BK7.out 0).trans rfl
      have x1 : w9.cell? ⟨g6, 1, none⟩ = some (.int .u64 e.t) := (blk_cell BK6.out 1).trans rfl
      have y1 : w9.cell? ⟨g7, 1, none⟩ = some (.int .u64 e.t) := (blk_cell BK7.out 1).trans rfl
      have x2 : w9.cell? ⟨g6, 2, none⟩ = some (.int .u64 e.i) := (blk_cell BK6.out 2).trans rfl
      have y2 : w9.cell? ⟨g7, 2, none⟩ = some (.int .u64 e.i) := (blk_cell BK7.out 2).trans rfl
      have x3 : w9.cell? ⟨g6, 3, none⟩ = some (.int .i64 e.p) := (blk_cell BK6.out 3).trans rfl
      have y3 : w9.cell? ⟨g7, 3, none⟩ = some (.int .i64 e.p) := (blk_cell BK7.out 3).trans rfl
      have x4 : w9.cell? ⟨g6, 4, none⟩ = some (.int .i64 e.a) := (blk_cell BK6.out 4).trans rfl
      have y4 : w9.cell? ⟨g7, 4, none⟩ = some (.int .i64 e.a) := (blk_cell BK7.out 4).trans rfl
      have x5 : w9.cell? ⟨g6, 5, none⟩ = some (.int .i64 e.b) := (blk_cell BK6.out 5).trans rfl
      have y5 : w9.cell? ⟨g7, 5, none⟩ = some (.int .i64 e.b) := (blk_cell BK7.out 5).trans rfl
      have x6 : w9.cell? ⟨g6, 6, none⟩ = some (.bool false) := (blk_cell BK6.out 6).trans rfl
      have y6 : w9.cell? ⟨g7, 6, none⟩ = some (.bool false) := (blk_cell BK7.out 6).trans rfl
      have x7 : w9.cell? ⟨g6, 7, none⟩ = some (.int .u64 e.at_) := (blk_cell BK6.out 7).trans rfl
      have y7 : w9.cell? ⟨g7, 7, none⟩ = some (.int .u64 e.at_) := (blk_cell BK7.out 7).trans rfl
      have x8 : w9.cell? ⟨g6, 8, none⟩ = some (.slice none 0 0) := (blk_cell BK6.out 8).trans rfl
      have y8 : w9.cell? ⟨g7, 8, none⟩ = some (.slice none 0 0) := (blk_cell BK7.out 8).trans rfl
      clear hHeld
      go_wp2
      go_roundw
      case rel => exact ⟨1, by omega, rfl, BK1, BK2, HB⟩
      case measure => simp [intOf]
    · go_wp2
      go_ret
      exact ⟨rfl, HB.out⟩

end Go.Proofs.Ytfhopjigdkjnoaa.GA
