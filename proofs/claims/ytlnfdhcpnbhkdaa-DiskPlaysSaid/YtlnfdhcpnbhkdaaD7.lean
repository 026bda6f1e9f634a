/- Blocks in memory: loads, stores and copies of 64 bytes. No condition. -/
import Derived.Test.YtlnfdhcpnbhkdaaD6
import Derived.Laws.CopyOwn
import Derived.ChangeKeysEq
import Derived.Deep.RegionHeld3
import Derived.Deep.MidRow
namespace Go.Proofs.Ytlnfdhcpnbhkdaa.GA
open Go.RowKit Go.Proofs.YtlnfdhcpnbhkdaaW.PrintWords Go.Proofs.YtlnfdhcpnbhkdaaW.PrintLast Go.Proofs.YtlnfdhcpnbhkdaaW.PrintMore
set_option linter.unusedVariables false
set_option linter.unusedSimpArgs false


def zerosN (n : Nat) : List Int := List.replicate (n * 64) 0
theorem zero_row (n : Nat) : (Array.range (n * 64)).map ((bcells zero64)[· % (bcells zero64).size]!) = bcells (zerosN n) := by
  apply Array.ext_getElem?
  intro k
  have h64 : (bcells zero64).size = 64 := by rw [bcells_size]; rfl
  rw [h64, Array.getElem?_map]
  unfold zerosN
  by_cases hk : k < n * 64
  · have hm : k % 64 < 64 := Nat.mod_lt _ (by decide)
    rw [Array.getElem?_range, if_pos hk, Option.map_some, bcells_get _ k (by rw [List.length_replicate]; exact hk)]
    have h1 := bcells_get zero64 (k % 64) (by show k % 64 < 64; exact hm)
    rw [getElem!_pos _ _ (by rw [h64]; exact hm)]
    rw [Array.getElem?_eq_getElem (by rw [h64]; exact hm)] at h1
    have h2 : ∀ (m j : Nat), rd (List.replicate m (0 : Int)) (j : Int) = 0 := fun m j => by
      unfold rd
      rw [Int.toNat_natCast, List.getD_eq_getElem?_getD, List.getElem?_replicate]
      split <;> rfl
    rw [Option.some.inj h1, h2]
    unfold zero64
    rw [h2]
  · rw [Array.getElem?_range, if_neg hk, Option.map_none, Array.getElem?_eq_none (by rw [bcells_size, List.length_replicate]; omega)]
theorem makeBlocks (W : World) (n : Nat) (hn : n ≤ 16384) : (Instr.makeSlice 57 (.int .i64 (n : Int)) (.int .i64 (n : Int))).run Try.prog W = .ok (.slice (some ⟨W.heap.size, 0, none⟩) n n) (W.alloc (.cells (bcells (zerosN n)) 29)) := by
  have hi : (Try.prog.info? 29).map (fun i => (i.zero, i.size, i.bytes)) = some (some (.agg (bcells zero64)), 64, 64) := by kernel_rfl
  cases hit : Try.prog.info? 29 with
  | none => rw [hit] at hi; cases hi
  | some i =>
    rw [hit] at hi
    simp only [Option.map_some, Option.some.injEq, Prod.mk.injEq] at hi
    obtain ⟨hz, hs, hb⟩ := hi
    have := run_makeSlice (P := Try.prog) (w := W) 57 29 i (.agg (bcells zero64)) Try.underlying57 hit hz .i64 .i64 (n : Int) (n : Int) (by omega) (Int.le_refl _) (by rw [hs]; omega) (by rw [hb]; omega) (by omega)
    simp only [Int.toNat_natCast] at this
    rw [hs, show (Value.agg (bcells zero64)).cells = bcells zero64 from rfl, madeCells, zero_row n] at this
    exact this


section
variable {ops : Array Oper} {Q : Exit → Act → World → Prop} {oi : Oper} {N : Option Tmp} {a : Act} {W : World} {K : Act → World → Prop}
theorem mkB_ev (n : Nat) (hn : n ≤ 16384) (hw : Region.wanted oi (yielded ops a.tmps) = true) (hN : oi.dst = N) (x y : Operand) (hop : oi.op = .makeSlice 57 x y) (hx : a.eval x = .int .i64 (n : Int)) (hy : a.eval y = .int .i64 (n : Int))
    (h : ∀ g, g = W.heap.size → ∀ w1, w1.heap[g]? = some (.cells (bcells (zerosN n)) 29 (0, 0)) → Below W.heap.size W w1 → K (a.put N (.slice (some ⟨g, 0, none⟩) n n)) w1) : if Region.wanted oi (yielded ops a.tmps) = true then Oper.wp Try.prog oi a W K Q else K (a.put N undef) W := by
  refine value_ hw hN (v := .slice (some ⟨W.heap.size, 0, none⟩) n n) (w1 := W.alloc (.cells (bcells (zerosN n)) 29)) ?_ (h _ rfl _ (blk_new W _) (below_alloc (Below.refl _ _) _))
  unfold execOp
  simp only [hop, hx, hy, Sem.run_bind, makeBlocks W n hn, Result.andThen_ok, Sem.run_pure]
theorem box60_run (W : World) (v0 v1 v2 v3 v4 v5 : Value) : (Instr.box 60 (.agg #[v0, v1, v2, v3, v4, v5])).run Try.prog W = .ok (.pointer (some ⟨W.heap.size, 0, none⟩)) (W.alloc (.cells #[v0, v1, v2, v3, v4, v5] 60)) := by rfl
theorem box60_ev {v0 v1 v2 v3 v4 v5 : Value} (hw : Region.wanted oi (yielded ops a.tmps) = true) (hN : oi.dst = N) (x : Operand) (hop : oi.op = .box 60 x) (hx : a.eval x = .agg #[v0, v1, v2, v3, v4, v5])
    (h : ∀ g, g = W.heap.size → ∀ w1, w1.heap[g]? = some (.cells #[v0, v1, v2, v3, v4, v5] 60 (0, 0)) → Below W.heap.size W w1 → K (a.put N (.pointer (some ⟨g, 0, none⟩))) w1) : if Region.wanted oi (yielded ops a.tmps) = true then Oper.wp Try.prog oi a W K Q else K (a.put N undef) W := by
  refine value_ hw hN (v := .pointer (some ⟨W.heap.size, 0, none⟩)) (w1 := W.alloc (.cells #[v0, v1, v2, v3, v4, v5] 60)) ?_ (h _ rfl _ (blk_new W _) (below_alloc (Below.refl _ _) _))
  unfold execOp
  simp only [hop, hx, Sem.run_bind, box60_run, Result.andThen_ok, Sem.run_pure]
end

set_option maxHeartbeats 8000000 in
set_option maxRecDepth 100000 in
theorem New.ok (w : World) (n : Nat) (h0 : 64 ≤ n) (h1 : n ≤ 16384) :
    Calls Try.prog 8 #[.int .i64 (n : Int)] w fun e' w' => ∃ gd, e' = .returned (.tuple #[.pointer (some ⟨gd, 0, none⟩), .int .i64 0]) ∧ (∃ ga gh, Rep w.heap.size w' gd ga gh n (.slice none 0 0) ⟨zerosN n, zerosN n, [], 0, 0, false⟩) ∧ Below w.heap.size w w' := by
  have HB := Aside0.mk (Below.refl w.heap.size w)
  have HN := Aside0.mk h1
  have H0 := Aside0.mk h0
  have d1 : decide ((n : Int) < 64) = false := decide_eq_false (by omega)
  have d2 : decide (16384 < (n : Int)) = false := decide_eq_false (by omega)
  clear h0 h1
  go_enter Try.func8, Try.ntmps8
  go_wp2
  refine start_ (n := 8) (S := fun w' => True) (ds := []) #[false, false, false, false, false, false, false, false] (by kernel_rfl) rfl rfl trivial (fun hHeld => ?_)
  refine pure_ (i := 0) (N := some 10) (v := ?_) (a' := ?_) #[true, false, false, false, false, false, false, false] rfl rfl (by kernel_rfl) (fun _ _ _ h => h) (Or.inl ⟨by rfl, ?_⟩) ?_ ?_
  rotate_left
  · intro w'
    go_simp
    with_reducible rfl
  rotate_left
  · simp only [Act.put, List.setIfInBounds_toArray, List.set_cons_zero, List.set_cons_succ, i64_w, i32_w]
    rfl
  refine pure_ (i := 2) (N := some 12) (v := ?_) (a' := ?_) #[true, false, true, false, false, false, false, false] rfl rfl (by kernel_rfl) (fun _ _ _ h => h) (Or.inl ⟨by rfl, ?_⟩) ?_ ?_
  rotate_left
  · intro w'
    go_simp
    with_reducible rfl
  rotate_left
  · simp only [Act.put, List.setIfInBounds_toArray, List.set_cons_zero, List.set_cons_succ, i64_w, i32_w]
    rfl
  refine join_ (σ := Nat × Nat) 4 #[true, true, true, true, false, false, false, false] (fun g => [(11, .slice (some ⟨g.1, 0, none⟩) n n), (13, .slice (some ⟨g.2, 0, none⟩) n n)]) (fun g w2 => Aside0 (w2.heap[g.1]? = some (.cells (bcells (zerosN n)) 29 (0, 0))) ∧ Aside0 (w2.heap[g.2]? = some (.cells (bcells (zerosN n)) 29 (0, 0))) ∧ Aside0 (g.1 ≠ g.2) ∧ Aside0 (w.heap.size ≤ g.1) ∧ Aside0 (w.heap.size ≤ g.2) ∧ Aside0 (Below w.heap.size w w2)) ?_ ?_
  rotate_left
  · intro hCont
    refine two_ (i := 1) (j := 3) (Ni := some 11) (Nj := some 13) #[true, true, true, false, false, false, false, false] #[true, false, true, true, false, false, false, false] rfl rfl rfl rfl (by kernel_rfl) (by decide) (by decide) (fun K hK => ?_) (fun K hK => ?_)
    · skip
      refine mkB_ev n HN.out (by rfl) rfl (.tmp 10) (.tmp 10) rfl rfl rfl ?_
      intro ga hg w5a hbox hb
      have Ga := Aside0.mk (show w.heap.size ≤ ga from by rw [hg]; exact below_size (by repeat (first | (with_reducible first | exact HB.out | apply below_alloc | apply pw_below_drewN | apply below_drew1) | exact HB.out)))
      have BKa := Aside0.mk hbox
      clear hbox hg
      have n0_ := Aside0.mk (below_step (by repeat (first | (with_reducible first | exact HB.out | apply below_alloc | apply pw_below_drewN | apply below_drew1) | exact HB.out)) hb); clear HB; have HB := n0_; clear n0_ hb
      refine hK.out _ _ trivial (fun hHeld => ?_)
      clear hK K
      refine norm_ (a' := ?_) ?_ ?_
      rotate_left
      · show Act.put _ (some 11) _ = _
        simp only [Act.put, List.setIfInBounds_toArray, List.set_cons_zero, List.set_cons_succ, i64_w, i32_w]
        rfl
      refine one_ (i := 3) (N := some 13) #[true, true, true, true, false, false, false, false] rfl rfl (by kernel_rfl) (by decide) (fun K hK => ?_)
      refine mkB_ev n HN.out (by rfl) rfl (.tmp 12) (.tmp 12) rfl rfl rfl ?_
      intro gh hg w5h hbox hb
      have Gh := Aside0.mk (show w.heap.size ≤ gh from by rw [hg]; exact below_size (by repeat (first | (with_reducible first | exact HB.out | apply below_alloc | apply pw_below_drewN | apply below_drew1) | exact HB.out)))
      have NE := Aside0.mk (show ga ≠ gh from by rw [hg]; exact Nat.ne_of_lt (blk_lt (by (with_reducible repeat (first | refine blk_drewN ?_ _ | refine blk_drew ?_ | refine blk_alloc ?_ _)); exact BKa.out)))
      have BKh := Aside0.mk hbox
      clear hbox hg
      have n0_ := Aside0.mk (below_step (by repeat (first | (with_reducible first | exact HB.out | apply below_alloc | apply pw_below_drewN | apply below_drew1) | exact HB.out)) hb); (first | have n1_ := Aside0.mk (blk_below BKa.out hb) | have n1_ := Aside0.mk (blk_below (blk_drewN BKa.out _) hb) | have n1_ := Aside0.mk (blk_below (blk_drew BKa.out) hb) | have n1_ := Aside0.mk (blk_below (blk_alloc BKa.out _) hb) | have n1_ := Aside0.mk (blk_below (by (with_reducible repeat (first | refine blk_drewN ?_ _ | refine blk_drew ?_ | refine blk_alloc ?_ _)); exact BKa.out) hb)); clear HB BKa; have HB := n0_; have BKa := n1_; clear n0_ n1_ hb
      refine hK.out _ _ trivial (fun hHeld => ?_)
      clear hK K
      refine norm_ (a' := ?_) ?_ ?_
      rotate_left
      · show Act.put _ (some 13) _ = _
        simp only [Act.put, List.setIfInBounds_toArray, List.set_cons_zero, List.set_cons_succ, i64_w, i32_w]
        rfl
      exact norm_ (by simp only [putAll, Act.put, List.setIfInBounds_toArray, List.set_cons_zero, List.set_cons_succ]) (hCont (ga, gh) _ ⟨BKa, BKh, NE, Ga, Gh, HB⟩)
    · skip
      refine mkB_ev n HN.out (by rfl) rfl (.tmp 12) (.tmp 12) rfl rfl rfl ?_
      intro gh hg w5h hbox hb
      have Gh := Aside0.mk (show w.heap.size ≤ gh from by rw [hg]; exact below_size (by repeat (first | (with_reducible first | exact HB.out | apply below_alloc | apply pw_below_drewN | apply below_drew1) | exact HB.out)))
      have BKh := Aside0.mk hbox
      clear hbox hg
      have n0_ := Aside0.mk (below_step (by repeat (first | (with_reducible first | exact HB.out | apply below_alloc | apply pw_below_drewN | apply below_drew1) | exact HB.out)) hb); clear HB; have HB := n0_; clear n0_ hb
      refine hK.out _ _ trivial (fun hHeld => ?_)
      clear hK K
      refine norm_ (a' := ?_) ?_ ?_
      rotate_left
      · show Act.put _ (some 13) _ = _
        simp only [Act.put, List.setIfInBounds_toArray, List.set_cons_zero, List.set_cons_succ, i64_w, i32_w]
        rfl
      refine one_ (i := 1) (N := some 11) #[true, true, true, true, false, false, false, false] rfl rfl (by kernel_rfl) (by decide) (fun K hK => ?_)
      refine mkB_ev n HN.out (by rfl) rfl (.tmp 10) (.tmp 10) rfl rfl rfl ?_
      intro ga hg w5a hbox hb
      have Ga := Aside0.mk (show w.heap.size ≤ ga from by rw [hg]; exact below_size (by repeat (first | (with_reducible first | exact HB.out | apply below_alloc | apply pw_below_drewN | apply below_drew1) | exact HB.out)))
      have NE := Aside0.mk (show gh ≠ ga from by rw [hg]; exact Nat.ne_of_lt (blk_lt (by (with_reducible repeat (first | refine blk_drewN ?_ _ | refine blk_drew ?_ | refine blk_alloc ?_ _)); exact BKh.out)))
      have BKa := Aside0.mk hbox
      clear hbox hg
      have n0_ := Aside0.mk (below_step (by repeat (first | (with_reducible first | exact HB.out | apply below_alloc | apply pw_below_drewN | apply below_drew1) | exact HB.out)) hb); (first | have n1_ := Aside0.mk (blk_below BKh.out hb) | have n1_ := Aside0.mk (blk_below (blk_drewN BKh.out _) hb) | have n1_ := Aside0.mk (blk_below (blk_drew BKh.out) hb) | have n1_ := Aside0.mk (blk_below (blk_alloc BKh.out _) hb) | have n1_ := Aside0.mk (blk_below (by (with_reducible repeat (first | refine blk_drewN ?_ _ | refine blk_drew ?_ | refine blk_alloc ?_ _)); exact BKh.out) hb)); clear HB BKh; have HB := n0_; have BKh := n1_; clear n0_ n1_ hb
      refine hK.out _ _ trivial (fun hHeld => ?_)
      clear hK K
      refine norm_ (a' := ?_) ?_ ?_
      rotate_left
      · show Act.put _ (some 11) _ = _
        simp only [Act.put, List.setIfInBounds_toArray, List.set_cons_zero, List.set_cons_succ, i64_w, i32_w]
        rfl
      exact norm_ (by simp only [putAll, Act.put, List.setIfInBounds_toArray, List.set_cons_zero, List.set_cons_succ]) (hCont (ga, gh) _ ⟨BKa, BKh, ⟨NE.out.symm⟩, Ga, Gh, HB⟩)
  clear HB
  rintro ⟨ga, gh⟩ w2 ⟨BKa, BKh, NE, Ga, Gh, HB⟩
  have hHeld : True := trivial
  refine norm_ (a' := ?_) ?_ ?_
  rotate_left
  · simp only [putAll, Act.put, List.setIfInBounds_toArray, List.set_cons_zero, List.set_cons_succ]
    rfl
  refine pure_ (i := 4) (N := some 14) (v := ?_) (a' := ?_) #[true, true, true, true, true, false, false, false] rfl rfl (by kernel_rfl) (fun _ _ _ h => h) (Or.inl ⟨by rfl, ?_⟩) ?_ ?_
  rotate_left
  · intro w'
    go_simp
    with_reducible rfl
  rotate_left
  · simp only [Act.put, List.setIfInBounds_toArray, List.set_cons_zero, List.set_cons_succ, i64_w, i32_w]
    rfl
  refine one_ (i := 5) (N := some 15) #[true, true, true, true, true, true, false, false] rfl rfl (by kernel_rfl) (by decide) (fun K hK => ?_)
  refine box60_ev (by rfl) rfl (.tmp 14) rfl (v0 := .slice (some ⟨ga, 0, none⟩) n n) (v1 := .slice (some ⟨gh, 0, none⟩) n n) (v2 := .slice none 0 0) (v3 := .int .i64 0) (v4 := .int .i64 0) (v5 := .bool false) rfl ?_
  intro gd hg w5d hbox hb
  have Gd := Aside0.mk (show w.heap.size ≤ gd from by rw [hg]; exact below_size (by repeat (first | (with_reducible first | exact HB.out | apply below_alloc | apply pw_below_drewN | apply below_drew1) | exact HB.out)))
  have BKd := Aside0.mk (show w5d.heap[gd]? = some (.cells (drow (.slice (some ⟨ga, 0, none⟩) n n) (some ⟨gh, 0, none⟩) n n (.slice none 0 0) 0 0 false) 60 (0, 0)) from hbox)
  clear hbox hg
  have n0_ := Aside0.mk (below_step (by repeat (first | (with_reducible first | exact HB.out | apply below_alloc | apply pw_below_drewN | apply below_drew1) | exact HB.out)) hb); (first | have n1_ := Aside0.mk (blk_below BKa.out hb) | have n1_ := Aside0.mk (blk_below (blk_drewN BKa.out _) hb) | have n1_ := Aside0.mk (blk_below (blk_drew BKa.out) hb) | have n1_ := Aside0.mk (blk_below (blk_alloc BKa.out _) hb) | have n1_ := Aside0.mk (blk_below (by (with_reducible repeat (first | refine blk_drewN ?_ _ | refine blk_drew ?_ | refine blk_alloc ?_ _)); exact BKa.out) hb)); (first | have n2_ := Aside0.mk (blk_below BKh.out hb) | have n2_ := Aside0.mk (blk_below (blk_drewN BKh.out _) hb) | have n2_ := Aside0.mk (blk_below (blk_drew BKh.out) hb) | have n2_ := Aside0.mk (blk_below (blk_alloc BKh.out _) hb) | have n2_ := Aside0.mk (blk_below (by (with_reducible repeat (first | refine blk_drewN ?_ _ | refine blk_drew ?_ | refine blk_alloc ?_ _)); exact BKh.out) hb)); clear HB BKa BKh; have HB := n0_; have BKa := n1_; have BKh := n2_; clear n0_ n1_ n2_ hb
  refine hK.out _ _ trivial (fun hHeld => ?_)
  clear hK K
  refine norm_ (a' := ?_) ?_ ?_
  rotate_left
  · show Act.put _ (some 15) _ = _
    simp only [Act.put, List.setIfInBounds_toArray, List.set_cons_zero, List.set_cons_succ, i64_w, i32_w]
    rfl
  refine pure_ (i := 6) (N := some 2) (v := ?_) (a' := ?_) #[true, true, true, true, true, true, true, false] rfl rfl (by kernel_rfl) (fun _ _ _ h => h) (Or.inl ⟨by rfl, ?_⟩) ?_ ?_
  rotate_left
  · intro w'
    go_simp
    with_reducible rfl
  rotate_left
  · simp only [Act.put, List.setIfInBounds_toArray, List.set_cons_zero, List.set_cons_succ, i64_w, i32_w]
    rfl
  refine pure_ (i := 7) (N := some 3) (v := ?_) (a' := ?_) #[true, true, true, true, true, true, true, true] rfl rfl (by kernel_rfl) (fun _ _ _ h => h) (Or.inl ⟨by rfl, ?_⟩) ?_ ?_
  rotate_left
  · intro w'
    go_simp
    with_reducible rfl
  rotate_left
  · simp only [Act.put, List.setIfInBounds_toArray, List.set_cons_zero, List.set_cons_succ, i64_w, i32_w]
    rfl
  refine done_ (by kernel_rfl) ?_

  go_wp2
  go_ret2
  have hl : (zerosN n).length = n * 64 := List.length_replicate
  exact ⟨gd, rfl, ⟨ga, gh, BKd.out, BKa.out, BKh.out, Kd.R_nil _ _ _ _ _, Gd.out, Ga.out, Gh.out, NE.out, hl, hl, by have := H0.out; omega, fun x hx => absurd hx (by simp), Int.le_refl 0, show (0 : Int) < 9223372036854775808 from by decide, Int.le_refl 0⟩, HB.out⟩
theorem New.ok64 (w : World) :
    Calls Try.prog 8 #[.int .i64 64] w fun e' w' => ∃ gd, e' = .returned (.tuple #[.pointer (some ⟨gd, 0, none⟩), .int .i64 0]) ∧ (∃ ga gh, Rep w.heap.size w' gd ga gh 64 (.slice none 0 0) ⟨zerosN 64, zerosN 64, [], 0, 0, false⟩) ∧ Below w.heap.size w w' := New.ok w 64 (by decide) (by decide)
end Go.Proofs.Ytlnfdhcpnbhkdaa.GA
