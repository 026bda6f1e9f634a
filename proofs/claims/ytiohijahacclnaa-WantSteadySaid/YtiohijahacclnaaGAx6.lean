/- Contracts: each call of a Go function answers what the Lean function of its name says; a law of the set follows. No condition but each theorem's own. Written by a program of this session's out of the translation, with the functions proved by hand let in. -/
import Derived.Test.YtiohijahacclnaaGAx0
import Derived.Test.YtiohijahacclnaaGAx1
import Derived.Test.YtiohijahacclnaaGAx5
namespace Go.Proofs.Ytiohijahacclnaa.GA
open Go.RowKit Go.Proofs.YtiohijahacclnaaW.PrintWords Go.Proofs.YtiohijahacclnaaW.PrintLast Go.Proofs.YtiohijahacclnaaW.PrintMore
attribute [local go_sem] max2_int min2_int max_two min_two max_three min_three max_four min_four   -- for this text's walks alone
set_option linter.unusedVariables false
set_option linter.unusedSimpArgs false

/-! ### cohortlaw24_conf: function 8 -/
/-- the law's Config, and the empty one -/
def cohortlaw24_conf.V : Array Value := #[.slice none 0 0, .int .u8 0, .int .i64 0, .bool false, .int .i64 1, .int .i64 10, .int .i64 0, .int .i64 0, .int .i64 0, .int .i64 0, .int .u64 0, .int .u64 0, .int .u64 0, .int .u64 0, .int .u64 0, .int .u64 5, .bool false, .int .i64 50, .slice none 0 0, .slice none 0 0]
def cohortlaw24_conf.Z : Array Value := #[.slice none 0 0, .int .u8 0, .int .i64 0, .bool false, .int .i64 0, .int .i64 0, .int .i64 0, .int .i64 0, .int .i64 0, .int .i64 0, .int .u64 0, .int .u64 0, .int .u64 0, .int .u64 0, .int .u64 0, .int .u64 0, .bool false, .int .i64 0, .slice none 0 0, .slice none 0 0]
theorem cohortlaw24_conf.setRow {n : Nat} {w W : World} (h : Below n w W) (g : Nat) (hg : n ≤ g) (cs : Array Value) : Below n w (W.setRow g cs) :=
  ⟨h.os, h.tape, h.output, by rw [setRow_size]; exact h.size, fun k hk => (setRow_other W g k cs (by omega)).trans (h.block k hk)⟩
theorem cohortlaw24_conf.info : (Try.prog.info? 27).map (·.size) = some cohortlaw24_conf.V.size := by kernel_rfl
set_option maxHeartbeats 4000000 in
set_option maxRecDepth 100000 in
theorem cohortlaw24_conf.calls (w : World) : Calls Try.prog 8 #[] w fun e w' => e = .returned (.agg cohortlaw24_conf.V) ∧ Below w.heap.size w w' := by
  go_enter Try.func8, Try.ntmps8
  have HB := Aside0.mk (Below.refl w.heap.size w)
  go_wp2_with (first
    | ((with_reducible refine gate_dst (N := 0) rfl ?_); refine box_event ?hg (N := 0) ?hd (cs := cohortlaw24_conf.Z) (t := 27) ?hr ?_; (case hd => rfl); (case hg => rfl); (case hr => first | (go_simp; done) | (go_simp; rfl)); intro gb hg w1 hbox hb; have n0 := Aside0.mk (below_step HB.out hb); have BK := Aside0.mk hbox; have GG := Aside0.mk (show w.heap.size ≤ gb by omega); clear HB hb hbox hg; have HB := n0; clear n0)
    | ((with_reducible refine gate_dst (N := 1) rfl ?_); refine wpList_build rfl 27 _ rfl (by kernel_rfl) ?_)
    | (refine wpList_store_row rfl 27 (.tmp 0) (.tmp 1) rfl gb cohortlaw24_conf.V rfl (by kernel_rfl) 27 cohortlaw24_conf.Z BK.out cohortlaw24_conf.info (by kernel_rfl) (by kernel_rfl) ?_))
  refine bodyPost_ret (results_cell_row rfl _ _ gb 27 cohortlaw24_conf.V (0, 0) _ rfl (setRow_heap _ _ _ _ _ _ BK.out) Try.underlying27 rfl cohortlaw24_conf.info) rfl ?_
  exact ⟨rfl, cohortlaw24_conf.setRow HB.out gb GG.out _⟩


/-! ### want_Set: function 9 -/
def want_Set.f (l0_0 : List (S95)) (a0_1 : Int) (a0_2 : Int) (a0_3 : Bool) (a0_4 : Int) (a0_5 : Int) (a0_6 : Int) (a0_7 : Int) (a0_8 : Int) (a0_9 : Int) (a0_10 : Int) (a0_11 : Int) (a0_12 : Int) (a0_13 : Int) (a0_14 : Int) (a0_15 : Int) (a0_16 : Bool) (a0_17 : Int) (l0_18 : List (S49)) (l0_19 : List (S97)) (a1 : Int) : Option (Int × Int) := if a1 < 0 then (some (0, 2)) else (if a1 > 65536 then (some (0, 2)) else ((num_Clamp.f a1 a0_4 a0_5).bind fun t127 => (some (t127, 0))))
set_option maxHeartbeats 8000000 in
set_option maxRecDepth 100000 in
theorem want_Set.calls (A0_0 : Option Addr) (c0_0 : Nat) (l0_0 : List (S95)) (a0_1 : Int) (a0_2 : Int) (a0_3 : Bool) (a0_4 : Int) (a0_5 : Int) (a0_6 : Int) (a0_7 : Int) (a0_8 : Int) (a0_9 : Int) (a0_10 : Int) (a0_11 : Int) (a0_12 : Int) (a0_13 : Int) (a0_14 : Int) (a0_15 : Int) (a0_16 : Bool) (a0_17 : Int) (A0_18 : Option Addr) (c0_18 : Nat) (l0_18 : List (S49)) (A0_19 : Option Addr) (c0_19 : Nat) (l0_19 : List (S97)) (a1 : Int) (r1 : Int) (r2 : Int) (w : World) (hr0_0 : Kd.C k95 w A0_0 l0_0.length l0_0) (hc0_0 : l0_0.length ≤ c0_0) (hr0_18 : Kd.C k49 w A0_18 l0_18.length l0_18) (hc0_18 : l0_18.length ≤ c0_18) (hr0_19 : Kd.C k97 w A0_19 l0_19.length l0_19) (hc0_19 : l0_19.length ≤ c0_19) (h : want_Set.f l0_0 a0_1 a0_2 a0_3 a0_4 a0_5 a0_6 a0_7 a0_8 a0_9 a0_10 a0_11 a0_12 a0_13 a0_14 a0_15 a0_16 a0_17 l0_18 l0_19 a1 = some (r1, r2)) :
    Calls Try.prog 9 #[.agg #[.slice A0_0 l0_0.length c0_0, .int .u8 a0_1, .int .i64 a0_2, .bool a0_3, .int .i64 a0_4, .int .i64 a0_5, .int .i64 a0_6, .int .i64 a0_7, .int .i64 a0_8, .int .i64 a0_9, .int .u64 a0_10, .int .u64 a0_11, .int .u64 a0_12, .int .u64 a0_13, .int .u64 a0_14, .int .u64 a0_15, .bool a0_16, .int .i64 a0_17, .slice A0_18 l0_18.length c0_18, .slice A0_19 l0_19.length c0_19], .int .i64 a1] w fun e w' => e = .returned (.tuple #[.int .i64 r1, .int .i64 r2]) ∧ Below w.heap.size w w' := by
  have hu27 := Try.underlying27
  have HR0_0 := Aside0.mk hr0_0
  have HC0_0 := Aside0.mk hc0_0
  clear hr0_0 hc0_0
  have HR0_18 := Aside0.mk hr0_18
  have HC0_18 := Aside0.mk hc0_18
  clear hr0_18 hc0_18
  have HR0_19 := Aside0.mk hr0_19
  have HC0_19 := Aside0.mk hc0_19
  clear hr0_19 hc0_19
  have HB := Aside0.mk (Below.refl w.heap.size w)
  have H : (if a1 < 0 then (some (0, 2)) else (if a1 > 65536 then (some (0, 2)) else ((num_Clamp.f a1 a0_4 a0_5).bind fun t127 => (some (t127, 0))))) = some (r1, r2) := h
  clear h
  by_cases c3 : a1 < 0
  · rw [if_pos c3] at H
    have c3b0 : decide (a1 < 0) = true := decide_eq_true c3
    clear c3
    simp only [Option.some.injEq, Prod.mk.injEq] at H
    obtain ⟨rfl, rfl⟩ := H
    go_enter Try.func9, Try.ntmps9
    go_wp2_with (first | (refine wpList_load_row rfl 27 (.tmp 2) rfl gb126 rfl 27 _ (0, 0) _ BK126.out Try.underlying27 rfl (by kernel_rfl) ?_) | ((with_reducible refine gate_dst (N := 2) rfl ?_); refine box_event ?hg (N := 2) ?hd (cs := #[.slice A0_0 l0_0.length c0_0, .int .u8 a0_1, .int .i64 a0_2, .bool a0_3, .int .i64 a0_4, .int .i64 a0_5, .int .i64 a0_6, .int .i64 a0_7, .int .i64 a0_8, .int .i64 a0_9, .int .u64 a0_10, .int .u64 a0_11, .int .u64 a0_12, .int .u64 a0_13, .int .u64 a0_14, .int .u64 a0_15, .bool a0_16, .int .i64 a0_17, .slice A0_18 l0_18.length c0_18, .slice A0_19 l0_19.length c0_19]) (t := 27) ?hr ?_; (case hd => rfl); (case hg => rfl); (case hr => first | (go_simp; done) | (go_simp; rfl)); intro gb126 hg w4 hbox hb; have n0_ := Aside0.mk (below_step (by repeat (first | (with_reducible first | exact HB.out | apply below_alloc | apply pw_below_drewN | apply below_drew1) | exact HB.out)) hb); have n1_ := Aside0.mk (hbox); have n2_ := Aside0.mk ((by rw [hg]; exact (below_size (by repeat (first | (with_reducible first | exact HB.out | apply below_alloc | apply pw_below_drewN | apply below_drew1) | exact HB.out))) : w.heap.size ≤ gb126)); have n3_ := Aside0.mk ((by rw [hg]; exact (below_size (by repeat (first | (with_reducible first | exact HB.out | apply below_alloc | apply pw_below_drewN | apply below_drew1) | exact HB.out))) : w.heap.size ≤ gb126)); clear HB; have HB := n0_; have BK126 := n1_; have GW126 := n2_; have GE126 := n3_; clear n0_ n1_ n2_ n3_; clear hb hbox hg))
    go_ret2
    exact ⟨by first | rfl | (simp [errW_none, errW_some] <;> rfl) | (simp [*, errW_none, errW_some] <;> rfl), by repeat (first | (with_reducible first | exact HB.out | apply below_alloc | apply pw_below_drewN | apply below_drew1 | refine below_set ?_ GE126.out) | exact HB.out)⟩
  · rw [if_neg c3] at H
    have c3b0 : decide (a1 < 0) = false := decide_eq_false c3
    clear c3
    by_cases c5 : a1 > 65536
    · rw [if_pos c5] at H
      have c5b0 : decide (65536 < a1) = true := decide_eq_true c5
      clear c5
      simp only [Option.some.injEq, Prod.mk.injEq] at H
      obtain ⟨rfl, rfl⟩ := H
      go_enter Try.func9, Try.ntmps9
      go_wp2_with (first | (refine wpList_load_row rfl 27 (.tmp 2) rfl gb126 rfl 27 _ (0, 0) _ BK126.out Try.underlying27 rfl (by kernel_rfl) ?_) | ((with_reducible refine gate_dst (N := 2) rfl ?_); refine box_event ?hg (N := 2) ?hd (cs := #[.slice A0_0 l0_0.length c0_0, .int .u8 a0_1, .int .i64 a0_2, .bool a0_3, .int .i64 a0_4, .int .i64 a0_5, .int .i64 a0_6, .int .i64 a0_7, .int .i64 a0_8, .int .i64 a0_9, .int .u64 a0_10, .int .u64 a0_11, .int .u64 a0_12, .int .u64 a0_13, .int .u64 a0_14, .int .u64 a0_15, .bool a0_16, .int .i64 a0_17, .slice A0_18 l0_18.length c0_18, .slice A0_19 l0_19.length c0_19]) (t := 27) ?hr ?_; (case hd => rfl); (case hg => rfl); (case hr => first | (go_simp; done) | (go_simp; rfl)); intro gb126 hg w6 hbox hb; have n0_ := Aside0.mk (below_step (by repeat (first | (with_reducible first | exact HB.out | apply below_alloc | apply pw_below_drewN | apply below_drew1) | exact HB.out)) hb); have n1_ := Aside0.mk (hbox); have n2_ := Aside0.mk ((by rw [hg]; exact (below_size (by repeat (first | (with_reducible first | exact HB.out | apply below_alloc | apply pw_below_drewN | apply below_drew1) | exact HB.out))) : w.heap.size ≤ gb126)); have n3_ := Aside0.mk ((by rw [hg]; exact (below_size (by repeat (first | (with_reducible first | exact HB.out | apply below_alloc | apply pw_below_drewN | apply below_drew1) | exact HB.out))) : w.heap.size ≤ gb126)); clear HB; have HB := n0_; have BK126 := n1_; have GW126 := n2_; have GE126 := n3_; clear n0_ n1_ n2_ n3_; clear hb hbox hg))
      go_ret2
      exact ⟨by first | rfl | (simp [errW_none, errW_some] <;> rfl) | (simp [*, errW_none, errW_some] <;> rfl), by repeat (first | (with_reducible first | exact HB.out | apply below_alloc | apply pw_below_drewN | apply below_drew1 | refine below_set ?_ GE126.out) | exact HB.out)⟩
    · rw [if_neg c5] at H
      have c5b0 : decide (65536 < a1) = false := decide_eq_false c5
      clear c5
      replace H := Option.bind_eq_some_iff.mp H
      obtain ⟨t127, A70, H⟩ := H
      replace H : (some (t127, 0)) = some (r1, r2) := H
      have A7 := Aside0.mk A70
      clear A70
      simp only [Option.some.injEq, Prod.mk.injEq] at H
      obtain ⟨rfl, rfl⟩ := H
      go_enter Try.func9, Try.ntmps9
      go_wp2_with (first | (refine wpList_load_row rfl 27 (.tmp 2) rfl gb126 rfl 27 _ (0, 0) _ BK126.out Try.underlying27 rfl (by kernel_rfl) ?_) | ((with_reducible refine gate_dst (N := 2) rfl ?_); refine box_event ?hg (N := 2) ?hd (cs := #[.slice A0_0 l0_0.length c0_0, .int .u8 a0_1, .int .i64 a0_2, .bool a0_3, .int .i64 a0_4, .int .i64 a0_5, .int .i64 a0_6, .int .i64 a0_7, .int .i64 a0_8, .int .i64 a0_9, .int .u64 a0_10, .int .u64 a0_11, .int .u64 a0_12, .int .u64 a0_13, .int .u64 a0_14, .int .u64 a0_15, .bool a0_16, .int .i64 a0_17, .slice A0_18 l0_18.length c0_18, .slice A0_19 l0_19.length c0_19]) (t := 27) ?hr ?_; (case hd => rfl); (case hg => rfl); (case hr => first | (go_simp; done) | (go_simp; rfl)); intro gb126 hg w8 hbox hb; have n0_ := Aside0.mk (below_step (by repeat (first | (with_reducible first | exact HB.out | apply below_alloc | apply pw_below_drewN | apply below_drew1) | exact HB.out)) hb); have n1_ := Aside0.mk (hbox); have n2_ := Aside0.mk ((by rw [hg]; exact (below_size (by repeat (first | (with_reducible first | exact HB.out | apply below_alloc | apply pw_below_drewN | apply below_drew1) | exact HB.out))) : w.heap.size ≤ gb126)); have n3_ := Aside0.mk ((by rw [hg]; exact (below_size (by repeat (first | (with_reducible first | exact HB.out | apply below_alloc | apply pw_below_drewN | apply below_drew1) | exact HB.out))) : w.heap.size ≤ gb126)); clear HB; have HB := n0_; have BK126 := n1_; have GW126 := n2_; have GE126 := n3_; clear n0_ n1_ n2_ n3_; clear hb hbox hg; have hcz9_0 : w8.cell? ⟨gb126, 0, none⟩ = some (.slice A0_0 l0_0.length c0_0) := (blk_cell BK126.out 0).trans rfl; have hcz9_1 : w8.cell? ⟨gb126, 1, none⟩ = some (.int .u8 a0_1) := (blk_cell BK126.out 1).trans rfl; have hcz9_2 : w8.cell? ⟨gb126, 2, none⟩ = some (.int .i64 a0_2) := (blk_cell BK126.out 2).trans rfl; have hcz9_3 : w8.cell? ⟨gb126, 3, none⟩ = some (.bool a0_3) := (blk_cell BK126.out 3).trans rfl; have hcz9_4 : w8.cell? ⟨gb126, 4, none⟩ = some (.int .i64 a0_4) := (blk_cell BK126.out 4).trans rfl; have hcz9_5 : w8.cell? ⟨gb126, 5, none⟩ = some (.int .i64 a0_5) := (blk_cell BK126.out 5).trans rfl; have hcz9_6 : w8.cell? ⟨gb126, 6, none⟩ = some (.int .i64 a0_6) := (blk_cell BK126.out 6).trans rfl; have hcz9_7 : w8.cell? ⟨gb126, 7, none⟩ = some (.int .i64 a0_7) := (blk_cell BK126.out 7).trans rfl; have hcz9_8 : w8.cell? ⟨gb126, 8, none⟩ = some (.int .i64 a0_8) := (blk_cell BK126.out 8).trans rfl; have hcz9_9 : w8.cell? ⟨gb126, 9, none⟩ = some (.int .i64 a0_9) := (blk_cell BK126.out 9).trans rfl; have hcz9_10 : w8.cell? ⟨gb126, 10, none⟩ = some (.int .u64 a0_10) := (blk_cell BK126.out 10).trans rfl; have hcz9_11 : w8.cell? ⟨gb126, 11, none⟩ = some (.int .u64 a0_11) := (blk_cell BK126.out 11).trans rfl; have hcz9_12 : w8.cell? ⟨gb126, 12, none⟩ = some (.int .u64 a0_12) := (blk_cell BK126.out 12).trans rfl; have hcz9_13 : w8.cell? ⟨gb126, 13, none⟩ = some (.int .u64 a0_13) := (blk_cell BK126.out 13).trans rfl; have hcz9_14 : w8.cell? ⟨gb126, 14, none⟩ = some (.int .u64 a0_14) := (blk_cell BK126.out 14).trans rfl; have hcz9_15 : w8.cell? ⟨gb126, 15, none⟩ = some (.int .u64 a0_15) := (blk_cell BK126.out 15).trans rfl; have hcz9_16 : w8.cell? ⟨gb126, 16, none⟩ = some (.bool a0_16) := (blk_cell BK126.out 16).trans rfl; have hcz9_17 : w8.cell? ⟨gb126, 17, none⟩ = some (.int .i64 a0_17) := (blk_cell BK126.out 17).trans rfl; have hcz9_18 : w8.cell? ⟨gb126, 18, none⟩ = some (.slice A0_18 l0_18.length c0_18) := (blk_cell BK126.out 18).trans rfl; have hcz9_19 : w8.cell? ⟨gb126, 19, none⟩ = some (.slice A0_19 l0_19.length c0_19) := (blk_cell BK126.out 19).trans rfl; have hfz9_0 := blk_frozen BK126.out 0; have hfz9_1 := blk_frozen BK126.out 1; have hfz9_2 := blk_frozen BK126.out 2; have hfz9_3 := blk_frozen BK126.out 3; have hfz9_4 := blk_frozen BK126.out 4; have hfz9_5 := blk_frozen BK126.out 5; have hfz9_6 := blk_frozen BK126.out 6; have hfz9_7 := blk_frozen BK126.out 7; have hfz9_8 := blk_frozen BK126.out 8; have hfz9_9 := blk_frozen BK126.out 9; have hfz9_10 := blk_frozen BK126.out 10; have hfz9_11 := blk_frozen BK126.out 11; have hfz9_12 := blk_frozen BK126.out 12; have hfz9_13 := blk_frozen BK126.out 13; have hfz9_14 := blk_frozen BK126.out 14; have hfz9_15 := blk_frozen BK126.out 15; have hfz9_16 := blk_frozen BK126.out 16; have hfz9_17 := blk_frozen BK126.out 17; have hfz9_18 := blk_frozen BK126.out 18; have hfz9_19 := blk_frozen BK126.out 19) | ((with_reducible refine gate_callee (f := 13) rfl ?_); refine goesL_ (some 17) rfl rfl Try.func13 (by kernel_rfl) rfl #[.int .i64 a1, .int .i64 a0_4, .int .i64 a0_5] rfl (by (try simp only [List.map_toArray, List.map_cons, List.map_nil]); first | done | rfl | (simp only [List.length_drop, List.length_take]; rfl)) ?_; (with_reducible refine (num_Clamp.calls a1 a0_4 a0_5 t127 _ A7.out).mono ?_); rintro e w10 ⟨rfl, hb⟩; refine ⟨_, rfl, ?_⟩; have n0_ := Aside0.mk (blk_below (g := gb126) (o := .cells #[.slice A0_0 l0_0.length c0_0, .int .u8 a0_1, .int .i64 a0_2, .bool a0_3, .int .i64 a0_4, .int .i64 a0_5, .int .i64 a0_6, .int .i64 a0_7, .int .i64 a0_8, .int .i64 a0_9, .int .u64 a0_10, .int .u64 a0_11, .int .u64 a0_12, .int .u64 a0_13, .int .u64 a0_14, .int .u64 a0_15, .bool a0_16, .int .i64 a0_17, .slice A0_18 l0_18.length c0_18, .slice A0_19 l0_19.length c0_19] 27 (0, 0)) (by (with_reducible repeat (first | refine blk_drewN ?_ _ | refine blk_drew ?_ | refine blk_alloc ?_ _)); exact BK126.out) hb); have n1_ := Aside0.mk (below_step (by repeat (first | (with_reducible first | exact HB.out | apply below_alloc | apply pw_below_drewN | apply below_drew1 | refine below_set ?_ GE126.out) | exact HB.out)) hb); clear BK126; clear HB; have BK126 := n0_; have HB := n1_; clear n0_ n1_; (try clear hb); (try clear hb2); (try clear hk); (try clear hi)))
      go_ret2
      exact ⟨by first | rfl | (simp [errW_none, errW_some] <;> rfl) | (simp [*, errW_none, errW_some] <;> rfl), by repeat (first | (with_reducible first | exact HB.out | apply below_alloc | apply pw_below_drewN | apply below_drew1 | refine below_set ?_ GE126.out) | exact HB.out)⟩

/-! ### cohortlaw24_lives: function 6 -/
/-- what the metric, and the operator, ask of the law's Config -/
def cohortlaw24_lives.m (k : Nat) (d u n m : Int) : Option (Int × Int × Int) := want_Metric.f k [] 0 0 false 1 10 0 0 0 0 0 0 0 0 0 5 false 50 [] [] d u n m
def cohortlaw24_lives.s (n : Int) : Option (Int × Int) := want_Set.f [] 0 0 false 1 10 0 0 0 0 0 0 0 0 0 5 false 50 [] [] n
def cohortlaw24_lives.f (k : Nat) : Option Bool := (cohortlaw24_lives.m k 4 0 3 100).bind fun a => (cohortlaw24_lives.m k 8 8 7 100).bind fun b => (cohortlaw24_lives.m k 8 8 8 100).bind fun c =>
  if (a = (8, 8, 0) ∧ b = (8, 8, 0) ∧ c = (10, 13, 0)) ∧ cohortlaw24_lives.s 99 = some (10, 0) ∧ cohortlaw24_lives.s (-1) = some (0, 2) then some true else none
theorem cohortlaw24_lives.mono : ∀ k, LeO (cohortlaw24_lives.f k) (cohortlaw24_lives.f (k + 1)) := by
  intro k
  unfold cohortlaw24_lives.f cohortlaw24_lives.m
  exact LeO.bind (want_Metric.mono _ _ _ _ _ _ _ _ _ _ _ _ _ _ _ _ _ _ _ _ _ _ _ _ _) (fun _ => LeO.bind (want_Metric.mono _ _ _ _ _ _ _ _ _ _ _ _ _ _ _ _ _ _ _ _ _ _ _ _ _) (fun _ => LeO.bind (want_Metric.mono _ _ _ _ _ _ _ _ _ _ _ _ _ _ _ _ _ _ _ _ _ _ _ _ _) (fun _ => LeO.refl _)))
theorem cohortlaw24_lives.mc (k : Nat) (d u n m a b c : Int) (W : World) (h : cohortlaw24_lives.m k d u n m = some (a, b, c)) : Calls Try.prog 7 #[.agg cohortlaw24_conf.V, .int .i64 d, .int .u64 u, .int .u64 n, .int .i64 m] W fun e w' => e = .returned (.tuple #[.int .i64 a, .int .u64 b, .int .i64 c]) ∧ Below W.heap.size W w' :=
  want_Metric.calls k none 0 [] 0 0 false 1 10 0 0 0 0 0 0 0 0 0 5 false 50 none 0 [] none 0 [] d u n m a b c W (Kd.C_nil _ _) (Nat.le_refl _) (Kd.C_nil _ _) (Nat.le_refl _) (Kd.C_nil _ _) (Nat.le_refl _) h
theorem cohortlaw24_lives.sc (n a b : Int) (W : World) (h : cohortlaw24_lives.s n = some (a, b)) : Calls Try.prog 9 #[.agg cohortlaw24_conf.V, .int .i64 n] W fun e w' => e = .returned (.tuple #[.int .i64 a, .int .i64 b]) ∧ Below W.heap.size W w' :=
  want_Set.calls none 0 [] 0 0 false 1 10 0 0 0 0 0 0 0 0 0 5 false 50 none 0 [] none 0 [] n a b W (Kd.C_nil _ _) (Nat.le_refl _) (Kd.C_nil _ _) (Nat.le_refl _) (Kd.C_nil _ _) (Nat.le_refl _) h
set_option maxHeartbeats 8000000 in
set_option maxRecDepth 100000 in
theorem cohortlaw24_lives.calls (k : Nat) (r : Bool) (w : World) (h : cohortlaw24_lives.f k = some r) :
    Calls Try.prog 6 #[] w fun e w' => e = .returned (.bool r) ∧ Below w.heap.size w w' := by
  unfold cohortlaw24_lives.f at h
  obtain ⟨a, ha, h⟩ := Option.bind_eq_some_iff.mp h
  obtain ⟨b, hb, h⟩ := Option.bind_eq_some_iff.mp h
  obtain ⟨c, hc, h⟩ := Option.bind_eq_some_iff.mp h
  by_cases hh : (a = (8, 8, 0) ∧ b = (8, 8, 0) ∧ c = (10, 13, 0)) ∧ cohortlaw24_lives.s 99 = some (10, 0) ∧ cohortlaw24_lives.s (-1) = some (0, 2)
  · rw [if_pos hh] at h
    cases h
    obtain ⟨⟨rfl, rfl, rfl⟩, hs, ht⟩ := hh
    have HA := Aside0.mk ha
    have HB := Aside0.mk hb
    have HC := Aside0.mk hc
    have HS := Aside0.mk hs
    have HT := Aside0.mk ht
    clear ha hb hc hs ht
    have BB := Aside0.mk (Below.refl w.heap.size w)
    go_enter Try.func6, Try.ntmps6
    go_wp2_with (first
      | (go_at_call 8; with_reducible refine (cohortlaw24_conf.calls _).mono ?_; rintro e w' ⟨rfl, hb⟩; have n0 := Aside0.mk (below_step (by repeat (first | (with_reducible first | exact BB.out | apply below_alloc | apply pw_below_drewN | apply below_drew1) | exact BB.out)) hb); clear BB hb; have BB := n0; clear n0)
      | (go_at_call 7; with_reducible refine (cohortlaw24_lives.mc k 4 0 3 100 8 8 0 _ HA.out).mono ?_; rintro e w' ⟨rfl, hb⟩; have n0 := Aside0.mk (below_step (by repeat (first | (with_reducible first | exact BB.out | apply below_alloc | apply pw_below_drewN | apply below_drew1) | exact BB.out)) hb); clear BB hb; have BB := n0; clear n0)
      | (go_at_call 7; with_reducible refine (cohortlaw24_lives.mc k 8 8 7 100 8 8 0 _ HB.out).mono ?_; rintro e w' ⟨rfl, hb⟩; have n0 := Aside0.mk (below_step (by repeat (first | (with_reducible first | exact BB.out | apply below_alloc | apply pw_below_drewN | apply below_drew1) | exact BB.out)) hb); clear BB hb; have BB := n0; clear n0)
      | (go_at_call 7; with_reducible refine (cohortlaw24_lives.mc k 8 8 8 100 10 13 0 _ HC.out).mono ?_; rintro e w' ⟨rfl, hb⟩; have n0 := Aside0.mk (below_step (by repeat (first | (with_reducible first | exact BB.out | apply below_alloc | apply pw_below_drewN | apply below_drew1) | exact BB.out)) hb); clear BB hb; have BB := n0; clear n0)
      | (go_at_call 9; with_reducible refine (cohortlaw24_lives.sc 99 10 0 _ HS.out).mono ?_; rintro e w' ⟨rfl, hb⟩; have n0 := Aside0.mk (below_step (by repeat (first | (with_reducible first | exact BB.out | apply below_alloc | apply pw_below_drewN | apply below_drew1) | exact BB.out)) hb); clear BB hb; have BB := n0; clear n0)
      | (go_at_call 9; with_reducible refine (cohortlaw24_lives.sc (-1) 0 2 _ HT.out).mono ?_; rintro e w' ⟨rfl, hb⟩; have n0 := Aside0.mk (below_step (by repeat (first | (with_reducible first | exact BB.out | apply below_alloc | apply pw_below_drewN | apply below_drew1) | exact BB.out)) hb); clear BB hb; have BB := n0; clear n0))
    go_ret
    exact ⟨rfl, BB.out⟩
  · rw [if_neg hh] at h; cases h

/-! ### cohortlaw24_WantSteady: function 4 -/
/-- the Config that the law makes -/
def cohortlaw24_WantSteady.row (lo hi t : Int) : Array Value := #[.slice none 0 0, .int .u8 0, .int .i64 0, .bool false, .int .i64 lo, .int .i64 hi, .int .i64 0, .int .i64 0, .int .i64 0, .int .i64 0, .int .u64 0, .int .u64 0, .int .u64 0, .int .u64 0, .int .u64 0, .int .u64 7, .bool false, .int .i64 t, .slice none 0 0, .slice none 0 0]
/-- what the metric asks of it -/
def cohortlaw24_WantSteady.m (k : Nat) (lo hi t d u n : Int) : Option (Int × Int × Int) := want_Metric.f k [] 0 0 false lo hi 0 0 0 0 0 0 0 0 0 7 false t [] [] d u n t
def cohortlaw24_WantSteady.f (k : Nat) (a0 a1 a2 a3 a4 a5 : Int) : Option Bool :=
  if (0 ≤ a0 ∧ a0 ≤ 65535 ∧ 0 ≤ a1 ∧ a1 ≤ 65535 ∧ 0 ≤ a2 ∧ a2 ≤ 65535) ∧ 0 ≤ a3 ∧ a3 ≤ 65535 ∧ 0 ≤ a4 ∧ a4 ≤ 4294967295 ∧ 0 ≤ a5 ∧ a5 ≤ 4294967295 then
    (cohortlaw24_lives.f k).bind fun t => if t = true then
      if a0 + a1 % 1000 > 65536 then some true else (cohortlaw24_WantSteady.m k a0 (a0 + a1 % 1000) (1 + a2) (a0 + a3 % (a1 % 1000 + 1)) a4 a5).bind fun r => if r = (a0 + a3 % (a1 % 1000 + 1), a4, 0) then some true else none
    else none
  else none
theorem cohortlaw24_WantSteady.mono : ∀ a0 a1 a2 a3 a4 a5 k, LeO (cohortlaw24_WantSteady.f k a0 a1 a2 a3 a4 a5) (cohortlaw24_WantSteady.f (k + 1) a0 a1 a2 a3 a4 a5) := by
  intro a0 a1 a2 a3 a4 a5 k
  unfold cohortlaw24_WantSteady.f cohortlaw24_WantSteady.m
  exact LeO.ite (LeO.bind (cohortlaw24_lives.mono _) fun _ => LeO.ite (LeO.ite (LeO.refl _) (LeO.bind (want_Metric.mono _ _ _ _ _ _ _ _ _ _ _ _ _ _ _ _ _ _ _ _ _ _ _ _ _) fun _ => LeO.refl _)) (LeO.refl _)) (LeO.refl _)
theorem cohortlaw24_WantSteady.mc (k : Nat) (lo hi t d u n a b c : Int) (W : World) (h : cohortlaw24_WantSteady.m k lo hi t d u n = some (a, b, c)) : Calls Try.prog 7 #[.agg (cohortlaw24_WantSteady.row lo hi t), .int .i64 d, .int .u64 u, .int .u64 n, .int .i64 t] W fun e w' => e = .returned (.tuple #[.int .i64 a, .int .u64 b, .int .i64 c]) ∧ Below W.heap.size W w' :=
  want_Metric.calls k none 0 [] 0 0 false lo hi 0 0 0 0 0 0 0 0 0 7 false t none 0 [] none 0 [] d u n t a b c W (Kd.C_nil _ _) (Nat.le_refl _) (Kd.C_nil _ _) (Nat.le_refl _) (Kd.C_nil _ _) (Nat.le_refl _) h
theorem cohortlaw24_WantSteady.info (lo hi t : Int) : (Try.prog.info? 27).map (·.size) = some (cohortlaw24_WantSteady.row lo hi t).size := by
  have h := cohortlaw24_conf.info
  rw [h]; rfl

set_option maxHeartbeats 8000000 in
set_option maxRecDepth 100000 in
theorem cohortlaw24_WantSteady.calls (k : Nat) (a0 a1 a2 a3 a4 a5 : Int) (r : Bool) (w : World) (h : cohortlaw24_WantSteady.f k a0 a1 a2 a3 a4 a5 = some r) :
    Calls Try.prog 4 #[.int .u16 a0, .int .u16 a1, .int .u16 a2, .int .u16 a3, .int .u32 a4, .int .u32 a5] w fun e w' => e = .returned (.bool r) ∧ Below w.heap.size w w' := by
  unfold cohortlaw24_WantSteady.f at h
  by_cases hb : (0 ≤ a0 ∧ a0 ≤ 65535 ∧ 0 ≤ a1 ∧ a1 ≤ 65535 ∧ 0 ≤ a2 ∧ a2 ≤ 65535) ∧ 0 ≤ a3 ∧ a3 ≤ 65535 ∧ 0 ≤ a4 ∧ a4 ≤ 4294967295 ∧ 0 ≤ a5 ∧ a5 ≤ 4294967295
  case neg => rw [if_neg hb] at h; cases h
  rw [if_pos hb] at h
  obtain ⟨t, hl, h⟩ := Option.bind_eq_some_iff.mp h
  cases t with
  | false => rw [if_neg (by simp)] at h; cases h
  | true =>
    rw [if_pos rfl] at h
    have LV := Aside0.mk hl
    clear hl
    obtain ⟨m, hm⟩ : ∃ m, m = a1 % 1000 := ⟨_, rfl⟩
    have hm0 : 0 ≤ m ∧ m < 1000 := by omega
    rw [← hm] at h
    obtain ⟨q, hq⟩ : ∃ q, q = a3 % (m + 1) := ⟨_, rfl⟩
    have hq0 : 0 ≤ q ∧ q ≤ m := by
      have h1 := Int.emod_nonneg a3 (show m + 1 ≠ 0 by omega)
      have h2 := Int.emod_lt_of_pos a3 (show 0 < m + 1 by omega)
      omega
    rw [← hq] at h
    have e1 : wrap64 a0 = a0 := by unfold wrap64; omega
    have e2 : wrap64 a1 = a1 := by unfold wrap64; omega
    have e3 : Int.tmod a1 1000 = m := by rw [Int.tmod_eq_emod_of_nonneg (by omega), hm]
    have e4 : wrap64 m = m := by unfold wrap64; omega
    have e5 : wrap64 (a0 + m) = a0 + m := by unfold wrap64; omega
    have e6 : wrap64 a2 = a2 := by unfold wrap64; omega
    have e7 : wrap64 (1 + a2) = 1 + a2 := by unfold wrap64; omega
    have e8 : wrap64 a3 = a3 := by unfold wrap64; omega
    have e9 : wrap64 (a0 + m - a0) = m := by unfold wrap64; omega
    have e10 : wrap64 (m + 1) = m + 1 := by unfold wrap64; omega
    have e11 : Int.tmod a3 (m + 1) = q := by rw [Int.tmod_eq_emod_of_nonneg (by omega), hq]
    have e12 : wrap64 q = q := by unfold wrap64; omega
    have e13 : wrap64 (a0 + q) = a0 + q := by unfold wrap64; omega
    have e14 : a4 % 18446744073709551616 = a4 := by omega
    have e15 : a5 % 18446744073709551616 = a5 := by omega
    have e16 : ¬ (m + 1 = 0) := by omega
    have e17 : ¬ (m = -1) := by omega
    have e21 : IntKind.i64.wrap (a0 + m - a0) = m := by rw [i64_w]; exact e9
    have e22 : IntKind.i64.wrap (m + 1) = m + 1 := by rw [i64_w]; exact e10
    have e23 : IntKind.i64.wrap (a0 + q) = a0 + q := by rw [i64_w]; exact e13
    have e24 : IntKind.i64.wrap a3 = a3 := by rw [i64_w]; exact e8
    have e18 : (m + 1 == 0) = false := by simp; omega
    have e19 : m + 1 ≠ 0 := by omega
    have e20 : (m == -1) = false := by simp; omega
    clear hb hm hq hm0 hq0
    have HB := Aside0.mk (Below.refl w.heap.size w)
    by_cases hbig : a0 + m > 65536
    · rw [if_pos hbig] at h
      cases h
      go_enter Try.func4, Try.ntmps4
      go_wp2_with (first
        | ((with_reducible refine gate_dst (N := 13) rfl ?_); refine box_event ?hg (N := 13) ?hd (cs := cohortlaw24_conf.Z) (t := 27) ?hr ?_; (case hd => rfl); (case hg => rfl); (case hr => first | (go_simp; done) | (go_simp; rfl)); intro gb hg w1 hbox hb; have n0 := Aside0.mk (below_step HB.out hb); have BK := Aside0.mk hbox; have GG := Aside0.mk (show w.heap.size ≤ gb by omega); clear HB hb hbox hg; have HB := n0; clear n0)
        | ((with_reducible refine gate_dst (N := 29) rfl ?_); refine wpList_build rfl 27 _ rfl (by kernel_rfl) ?_)
        | (refine wpList_store_row rfl 27 (.tmp 13) (.tmp 29) rfl gb (cohortlaw24_WantSteady.row (wrap64 a0) (wrap64 (a0 + m)) (wrap64 (1 + a2))) rfl (by kernel_rfl) 27 cohortlaw24_conf.Z BK.out (cohortlaw24_WantSteady.info _ _ _) (by kernel_rfl) (by kernel_rfl) ?_; have n0 := Aside0.mk (cohortlaw24_conf.setRow HB.out gb GG.out (cohortlaw24_WantSteady.row (wrap64 a0) (wrap64 (a0 + m)) (wrap64 (1 + a2)))); have n1 := setRow_heap _ _ _ (cohortlaw24_WantSteady.row (wrap64 a0) (wrap64 (a0 + m)) (wrap64 (1 + a2))) _ _ BK.out; generalize World.setRow _ _ _ = w3 at n0 n1; rw [e1, e5, e7] at n1; clear HB BK; have HB := n0; have BK := Aside0.mk n1; clear n0 n1))
      have k4 : w3.cell? ⟨gb, 4, none⟩ = some (.int .i64 a0) := (blk_cell BK.out 4).trans rfl
      have k5 : w3.cell? ⟨gb, 5, none⟩ = some (.int .i64 (a0 + m)) := (blk_cell BK.out 5).trans rfl
      go_region_held3 (fun w' => w'.cell? ⟨gb, 4, none⟩ = some (.int .i64 a0) ∧ w'.cell? ⟨gb, 5, none⟩ = some (.int .i64 (a0 + m))) (exact ⟨k4, k5⟩) (fail)
      go_wp2_with (go_at_call 6; with_reducible refine (cohortlaw24_lives.calls k true _ LV.out).mono ?_; rintro e w' ⟨rfl, hb⟩; have n0 := Aside0.mk (below_step (by repeat (first | (with_reducible first | exact HB.out | apply below_alloc | apply pw_below_drewN | apply below_drew1) | exact HB.out)) hb); clear HB hb; have HB := n0; clear n0)
      go_ret
      exact ⟨rfl, by repeat (first | (with_reducible first | exact HB.out | apply below_alloc | apply pw_below_drewN | apply below_drew1) | exact HB.out)⟩
    · rw [if_neg hbig] at h
      obtain ⟨r0, hr, h⟩ := Option.bind_eq_some_iff.mp h
      by_cases hre : r0 = (a0 + q, a4, 0)
      case neg => rw [if_neg hre] at h; cases h
      rw [if_pos hre] at h
      cases h
      subst hre
      have M := Aside0.mk hr
      clear hr
      go_enter Try.func4, Try.ntmps4
      go_wp2_with (first
        | ((with_reducible refine gate_dst (N := 13) rfl ?_); refine box_event ?hg (N := 13) ?hd (cs := cohortlaw24_conf.Z) (t := 27) ?hr ?_; (case hd => rfl); (case hg => rfl); (case hr => first | (go_simp; done) | (go_simp; rfl)); intro gb hg w1 hbox hb; have n0 := Aside0.mk (below_step HB.out hb); have BK := Aside0.mk hbox; have GG := Aside0.mk (show w.heap.size ≤ gb by omega); clear HB hb hbox hg; have HB := n0; clear n0)
        | ((with_reducible refine gate_dst (N := 29) rfl ?_); refine wpList_build rfl 27 _ rfl (by kernel_rfl) ?_)
        | (refine wpList_store_row rfl 27 (.tmp 13) (.tmp 29) rfl gb (cohortlaw24_WantSteady.row (wrap64 a0) (wrap64 (a0 + m)) (wrap64 (1 + a2))) rfl (by kernel_rfl) 27 cohortlaw24_conf.Z BK.out (cohortlaw24_WantSteady.info _ _ _) (by kernel_rfl) (by kernel_rfl) ?_; have n0 := Aside0.mk (cohortlaw24_conf.setRow HB.out gb GG.out (cohortlaw24_WantSteady.row (wrap64 a0) (wrap64 (a0 + m)) (wrap64 (1 + a2)))); have n1 := setRow_heap _ _ _ (cohortlaw24_WantSteady.row (wrap64 a0) (wrap64 (a0 + m)) (wrap64 (1 + a2))) _ _ BK.out; generalize World.setRow _ _ _ = w3 at n0 n1; rw [e1, e5, e7] at n1; clear HB BK; have HB := n0; have BK := Aside0.mk n1; clear n0 n1))
      have k4 : w3.cell? ⟨gb, 4, none⟩ = some (.int .i64 a0) := (blk_cell BK.out 4).trans rfl
      have k5 : w3.cell? ⟨gb, 5, none⟩ = some (.int .i64 (a0 + m)) := (blk_cell BK.out 5).trans rfl
      go_region_held3 (fun w' => w'.cell? ⟨gb, 4, none⟩ = some (.int .i64 a0) ∧ w'.cell? ⟨gb, 5, none⟩ = some (.int .i64 (a0 + m))) (exact ⟨k4, k5⟩) (fail)
      have k17 : w3.cell? ⟨gb, 17, none⟩ = some (.int .i64 (1 + a2)) := (blk_cell BK.out 17).trans rfl
      go_wp2_with (first
        | ((with_reducible refine gate_dst (N := 47) rfl ?_); refine wpList_load_row rfl 27 (.tmp 13) rfl gb rfl 27 (cohortlaw24_WantSteady.row a0 (a0 + m) (1 + a2)) (0, 0) _ (by (with_reducible repeat (first | refine blk_drewN ?_ _ | refine blk_drew ?_ | refine blk_alloc ?_ _)); exact BK.out) Try.underlying27 rfl (cohortlaw24_WantSteady.info _ _ _) ?_)
        | (go_at_call 7; with_reducible refine (cohortlaw24_WantSteady.mc k a0 (a0 + m) (1 + a2) (a0 + q) a4 a5 (a0 + q) a4 0 _ M.out).mono ?_; rintro e w' ⟨rfl, hb⟩; have n0 := Aside0.mk (below_step (by repeat (first | (with_reducible first | exact HB.out | apply below_alloc | apply pw_below_drewN | apply below_drew1) | exact HB.out)) hb); clear HB hb; have HB := n0; clear n0)
        | (go_at_call 6; with_reducible refine (cohortlaw24_lives.calls k true _ LV.out).mono ?_; rintro e w' ⟨rfl, hb⟩; have n0 := Aside0.mk (below_step (by repeat (first | (with_reducible first | exact HB.out | apply below_alloc | apply pw_below_drewN | apply below_drew1) | exact HB.out)) hb); clear HB hb; have HB := n0; clear n0))
      go_ret
      exact ⟨rfl, by repeat (first | (with_reducible first | exact HB.out | apply below_alloc | apply pw_below_drewN | apply below_drew1) | exact HB.out)⟩

/-- THE ONE PURE STATEMENT of cohortlaw24_WantSteady: yours. -/
def cohortlaw24_WantSteady.Pure : Prop := ∀ (a0 : Int) (a1 : Int) (a2 : Int) (a3 : Int) (a4 : Int) (a5 : Int), (Lit.int .u16 a0).wf = true → (Lit.int .u16 a1).wf = true → (Lit.int .u16 a2).wf = true → (Lit.int .u16 a3).wf = true → (Lit.int .u32 a4).wf = true → (Lit.int .u32 a5).wf = true → ∃ k, cohortlaw24_WantSteady.f k a0 a1 a2 a3 a4 a5 = some true
theorem cohortlaw24_WantSteady.walk (P : cohortlaw24_WantSteady.Pure) (a0 : Int) (a1 : Int) (a2 : Int) (a3 : Int) (a4 : Int) (a5 : Int) (w : World) (w0 : (Lit.int .u16 a0).wf = true) (w1 : (Lit.int .u16 a1).wf = true) (w2 : (Lit.int .u16 a2).wf = true) (w3 : (Lit.int .u16 a3).wf = true) (w4 : (Lit.int .u32 a4).wf = true) (w5 : (Lit.int .u32 a5).wf = true) :
    Calls Try.prog 4 #[.int .u16 a0, .int .u16 a1, .int .u16 a2, .int .u16 a3, .int .u32 a4, .int .u32 a5] w fun e w' => e = .returned (.bool true) ∧ Below w.heap.size w w' := by
  obtain ⟨k, h⟩ := P a0 a1 a2 a3 a4 a5 w0 w1 w2 w3 w4 w5
  refine (cohortlaw24_WantSteady.calls k a0 a1 a2 a3 a4 a5 true w h).mono ?_
  rintro e w' ⟨rfl, hd⟩
  exact ⟨rfl, hd⟩

end Go.Proofs.Ytiohijahacclnaa.GA
