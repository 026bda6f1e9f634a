/- Contracts: each call of a Go function answers what the Lean function of its name says; a law of the set follows. No condition but each theorem's own. Written by a program of this session's out of the translation, with the functions proved by hand let in. -/
import Derived.Test.YtiohijahacclnaaGBx0
import Derived.Test.YtiohijahacclnaaGBx1
import Derived.Test.YtiohijahacclnaaGBx5
namespace Go.Proofs.Ytiohijahacclnaa.GB
open Go.RowKit Go.Proofs.YtiohijahacclnaaW.PrintWords Go.Proofs.YtiohijahacclnaaW.PrintLast Go.Proofs.YtiohijahacclnaaW.PrintMore
attribute [local go_sem] max2_int min2_int max_two min_two max_three min_three max_four min_four   -- for this text's walks alone
set_option linter.unusedVariables false
set_option linter.unusedSimpArgs false

/-! ### cohortlaw24_conf: function 8 -/
/-- the law's Config, and the empty one -/
def cohortlaw24_conf.V : Array Value := #[.slice none 0 0, .int .u8 0, .int .i64 0, .bool false, .int .i64 1, .int .i64 10, .int .i64 0, .int .i64 0, .int .i64 0, .int .i64 0, .int .u64 0, .int .u64 0, .int .u64 0, .int .u64 0, .int .u64 0, .int .u64 5, .bool false, .int .i64 50, .slice none 0 0, .slice none 0 0]
def cohortlaw24_conf.Z : Array Value := #[.slice none 0 0, .int .u8 0, .int .i64 0, .bool false, .int .i64 0, .int .i64 0, .int .i64 0, .int .i64 0, .int .i64 0, .int .i64 0, .int .u64 0, .int .u64 0, .int .u64 0, .int .u64 0, .int .u64 0, .int .u64 0, .bool false, .int .i64 0, .slice none 0 0, .slice none 0 0]
theorem cohortlaw24_conf.setRow {n : Nat} {w W : World} (h : Below n w W) (g : Nat) (hg : n ≤ g) (cs : Array Value) : Below n w (W.setRow g cs) :=
  ⟨h.os, h.tape, h.output, by rw [setRow_size]; exact h.size, fun k hk => (setRow_other W g k cs (by omega)).trans (h.block k hk)⟩
theorem cohortlaw24_conf.info : (Try.prog.info? 27).map (·.size) = some cohortlaw24_conf.V.size := by kernel_rfl
set_option maxHeartbeats 4000000 in
set_option maxRecDepth 100000 in
theorem cohortlaw24_conf.calls (w : World) : Calls Try.prog 8 #[] w fun e w' => e = .returned (.agg cohortlaw24_conf.V) ∧ Below w.heap.size w w' := by
  go_enter Try.func8, Try.ntmps8
  have HB := Aside0.mk (Below.refl w.heap.size w)
  go_wp2_with (first
    | ((with_reducible refine gate_dst (N := 0) rfl ?_); refine box_event ?hg (N := 0) ?hd (cs := cohortlaw24_conf.Z) (t := 27) ?hr ?_; (case hd => rfl); (case hg => rfl); (case hr => first | (go_simp; done) | (go_simp; rfl)); intro gb hg w1 hbox hb; have n0 := Aside0.mk (below_step HB.out hb); have BK := Aside0.mk hbox; have GG := Aside0.mk (show w.heap.size ≤ gb by omega); clear HB hb hbox hg; have HB := n0; clear n0)
    | ((with_reducible refine gate_dst (N := 1) rfl ?_); refine wpList_build rfl 27 _ rfl (by kernel_rfl) ?_)
    | (refine wpList_store_row rfl 27 (.tmp 0) (.tmp 1) rfl gb cohortlaw24_conf.V rfl (by kernel_rfl) 27 cohortlaw24_conf.Z BK.out cohortlaw24_conf.info (by kernel_rfl) (by kernel_rfl) ?_))
  refine bodyPost_ret (results_cell_row rfl _ _ gb 27 cohortlaw24_conf.V (0, 0) _ rfl (setRow_heap _ _ _ _ _ _ BK.out) Try.underlying27 rfl cohortlaw24_conf.info) rfl ?_
  exact ⟨rfl, cohortlaw24_conf.setRow HB.out gb GG.out _⟩


/-! ### want_Set: function 9 -/
def want_Set.f (l0_0 : List (S95)) (a0_1 : Int) (a0_2 : Int) (a0_3 : Bool) (a0_4 : Int) (a0_5 : Int) (a0_6 : Int) (a0_7 : Int) (a0_8 : Int) (a0_9 : Int) (a0_10 : Int) (a0_11 : Int) (a0_12 : Int) (a0_13 : Int) (a0_14 : Int) (a0_15 : Int) (a0_16 : Bool) (a0_17 : Int) (l0_18 : List (S49)) (l0_19 : List (S97)) (a1 : Int) : Option (Int × Int) := if a1 < 0 then (some (0, 2)) else (if a1 > 65536 then (some (0, 2)) else ((num_Clamp.f a1 a0_4 a0_5).bind fun t128 => (some (t128, 0))))
set_option maxHeartbeats 8000000 in
set_option maxRecDepth 100000 in
theorem want_Set.calls (A0_0 : Option Addr) (c0_0 : Nat) (l0_0 : List (S95)) (a0_1 : Int) (a0_2 : Int) (a0_3 : Bool) (a0_4 : Int) (a0_5 : Int) (a0_6 : Int) (a0_7 : Int) (a0_8 : Int) (a0_9 : Int) (a0_10 : Int) (a0_11 : Int) (a0_12 : Int) (a0_13 : Int) (a0_14 : Int) (a0_15 : Int) (a0_16 : Bool) (a0_17 : Int) (A0_18 : Option Addr) (c0_18 : Nat) (l0_18 : List (S49)) (A0_19 : Option Addr) (c0_19 : Nat) (l0_19 : List (S97)) (a1 : Int) (r1 : Int) (r2 : Int) (w : World) (hr0_0 : Kd.C k95 w A0_0 l0_0.length l0_0) (hc0_0 : l0_0.length ≤ c0_0) (hr0_18 : Kd.C k49 w A0_18 l0_18.length l0_18) (hc0_18 : l0_18.length ≤ c0_18) (hr0_19 : Kd.C k97 w A0_19 l0_19.length l0_19) (hc0_19 : l0_19.length ≤ c0_19) (h : want_Set.f l0_0 a0_1 a0_2 a0_3 a0_4 a0_5 a0_6 a0_7 a0_8 a0_9 a0_10 a0_11 a0_12 a0_13 a0_14 a0_15 a0_16 a0_17 l0_18 l0_19 a1 = some (r1, r2)) :
    Calls Try.prog 9 #[.agg #[.slice A0_0 l0_0.length c0_0, .int .u8 a0_1, .int .i64 a0_2, .bool a0_3, .int .i64 a0_4, .int .i64 a0_5, .int .i64 a0_6, .int .i64 a0_7, .int .i64 a0_8, .int .i64 a0_9, .int .u64 a0_10, .int .u64 a0_11, .int .u64 a0_12, .int .u64 a0_13, .int .u64 a0_14, .int .u64 a0_15, .bool a0_16, .int .i64 a0_17, .slice A0_18 l0_18.length c0_18, .slice A0_19 l0_19.length c0_19], .int .i64 a1] w fun e w' => e = .returned (.tuple #[.int .i64 r1, .int .i64 r2]) ∧ Below w.heap.size w w' := by
  have hu27 := Try.underlying27
  have HR0_0 := Aside0.mk hr0_0
  have HC0_0 := Aside0.mk hc0_0
  clear hr0_0 hc0_0
  have HR0_18 := Aside0.mk hr0_18
  have HC0_18 := Aside0.mk hc0_18
  clear hr0_18 hc0_18
  have HR0_19 := Aside0.mk hr0_19
  have HC0_19 := Aside0.mk hc0_19
  clear hr0_19 hc0_19
  have HB := Aside0.mk (Below.refl w.heap.size w)
  have H : (if a1 < 0 then (some (0, 2)) else (if a1 > 65536 then (some (0, 2)) else ((num_Clamp.f a1 a0_4 a0_5).bind fun t128 => (some (t128, 0))))) = some (r1, r2) := h
  clear h
  by_cases c3 : a1 < 0
  · rw [if_pos c3] at H
    have c3b0 : decide (a1 < 0) = true := decide_eq_true c3
    clear c3
    simp only [Option.some.injEq, Prod.mk.injEq] at H
    obtain ⟨rfl, rfl⟩ := H
    go_enter Try.func9, Try.ntmps9
    go_wp2_with (first | (refine wpList_load_row rfl 27 (.tmp 2) rfl gb127 rfl 27 _ (0, 0) _ BK127.out Try.underlying27 rfl (by kernel_rfl) ?_) | ((with_reducible refine gate_dst (N := 2) rfl ?_); refine box_event ?hg (N := 2) ?hd (cs := #[.slice A0_0 l0_0.length c0_0, .int .u8 a0_1, .int .i64 a0_2, .bool a0_3, .int .i64 a0_4, .int .i64 a0_5, .int .i64 a0_6, .int .i64 a0_7, .int .i64 a0_8, .int .i64 a0_9, .int .u64 a0_10, .int .u64 a0_11, .int .u64 a0_12, .int .u64 a0_13, .int .u64 a0_14, .int .u64 a0_15, .bool a0_16, .int .i64 a0_17, .slice A0_18 l0_18.length c0_18, .slice A0_19 l0_19.length c0_19]) (t := 27) ?hr ?_; (case hd => rfl); (case hg => rfl); (case hr => first | (go_simp; done) | (go_simp; rfl)); intro gb127 hg w4 hbox hb; have n0_ := Aside0.mk (below_step (by repeat (first | (with_reducible first | exact HB.out | apply below_alloc | apply pw_below_drewN | apply below_drew1) | exact HB.out)) hb); have n1_ := Aside0.mk (hbox); have n2_ := Aside0.mk ((by rw [hg]; exact (below_size (by repeat (first | (with_reducible first | exact HB.out | apply below_alloc | apply pw_below_drewN | apply below_drew1) | exact HB.out))) : w.heap.size ≤ gb127)); have n3_ := Aside0.mk ((by rw [hg]; exact (below_size (by repeat (first | (with_reducible first | exact HB.out | apply below_alloc | apply pw_below_drewN | apply below_drew1) | exact HB.out))) : w.heap.size ≤ gb127)); clear HB; have HB := n0_; have BK127 := n1_; have GW127 := n2_; have GE127 := n3_; clear n0_ n1_ n2_ n3_; clear hb hbox hg))
    go_ret2
    exact ⟨by first | rfl | (simp [errW_none, errW_some] <;> rfl) | (simp [*, errW_none, errW_some] <;> rfl), by repeat (first | (with_reducible first | exact HB.out | apply below_alloc | apply pw_below_drewN | apply below_drew1 | refine below_set ?_ GE127.out) | exact HB.out)⟩
  · rw [if_neg c3] at H
    have c3b0 : decide (a1 < 0) = false := decide_eq_false c3
    clear c3
    by_cases c5 : a1 > 65536
    · rw [if_pos c5] at H
      have c5b0 : decide (65536 < a1) = true := decide_eq_true c5
      clear c5
      simp only [Option.some.injEq, Prod.mk.injEq] at H
      obtain ⟨rfl, rfl⟩ := H
      go_enter Try.func9, Try.ntmps9
      go_wp2_with (first | (refine wpList_load_row rfl 27 (.tmp 2) rfl gb127 rfl 27 _ (0, 0) _ BK127.out Try.underlying27 rfl (by kernel_rfl) ?_) | ((with_reducible refine gate_dst (N := 2) rfl ?_); refine box_event ?hg (N := 2) ?hd (cs := #[.slice A0_0 l0_0.length c0_0, .int .u8 a0_1, .int .i64 a0_2, .bool a0_3, .int .i64 a0_4, .int .i64 a0_5, .int .i64 a0_6, .int .i64 a0_7, .int .i64 a0_8, .int .i64 a0_9, .int .u64 a0_10, .int .u64 a0_11, .int .u64 a0_12, .int .u64 a0_13, .int .u64 a0_14, .int .u64 a0_15, .bool a0_16, .int .i64 a0_17, .slice A0_18 l0_18.length c0_18, .slice A0_19 l0_19.length c0_19]) (t := 27) ?hr ?_; (case hd => rfl); (case hg => rfl); (case hr => first | (go_simp; done) | (go_simp; rfl)); intro gb127 hg w6 hbox hb; have n0_ := Aside0.mk (below_step (by repeat (first | (with_reducible first | exact HB.out | apply below_alloc | apply pw_below_drewN | apply below_drew1) | exact HB.out)) hb); have n1_ := Aside0.mk (hbox); have n2_ := Aside0.mk ((by rw [hg]; exact (below_size (by repeat (first | (with_reducible first | exact HB.out | apply below_alloc | apply pw_below_drewN | apply below_drew1) | exact HB.out))) : w.heap.size ≤ gb127)); have n3_ := Aside0.mk ((by rw [hg]; exact (below_size (by repeat (first | (with_reducible first | exact HB.out | apply below_alloc | apply pw_below_drewN | apply below_drew1) | exact HB.out))) : w.heap.size ≤ gb127)); clear HB; have HB := n0_; have BK127 := n1_; have GW127 := n2_; have GE127 := n3_; clear n0_ n1_ n2_ n3_; clear hb hbox hg))
      go_ret2
      exact ⟨by first | rfl | (simp [errW_none, errW_some] <;> rfl) | (simp [*, errW_none, errW_some] <;> rfl), by repeat (first | (with_reducible first | exact HB.out | apply below_alloc | apply pw_below_drewN | apply below_drew1 | refine below_set ?_ GE127.out) | exact HB.out)⟩
    · rw [if_neg c5] at H
      have c5b0 : decide (65536 < a1) = false := decide_eq_false c5
      clear c5
      replace H := Option.bind_eq_some_iff.mp H
      obtain ⟨t128, A70, H⟩ := H
      replace H : (some (t128, 0)) = some (r1, r2) := H
      have A7 := Aside0.mk A70
      clear A70
      simp only [Option.some.injEq, Prod.mk.injEq] at H
      obtain ⟨rfl, rfl⟩ := H
      go_enter Try.func9, Try.ntmps9
      go_wp2_with (first | (refine wpList_load_row rfl 27 (.tmp 2) rfl gb127 rfl 27 _ (0, 0) _ BK127.out Try.underlying27 rfl (by kernel_rfl) ?_) | ((with_reducible refine gate_dst (N := 2) rfl ?_); refine box_event ?hg (N := 2) ?hd (cs := #[.slice A0_0 l0_0.length c0_0, .int .u8 a0_1, .int .i64 a0_2, .bool a0_3, .int .i64 a0_4, .int .i64 a0_5, .int .i64 a0_6, .int .i64 a0_7, .int .i64 a0_8, .int .i64 a0_9, .int .u64 a0_10, .int .u64 a0_11, .int .u64 a0_12, .int .u64 a0_13, .int .u64 a0_14, .int .u64 a0_15, .bool a0_16, .int .i64 a0_17, .slice A0_18 l0_18.length c0_18, .slice A0_19 l0_19.length c0_19]) (t := 27) ?hr ?_; (case hd => rfl); (case hg => rfl); (case hr => first | (go_simp; done) | (go_simp; rfl)); intro gb127 hg w8 hbox hb; have n0_ := Aside0.mk (below_step (by repeat (first | (with_reducible first | exact HB.out | apply below_alloc | apply pw_below_drewN | apply below_drew1) | exact HB.out)) hb); have n1_ := Aside0.mk (hbox); have n2_ := Aside0.mk ((by rw [hg]; exact (below_size (by repeat (first | (with_reducible first | exact HB.out | apply below_alloc | apply pw_below_drewN | apply below_drew1) | exact HB.out))) : w.heap.size ≤ gb127)); have n3_ := Aside0.mk ((by rw [hg]; exact (below_size (by repeat (first | (with_reducible first | exact HB.out | apply below_alloc | apply pw_below_drewN | apply below_drew1) | exact HB.out))) : w.heap.size ≤ gb127)); clear HB; have HB := n0_; have BK127 := n1_; have GW127 := n2_; have GE127 := n3_; clear n0_ n1_ n2_ n3_; clear hb hbox hg; have hcz9_0 : w8.cell? ⟨gb127, 0, none⟩ = some (.slice A0_0 l0_0.length c0_0) := (blk_cell BK127.out 0).trans rfl; have hcz9_1 : w8.cell? ⟨gb127, 1, none⟩ = some (.int .u8 a0_1) := (blk_cell BK127.out 1).trans rfl; have hcz9_2 : w8.cell? ⟨gb127, 2, none⟩ = some (.int .i64 a0_2) := (blk_cell BK127.out 2).trans rfl; have hcz9_3 : w8.cell? ⟨gb127, 3, none⟩ = some (.bool a0_3) := (blk_cell BK127.out 3).trans rfl; have hcz9_4 : w8.cell? ⟨gb127, 4, none⟩ = some (.int .i64 a0_4) := (blk_cell BK127.out 4).trans rfl; have hcz9_5 : w8.cell? ⟨gb127, 5, none⟩ = some (.int .i64 a0_5) := (blk_cell BK127.out 5).trans rfl; have hcz9_6 : w8.cell? ⟨gb127, 6, none⟩ = some (.int .i64 a0_6) := (blk_cell BK127.out 6).trans rfl; have hcz9_7 : w8.cell? ⟨gb127, 7, none⟩ = some (.int .i64 a0_7) := (blk_cell BK127.out 7).trans rfl; have hcz9_8 : w8.cell? ⟨gb127, 8, none⟩ = some (.int .i64 a0_8) := (blk_cell BK127.out 8).trans rfl; have hcz9_9 : w8.cell? ⟨gb127, 9, none⟩ = some (.int .i64 a0_9) := (blk_cell BK127.out 9).trans rfl; have hcz9_10 : w8.cell? ⟨gb127, 10, none⟩ = some (.int .u64 a0_10) := (blk_cell BK127.out 10).trans rfl; have hcz9_11 : w8.cell? ⟨gb127, 11, none⟩ = some (.int .u64 a0_11) := (blk_cell BK127.out 11).trans rfl; have hcz9_12 : w8.cell? ⟨gb127, 12, none⟩ = some (.int .u64 a0_12) := (blk_cell BK127.out 12).trans rfl; have hcz9_13 : w8.cell? ⟨gb127, 13, none⟩ = some (.int .u64 a0_13) := (blk_cell BK127.out 13).trans rfl; have hcz9_14 : w8.cell? ⟨gb127, 14, none⟩ = some (.int .u64 a0_14) := (blk_cell BK127.out 14).trans rfl; have hcz9_15 : w8.cell? ⟨gb127, 15, none⟩ = some (.int .u64 a0_15) := (blk_cell BK127.out 15).trans rfl; have hcz9_16 : w8.cell? ⟨gb127, 16, none⟩ = some (.bool a0_16) := (blk_cell BK127.out 16).trans rfl; have hcz9_17 : w8.cell? ⟨gb127, 17, none⟩ = some (.int .i64 a0_17) := (blk_cell BK127.out 17).trans rfl; have hcz9_18 : w8.cell? ⟨gb127, 18, none⟩ = some (.slice A0_18 l0_18.length c0_18) := (blk_cell BK127.out 18).trans rfl; have hcz9_19 : w8.cell? ⟨gb127, 19, none⟩ = some (.slice A0_19 l0_19.length c0_19) := (blk_cell BK127.out 19).trans rfl; have hfz9_0 := blk_frozen BK127.out 0; have hfz9_1 := blk_frozen BK127.out 1; have hfz9_2 := blk_frozen BK127.out 2; have hfz9_3 := blk_frozen BK127.out 3; have hfz9_4 := blk_frozen BK127.out 4; have hfz9_5 := blk_frozen BK127.out 5; have hfz9_6 := blk_frozen BK127.out 6; have hfz9_7 := blk_frozen BK127.out 7; have hfz9_8 := blk_frozen BK127.out 8; have hfz9_9 := blk_frozen BK127.out 9; have hfz9_10 := blk_frozen BK127.out 10; have hfz9_11 := blk_frozen BK127.out 11; have hfz9_12 := blk_frozen BK127.out 12; have hfz9_13 := blk_frozen BK127.out 13; have hfz9_14 := blk_frozen BK127.out 14; have hfz9_15 := blk_frozen BK127.out 15; have hfz9_16 := blk_frozen BK127.out 16; have hfz9_17 := blk_frozen BK127.out 17; have hfz9_18 := blk_frozen BK127.out 18; have hfz9_19 := blk_frozen BK127.out 19) | ((with_reducible refine gate_callee (f := 13) rfl ?_); refine goesL_ (some 17) rfl rfl Try.func13 (by kernel_rfl) rfl #[.int .i64 a1, .int .i64 a0_4, .int .i64 a0_5] rfl (by (try simp only [List.map_toArray, List.map_cons, List.map_nil]); first | done | rfl | (simp only [List.length_drop, List.length_take]; rfl)) ?_; (with_reducible refine (num_Clamp.calls a1 a0_4 a0_5 t128 _ A7.out).mono ?_); rintro e w10 ⟨rfl, hb⟩; refine ⟨_, rfl, ?_⟩; have n0_ := Aside0.mk (blk_below (g := gb127) (o := .cells #[.slice A0_0 l0_0.length c0_0, .int .u8 a0_1, .int .i64 a0_2, .bool a0_3, .int .i64 a0_4, .int .i64 a0_5, .int .i64 a0_6, .int .i64 a0_7, .int .i64 a0_8, .int .i64 a0_9, .int .u64 a0_10, .int .u64 a0_11, .int .u64 a0_12, .int .u64 a0_13, .int .u64 a0_14, .int .u64 a0_15, .bool a0_16, .int .i64 a0_17, .slice A0_18 l0_18.length c0_18, .slice A0_19 l0_19.length c0_19] 27 (0, 0)) (by (with_reducible repeat (first | refine blk_drewN ?_ _ | refine blk_drew ?_ | refine blk_alloc ?_ _)); exact BK127.out) hb); have n1_ := Aside0.mk (below_step (by repeat (first | (with_reducible first | exact HB.out | apply below_alloc | apply pw_below_drewN | apply below_drew1 | refine below_set ?_ GE127.out) | exact HB.out)) hb); clear BK127; clear HB; have BK127 := n0_; have HB := n1_; clear n0_ n1_; (try clear hb); (try clear hb2); (try clear hk); (try clear hi)))
      go_ret2
      exact ⟨by first | rfl | (simp [errW_none, errW_some] <;> rfl) | (simp [*, errW_none, errW_some] <;> rfl), by repeat (first | (with_reducible first | exact HB.out | apply below_alloc | apply pw_below_drewN | apply below_drew1 | refine below_set ?_ GE127.out) | exact HB.out)⟩

/-! ### cohortlaw24_lives: function 6 -/
/-- what the metric, and the operator, ask of the law's Config -/
def cohortlaw24_lives.m (k : Nat) (d u n m : Int) : Option (Int × Int × Int) := want_Metric.f k [] 0 0 false 1 10 0 0 0 0 0 0 0 0 0 5 false 50 [] [] d u n m
def cohortlaw24_lives.s (n : Int) : Option (Int × Int) := want_Set.f [] 0 0 false 1 10 0 0 0 0 0 0 0 0 0 5 false 50 [] [] n
def cohortlaw24_lives.f (k : Nat) : Option Bool := (cohortlaw24_lives.m k 4 0 3 100).bind fun a => (cohortlaw24_lives.m k 8 8 7 100).bind fun b => (cohortlaw24_lives.m k 8 8 8 100).bind fun c =>
  if (a = (8, 8, 0) ∧ b = (8, 8, 0) ∧ c = (10, 13, 0)) ∧ cohortlaw24_lives.s 99 = some (10, 0) ∧ cohortlaw24_lives.s (-1) = some (0, 2) then some true else none
theorem cohortlaw24_lives.mono : ∀ k, LeO (cohortlaw24_lives.f k) (cohortlaw24_lives.f (k + 1)) := by
  intro k
  unfold cohortlaw24_lives.f cohortlaw24_lives.m
  exact LeO.bind (want_Metric.mono _ _ _ _ _ _ _ _ _ _ _ _ _ _ _ _ _ _ _ _ _ _ _ _ _) (fun _ => LeO.bind (want_Metric.mono _ _ _ _ _ _ _ _ _ _ _ _ _ _ _ _ _ _ _ _ _ _ _ _ _) (fun _ => LeO.bind (want_Metric.mono _ _ _ _ _ _ _ _ _ _ _ _ _ _ _ _ _ _ _ _ _ _ _ _ _) (fun _ => LeO.refl _)))
theorem cohortlaw24_lives.mc (k : Nat) (d u n m a b c : Int) (W : World) (h : cohortlaw24_lives.m k d u n m = some (a, b, c)) : Calls Try.prog 7 #[.agg cohortlaw24_conf.V, .int .i64 d, .int .u64 u, .int .u64 n, .int .i64 m] W fun e w' => e = .returned (.tuple #[.int .i64 a, .int .u64 b, .int .i64 c]) ∧ Below W.heap.size W w' :=
  want_Metric.calls k none 0 [] 0 0 false 1 10 0 0 0 0 0 0 0 0 0 5 false 50 none 0 [] none 0 [] d u n m a b c W (Kd.C_nil _ _) (Nat.le_refl _) (Kd.C_nil _ _) (Nat.le_refl _) (Kd.C_nil _ _) (Nat.le_refl _) h
theorem cohortlaw24_lives.sc (n a b : Int) (W : World) (h : cohortlaw24_lives.s n = some (a, b)) : Calls Try.prog 9 #[.agg cohortlaw24_conf.V, .int .i64 n] W fun e w' => e = .returned (.tuple #[.int .i64 a, .int .i64 b]) ∧ Below W.heap.size W w' :=
  want_Set.calls none 0 [] 0 0 false 1 10 0 0 0 0 0 0 0 0 0 5 false 50 none 0 [] none 0 [] n a b W (Kd.C_nil _ _) (Nat.le_refl _) (Kd.C_nil _ _) (Nat.le_refl _) (Kd.C_nil _ _) (Nat.le_refl _) h
set_option maxHeartbeats 8000000 in
set_option maxRecDepth 100000 in
theorem cohortlaw24_lives.calls (k : Nat) (r : Bool) (w : World) (h : cohortlaw24_lives.f k = some r) :
    Calls Try.prog 6 #[] w fun e w' => e = .returned (.bool r) ∧ Below w.heap.size w w' := by
  unfold cohortlaw24_lives.f at h
  obtain ⟨a, ha, h⟩ := Option.bind_eq_some_iff.mp h
  obtain ⟨b, hb, h⟩ := Option.bind_eq_some_iff.mp h
  obtain ⟨c, hc, h⟩ := Option.bind_eq_some_iff.mp h
  by_cases hh : (a = (8, 8, 0) ∧ b = (8, 8, 0) ∧ c = (10, 13, 0)) ∧ cohortlaw24_lives.s 99 = some (10, 0) ∧ cohortlaw24_lives.s (-1) = some (0, 2)
  · rw [if_pos hh] at h
    cases h
    obtain ⟨⟨rfl, rfl, rfl⟩, hs, ht⟩ := hh
    have HA := Aside0.mk ha
    have HB := Aside0.mk hb
    have HC := Aside0.mk hc
    have HS := Aside0.mk hs
    have HT := Aside0.mk ht
    clear ha hb hc hs ht
    have BB := Aside0.mk (Below.refl w.heap.size w)
    go_enter Try.func6, Try.ntmps6
    go_wp2_with (first
      | (go_at_call 8; with_reducible refine (cohortlaw24_conf.calls _).mono ?_; rintro e w' ⟨rfl, hb⟩; have n0 := Aside0.mk (below_step (by repeat (first | (with_reducible first | exact BB.out | apply below_alloc | apply pw_below_drewN | apply below_drew1) | exact BB.out)) hb); clear BB hb; have BB := n0; clear n0)
      | (go_at_call 7; with_reducible refine (cohortlaw24_lives.mc k 4 0 3 100 8 8 0 _ HA.out).mono ?_; rintro e w' ⟨rfl, hb⟩; have n0 := Aside0.mk (below_step (by repeat (first | (with_reducible first | exact BB.out | apply below_alloc | apply pw_below_drewN | apply below_drew1) | exact BB.out)) hb); clear BB hb; have BB := n0; clear n0)
      | (go_at_call 7; with_reducible refine (cohortlaw24_lives.mc k 8 8 7 100 8 8 0 _ HB.out).mono ?_; rintro e w' ⟨rfl, hb⟩; have n0 := Aside0.mk (below_step (by repeat (first | (with_reducible first | exact BB.out | apply below_alloc | apply pw_below_drewN | apply below_drew1) | exact BB.out)) hb); clear BB hb; have BB := n0; clear n0)
      | (go_at_call 7; with_reducible refine (cohortlaw24_lives.mc k 8 8 8 100 10 13 0 _ HC.out).mono ?_; rintro e w' ⟨rfl, hb⟩; have n0 := Aside0.mk (below_step (by repeat (first | (with_reducible first | exact BB.out | apply below_alloc | apply pw_below_drewN | apply below_drew1) | exact BB.out)) hb); clear BB hb; have BB := n0; clear n0)
      | (go_at_call 9; with_reducible refine (cohortlaw24_lives.sc 99 10 0 _ HS.out).mono ?_; rintro e w' ⟨rfl, hb⟩; have n0 := Aside0.mk (below_step (by repeat (first | (with_reducible first | exact BB.out | apply below_alloc | apply pw_below_drewN | apply below_drew1) | exact BB.out)) hb); clear BB hb; have BB := n0; clear n0)
      | (go_at_call 9; with_reducible refine (cohortlaw24_lives.sc (-1) 0 2 _ HT.out).mono ?_; rintro e w' ⟨rfl, hb⟩; have n0 := Aside0.mk (below_step (by repeat (first | (with_reducible first | exact BB.out | apply below_alloc | apply pw_below_drewN | apply below_drew1) | exact BB.out)) hb); clear BB hb; have BB := n0; clear n0))
    go_ret
    exact ⟨rfl, BB.out⟩
  · rw [if_neg hh] at h; cases h

/-! ### cohortlaw24_WantWithin: function 3 -/
/-- a Config's cells -/
def ww.V (A0 : Option Addr) (c0 : Nat) (A1 : Option Addr) (c1 : Nat) (A2 : Option Addr) (c2 : Nat) (x : S27) : Array Value := #[.slice A0 x.f0.length c0, .int .u8 x.f1, .int .i64 x.f2, .bool x.f3, .int .i64 x.f4, .int .i64 x.f5, .int .i64 x.f6, .int .i64 x.f7, .int .i64 x.f8, .int .i64 x.f9, .int .u64 x.f10, .int .u64 x.f11, .int .u64 x.f12, .int .u64 x.f13, .int .u64 x.f14, .int .u64 x.f15, .bool x.f16, .int .i64 x.f17, .slice A1 x.f18.length c1, .slice A2 x.f19.length c2]
theorem ww.info (A0 : Option Addr) (c0 : Nat) (A1 : Option Addr) (c1 : Nat) (A2 : Option Addr) (c2 : Nat) (x : S27) : (Try.prog.info? 27).map (·.size) = some (ww.V A0 c0 A1 c1 A2 c2 x).size := by
  have h := cohortlaw24_conf.info
  rw [h]; rfl
/-- a whole Config, loaded -/
theorem ww.load_run {o : Oper} {a : Act} (g : Nat) (cs : Array Value) (ho : o.op = .load 27 (.tmp 5)) (hx : a.eval (.tmp 5) = .pointer (some ⟨g, 0, none⟩)) (w : World) (hg : w.heap[g]? = some (.cells cs 27 (0, 0))) (hi : (Try.prog.info? 27).map (·.size) = some cs.size) :
    (execOp a.eval o).run Try.prog w = .ok (.value (.agg cs)) w := by
  unfold execOp
  simp only [ho, hx, Instr.loadAt, Instr.sureAddr, Sem.run_bind, Sem.run_pure, Result.andThen_ok, run_loadVar_row w g 27 27 cs (0, 0) _ hg Try.underlying27 rfl hi]
/-- what a metric asks for -/
def ww.m (k : Nat) (x : S27) (d u n m : Int) : Option (Int × Int × Int) := want_Metric.f k x.f0 x.f1 x.f2 x.f3 x.f4 x.f5 x.f6 x.f7 x.f8 x.f9 x.f10 x.f11 x.f12 x.f13 x.f14 x.f15 x.f16 x.f17 x.f18 x.f19 d u n m
/-- the metrics from one on: the law holds of each -/
def ww.l (k : Nat) (x : S27) (l : List Int) : Nat → Nat → Int → Int → Int → Option Unit
  | 0, _, _, _, _ => some ()
  | j + 1, i, d, u, n => (ww.m k x d u n (rd l (i : Int))).bind fun r =>
    if r.2.2 ≠ 0 then (if r.1 = 0 ∧ r.2.1 = 0 then ww.l k x l j (i + 1) d u n else none)
    else if x.f4 ≤ r.1 ∧ r.1 ≤ x.f5 ∧ ((r.1 = d ∧ r.2.1 = u) ∨ (r.1 ≠ d ∧ ¬ n < u ∧ r.2.1 = (n + x.f15) % 18446744073709551616)) then ww.l k x l j (i + 1) r.1 r.2.1 ((n + 1) % 18446744073709551616) else none
/-- what the law does not ask of -/
def ww.out (x : S27) (d : Int) : Prop := (x.f18.length : Int) > 100 ∨ (x.f19.length : Int) > 100 ∨ x.f4 < 0 ∨ x.f5 < x.f4 ∨ x.f5 > 65536 ∨ d < x.f4 ∨ d > x.f5
instance (x : S27) (d : Int) : Decidable (ww.out x d) := by unfold ww.out; infer_instance
def ww.f (k : Nat) (x : S27) (d u n : Int) (l : List Int) : Option Bool :=
  (cohortlaw24_lives.f k).bind fun t => if t = true then (if ww.out x d then some true else (ww.l k x l (min l.length 40) 0 d u n).bind fun _ => some true) else none

set_option maxHeartbeats 8000000 in
set_option maxRecDepth 100000 in
theorem ww.calls (k : Nat) (A0 : Option Addr) (c0 : Nat) (A1 : Option Addr) (c1 : Nat) (A2 : Option Addr) (c2 : Nat) (x : S27) (d0 u0 s0 : Int) (A : Option Addr) (c : Nat) (l : List Int) (r : Bool) (w : World)
    (h0 : Kd.C k95 w A0 x.f0.length x.f0) (hc0 : x.f0.length ≤ c0) (h1 : Kd.C k49 w A1 x.f18.length x.f18) (hc1 : x.f18.length ≤ c1) (h2 : Kd.C k97 w A2 x.f19.length x.f19) (hc2 : x.f19.length ≤ c2) (hl : Kd.C (Kd.int .i64) w A l.length l) (hlc : l.length ≤ c) (hll : l.length < 140737488355328) (h : ww.f k x d0 u0 s0 l = some r) :
    Calls Try.prog 3 #[.agg (ww.V A0 c0 A1 c1 A2 c2 x), .int .i64 d0, .int .u64 u0, .int .u64 s0, .slice A l.length c] w fun e w' => e = .returned (.bool r) ∧ Below w.heap.size w w' := by
  unfold ww.f at h
  obtain ⟨t, ht, h⟩ := Option.bind_eq_some_iff.mp h
  cases t with
  | false => rw [if_neg (by simp)] at h; cases h
  | true =>
  rw [if_pos rfl] at h
  have LV := Aside0.mk ht
  have MC := Aside0.mk (show ∀ (d u n m : Int) (r : Int × Int × Int) (W : World), Below w.heap.size w W → ww.m k x d u n m = some r → Calls Try.prog 7 #[.agg (ww.V A0 c0 A1 c1 A2 c2 x), .int .i64 d, .int .u64 u, .int .u64 n, .int .i64 m] W fun e w' => e = .returned (.tuple #[.int .i64 r.1, .int .u64 r.2.1, .int .i64 r.2.2]) ∧ Below W.heap.size W w' from fun d u n m r W hW hm =>
    want_Metric.calls k A0 c0 x.f0 x.f1 x.f2 x.f3 x.f4 x.f5 x.f6 x.f7 x.f8 x.f9 x.f10 x.f11 x.f12 x.f13 x.f14 x.f15 x.f16 x.f17 A1 c1 x.f18 A2 c2 x.f19 d u n m r.1 r.2.1 r.2.2 W (Kd.C_below h0 hW) hc0 (Kd.C_below h1 hW) hc1 (Kd.C_below h2 hW) hc2 hm)
  have GR := Aside0.mk (show ∀ (W : World), Below w.heap.size w W → Calls Try.prog 5 #[.agg (ww.V A0 c0 A1 c1 A2 c2 x)] W fun e w' => e = .returned (.bool (decide ((x.f18.length : Int) > 100 ∨ (x.f19.length : Int) > 100))) ∧ Below W.heap.size W w' from fun W hW =>
    cohortlaw24_great.calls A0 c0 x.f0 x.f1 x.f2 x.f3 x.f4 x.f5 x.f6 x.f7 x.f8 x.f9 x.f10 x.f11 x.f12 x.f13 x.f14 x.f15 x.f16 x.f17 A1 c1 x.f18 A2 c2 x.f19 _ W (Kd.C_below h0 hW) hc0 (Kd.C_below h1 hW) hc1 (Kd.C_below h2 hW) hc2 (by
      unfold cohortlaw24_great.f
      by_cases hq : (x.f18.length : Int) > 100
      · rw [if_pos hq, decide_eq_true (Or.inl hq)]
      · rw [if_neg hq]; simp only [hq, false_or]))
  have HL := Aside0.mk hl
  clear ht h0 hc0 h1 hc1 h2 hc2 hl
  have HB := Aside0.mk (Below.refl w.heap.size w)
  have KC := Aside0.mk (show ∀ (j : Nat) (v : Value), (ww.V A0 c0 A1 c1 A2 c2 x)[j]? = some v → ∀ (W : World), ∀ g, W.heap[g]? = some (.cells (ww.V A0 c0 A1 c1 A2 c2 x) 27 (0, 0)) → W.cell? ⟨g, j, none⟩ = some v from fun j v hv W g hg => (blk_cell hg j).trans hv)
  by_cases ho : ww.out x d0
  · rw [if_pos ho] at h
    cases h
    unfold ww.out at ho
    have HO := Aside0.mk ho
    clear ho
    by_cases hG : decide ((x.f18.length : Int) > 100 ∨ (x.f19.length : Int) > 100) = true
    · rw [hG] at GR
      clear hG
      go_enter Try.func3, Try.ntmps3
      go_wp2_with (first
        | ((with_reducible refine gate_dst (N := 5) rfl ?_); refine box_event ?hg (N := 5) ?hd (cs := ww.V A0 c0 A1 c1 A2 c2 x) (t := 27) ?hr ?_; (case hd => rfl); (case hg => rfl); (case hr => first | (go_simp; done) | (go_simp; rfl)); intro gb hg w1 hbox hb; have n0 := Aside0.mk (below_step HB.out hb); have BK := Aside0.mk hbox; have GG := Aside0.mk (show w.heap.size ≤ gb by omega); clear HB hb hbox hg; have HB := n0; clear n0)
        | ((with_reducible refine gate_dst (N := 16) rfl ?_); refine wpList_load_row rfl 27 (.tmp 5) rfl gb rfl 27 (ww.V A0 c0 A1 c1 A2 c2 x) (0, 0) _ (by (with_reducible repeat (first | refine blk_drewN ?_ _ | refine blk_drew ?_ | refine blk_alloc ?_ _)); exact BK.out) Try.underlying27 rfl (ww.info _ _ _ _ _ _ _) ?_)
        | (go_at_call 5; with_reducible refine (GR.out _ (by repeat (first | (with_reducible first | exact HB.out | apply below_alloc | apply pw_below_drewN | apply below_drew1) | exact HB.out))).mono ?_; rintro e w' ⟨rfl, hb⟩; have n0 := Aside0.mk (below_step (by repeat (first | (with_reducible first | exact HB.out | apply below_alloc | apply pw_below_drewN | apply below_drew1) | exact HB.out)) hb); have n1 := Aside0.mk (blk_below (by (with_reducible repeat (first | refine blk_drewN ?_ _ | refine blk_drew ?_ | refine blk_alloc ?_ _)); exact BK.out) hb); clear HB BK; have HB := n0; have BK := n1; clear n0 n1 hb; have k4 := KC.out 4 (.int .i64 x.f4) rfl _ _ BK.out; have k5 := KC.out 5 (.int .i64 x.f5) rfl _ _ BK.out)
        | (go_at_call 6; with_reducible refine (cohortlaw24_lives.calls k true _ LV.out).mono ?_; rintro e w' ⟨rfl, hb⟩; have n0 := Aside0.mk (below_step (by repeat (first | (with_reducible first | exact HB.out | apply below_alloc | apply pw_below_drewN | apply below_drew1) | exact HB.out)) hb); have n1 := Aside0.mk (blk_below (by (with_reducible repeat (first | refine blk_drewN ?_ _ | refine blk_drew ?_ | refine blk_alloc ?_ _)); exact BK.out) hb); clear HB BK; have HB := n0; have BK := n1; clear n0 n1 hb))
      go_ret
      exact ⟨rfl, by repeat (first | (with_reducible first | exact HB.out | apply below_alloc | apply pw_below_drewN | apply below_drew1) | exact HB.out)⟩
    · rw [Bool.not_eq_true] at hG
      rw [hG] at GR
      have HG := Aside0.mk (of_decide_eq_false hG)
      clear hG
      go_enter Try.func3, Try.ntmps3
      go_wp2_with (first
        | ((with_reducible refine gate_dst (N := 5) rfl ?_); refine box_event ?hg (N := 5) ?hd (cs := ww.V A0 c0 A1 c1 A2 c2 x) (t := 27) ?hr ?_; (case hd => rfl); (case hg => rfl); (case hr => first | (go_simp; done) | (go_simp; rfl)); intro gb hg w1 hbox hb; have n0 := Aside0.mk (below_step HB.out hb); have BK := Aside0.mk hbox; have GG := Aside0.mk (show w.heap.size ≤ gb by omega); clear HB hb hbox hg; have HB := n0; clear n0)
        | ((with_reducible refine gate_dst (N := 16) rfl ?_); refine wpList_load_row rfl 27 (.tmp 5) rfl gb rfl 27 (ww.V A0 c0 A1 c1 A2 c2 x) (0, 0) _ (by (with_reducible repeat (first | refine blk_drewN ?_ _ | refine blk_drew ?_ | refine blk_alloc ?_ _)); exact BK.out) Try.underlying27 rfl (ww.info _ _ _ _ _ _ _) ?_)
        | (go_at_call 5; with_reducible refine (GR.out _ (by repeat (first | (with_reducible first | exact HB.out | apply below_alloc | apply pw_below_drewN | apply below_drew1) | exact HB.out))).mono ?_; rintro e w' ⟨rfl, hb⟩; have n0 := Aside0.mk (below_step (by repeat (first | (with_reducible first | exact HB.out | apply below_alloc | apply pw_below_drewN | apply below_drew1) | exact HB.out)) hb); have n1 := Aside0.mk (blk_below (by (with_reducible repeat (first | refine blk_drewN ?_ _ | refine blk_drew ?_ | refine blk_alloc ?_ _)); exact BK.out) hb); clear HB BK; have HB := n0; have BK := n1; clear n0 n1 hb; have k4 := KC.out 4 (.int .i64 x.f4) rfl _ _ BK.out; have k5 := KC.out 5 (.int .i64 x.f5) rfl _ _ BK.out)
        | (go_at_call 6; with_reducible refine (cohortlaw24_lives.calls k true _ LV.out).mono ?_; rintro e w' ⟨rfl, hb⟩; have n0 := Aside0.mk (below_step (by repeat (first | (with_reducible first | exact HB.out | apply below_alloc | apply pw_below_drewN | apply below_drew1) | exact HB.out)) hb); have n1 := Aside0.mk (blk_below (by (with_reducible repeat (first | refine blk_drewN ?_ _ | refine blk_drew ?_ | refine blk_alloc ?_ _)); exact BK.out) hb); clear HB BK; have HB := n0; have BK := n1; clear n0 n1 hb))
      all_goals first
        | (go_ret; exact ⟨rfl, by repeat (first | (with_reducible first | exact HB.out | apply below_alloc | apply pw_below_drewN | apply below_drew1) | exact HB.out)⟩)
        | (exfalso; have h1 := HO.out; have h2 := HG.out; omega)
  · rw [if_neg ho] at h
    obtain ⟨_, hl0, h⟩ := Option.bind_eq_some_iff.mp h
    cases h
    unfold ww.out at ho
    rw [show decide ((x.f18.length : Int) > 100 ∨ (x.f19.length : Int) > 100) = false from decide_eq_false (by omega)] at GR
    have p1 : ¬ x.f4 < 0 := by omega
    have p2 : ¬ x.f5 < x.f4 := by omega
    have p3 : ¬ x.f5 > 65536 := by omega
    have p4 : ¬ d0 < x.f4 := by omega
    have p5 : ¬ d0 > x.f5 := by omega
    clear ho
    obtain ⟨M, hM⟩ : ∃ M, M = min l.length 40 := ⟨_, rfl⟩
    rw [← hM] at hl0
    have hM1 : M ≤ l.length := by rw [hM]; exact Nat.min_le_left _ _
    have hM2 : M ≤ 40 := by rw [hM]; exact Nat.min_le_right _ _
    have hM3 : M = l.length ∨ M = 40 := by omega
    have L0 := Aside0.mk hl0
    have HM := Aside0.mk (And.intro hM1 (And.intro hM2 hM3))
    clear hl0 hM hM1 hM2 hM3
    go_enter Try.func3, Try.ntmps3
    go_wp2_with (first
        | ((with_reducible refine gate_dst (N := 5) rfl ?_); refine box_event ?hg (N := 5) ?hd (cs := ww.V A0 c0 A1 c1 A2 c2 x) (t := 27) ?hr ?_; (case hd => rfl); (case hg => rfl); (case hr => first | (go_simp; done) | (go_simp; rfl)); intro gb hg w1 hbox hb; have n0 := Aside0.mk (below_step HB.out hb); have BK := Aside0.mk hbox; have GG := Aside0.mk (show w.heap.size ≤ gb by omega); clear HB hb hbox hg; have HB := n0; clear n0)
        | ((with_reducible refine gate_dst (N := 16) rfl ?_); refine wpList_load_row rfl 27 (.tmp 5) rfl gb rfl 27 (ww.V A0 c0 A1 c1 A2 c2 x) (0, 0) _ (by (with_reducible repeat (first | refine blk_drewN ?_ _ | refine blk_drew ?_ | refine blk_alloc ?_ _)); exact BK.out) Try.underlying27 rfl (ww.info _ _ _ _ _ _ _) ?_)
        | (go_at_call 5; with_reducible refine (GR.out _ (by repeat (first | (with_reducible first | exact HB.out | apply below_alloc | apply pw_below_drewN | apply below_drew1) | exact HB.out))).mono ?_; rintro e w' ⟨rfl, hb⟩; have n0 := Aside0.mk (below_step (by repeat (first | (with_reducible first | exact HB.out | apply below_alloc | apply pw_below_drewN | apply below_drew1) | exact HB.out)) hb); have n1 := Aside0.mk (blk_below (by (with_reducible repeat (first | refine blk_drewN ?_ _ | refine blk_drew ?_ | refine blk_alloc ?_ _)); exact BK.out) hb); clear HB BK; have HB := n0; have BK := n1; clear n0 n1 hb; have k4 := KC.out 4 (.int .i64 x.f4) rfl _ _ BK.out; have k5 := KC.out 5 (.int .i64 x.f5) rfl _ _ BK.out)
        | (go_at_call 6; with_reducible refine (cohortlaw24_lives.calls k true _ LV.out).mono ?_; rintro e w' ⟨rfl, hb⟩; have n0 := Aside0.mk (below_step (by repeat (first | (with_reducible first | exact HB.out | apply below_alloc | apply pw_below_drewN | apply below_drew1) | exact HB.out)) hb); have n1 := Aside0.mk (blk_below (by (with_reducible repeat (first | refine blk_drewN ?_ _ | refine blk_drew ?_ | refine blk_alloc ?_ _)); exact BK.out) hb); clear HB BK; have HB := n0; have BK := n1; clear n0 n1 hb))
    clear p1 p2 p3 p4 p5
    go_loopw [1, 3, 11, 12] (fun v1 v3 v11 v12 w' => ∃ (i : Nat) (d u n : Int), i ≤ M ∧ v12 = .int .i64 i ∧ v1 = .int .i64 d ∧ v11 = .int .u64 u ∧ v3 = .int .u64 n ∧ Aside0 (ww.l k x l (M - i) i d u n = some ()) ∧ Aside0 (Below w.heap.size w w') ∧ Aside0 (w'.heap[gb]? = some (.cells (ww.V A0 c0 A1 c1 A2 c2 x) 27 (0, 0)))) (fun _ _ _ v12 _ => 40 - (intOf v12).toNat)
    case atStart => exact ⟨0, d0, u0, s0, Nat.zero_le _, rfl, rfl, rfl, rfl, L0, HB, BK⟩
    case round =>
      clear HB BK
      obtain ⟨i, d, u, n, hi, rfl, rfl, rfl, rfl, LP, HB, BK⟩ := hrel
      by_cases hlt : i < M
      · have q1 : (i : Int) < (l.length : Int) := by have := HM.out.1; omega
        have q2 : (i : Int) < 40 := by have := HM.out.2.1; omega
        have q3 : (0 : Int) ≤ (i : Int) := by omega
        have q4 : i < l.length := by omega
        have q5 : wrap64 ((i : Int) + 1) = ((i + 1 : Nat) : Int) := by unfold wrap64; omega
        have LP2 := LP.out
        rw [show M - i = (M - (i + 1)) + 1 from by omega] at LP2
        simp only [ww.l] at LP2
        obtain ⟨⟨wM, tM, eM⟩, hm, h3⟩ := Option.bind_eq_some_iff.mp LP2
        simp only at h3
        clear LP LP2
        have MM := Aside0.mk hm
        clear hm
        obtain ⟨ad, hA, hel⟩ : ∃ ad : Addr, A = some ad ∧ wr.cell? (ad.add i) = some (.int .i64 (rd l (i : Int))) := by
          have h1 := Kd.reads_of_C (d := (0 : Int)) (show (Kd.scalar (Value.int .i64) (fun _ => rfl)).C wr A l.length l from Kd.C_below HL.out HB.out)
          obtain ⟨ad, e, hr⟩ := h1.2.2 (by omega)
          exact ⟨ad, e, by have := hr i q4; simpa [rd] using this⟩
        subst hA
        have HI := Aside0.mk hlt
        clear hlt hi
        by_cases he : eM = 0
        · subst he
          rw [if_neg (by simp)] at h3
          by_cases hc : x.f4 ≤ wM ∧ wM ≤ x.f5 ∧ ((wM = d ∧ tM = u) ∨ (wM ≠ d ∧ ¬ n < u ∧ tM = (n + x.f15) % 18446744073709551616))
          case neg => rw [if_neg hc] at h3; cases h3
          rw [if_pos hc] at h3
          have L3 := Aside0.mk h3
          clear h3
          obtain ⟨hc1, hc2, hc3⟩ := hc
          have p1 : ¬ wM < x.f4 := by omega
          have p2 : ¬ wM > x.f5 := by omega
          clear hc1 hc2
          rcases hc3 with ⟨rfl, rfl⟩ | ⟨hne, hnu, rfl⟩
          · by_cases hnu : n < tM
            all_goals
              go_wp2
              refine start_ (n := 16) (S := fun w' => w'.heap[gb]? = some (.cells (ww.V A0 c0 A1 c1 A2 c2 x) 27 (0, 0)) ∧ w'.cell? (ad.add i) = some (.int .i64 (rd l (i : Int)))) (ds := []) #[false, false, false, false, false, false, false, false, false, false, false, false, false, false, false, false] (by kernel_rfl) rfl rfl ⟨BK.out, hel⟩ (fun hHeld => ?_)
              refine pure_ (i := 1) (N := some 61) (v := ?_) (a' := ?_) #[false, true, false, false, false, false, false, false, false, false, false, false, false, false, false, false] rfl rfl (by kernel_rfl) (fun _ _ _ h => h) (Or.inl ⟨by rfl, ?_⟩) ?_ ?_
              rotate_left
              · intro w'
                go_simp
                with_reducible rfl
              rotate_left
              · simp only [Act.put, List.setIfInBounds_toArray, List.set_cons_zero, List.set_cons_succ, i64_w, i32_w]
                rfl
              refine pure_ (i := 2) (N := some 62) (v := ?_) (a' := ?_) #[false, true, true, false, false, false, false, false, false, false, false, false, false, false, false, false] rfl rfl (by kernel_rfl) (fun _ _ _ h => h) (Or.inl ⟨by rfl, ?_⟩) ?_ ?_
              rotate_left
              · intro w'
                go_simp
                with_reducible rfl
              rotate_left
              · simp only [Act.put, List.setIfInBounds_toArray, List.set_cons_zero, List.set_cons_succ, i64_w, i32_w]
                rfl
              refine pure_ (i := 3) (N := some 63) (v := ?_) (a' := ?_) #[false, true, true, true, false, false, false, false, false, false, false, false, false, false, false, false] rfl rfl (by kernel_rfl) (fun _ _ _ h => h) (Or.inl ⟨by rfl, ?_⟩) ?_ ?_
              rotate_left
              · intro w'
                go_simp
                with_reducible rfl
              rotate_left
              · simp only [Act.put, List.setIfInBounds_toArray, List.set_cons_zero, List.set_cons_succ, i64_w, i32_w]
                rfl
              refine pure_ (i := 4) (N := some 64) (v := ?_) (a' := ?_) #[false, true, true, true, true, false, false, false, false, false, false, false, false, false, false, false] rfl rfl (by kernel_rfl) (fun _ _ _ h => h) (Or.inl ⟨by rfl, ?_⟩) ?_ ?_
              rotate_left
              · intro w'
                go_simp
                with_reducible rfl
              rotate_left
              · simp only [Act.put, List.setIfInBounds_toArray, List.set_cons_zero, List.set_cons_succ, i64_w, i32_w]
                rfl
              refine pure_ (i := 5) (N := some 65) (v := ?_) (a' := ?_) #[false, true, true, true, true, true, false, false, false, false, false, false, false, false, false, false] rfl rfl (by kernel_rfl) (fun _ _ _ h => h) (Or.inl ⟨by rfl, ?_⟩) ?_ ?_
              rotate_left
              · intro w'
                go_simp
                with_reducible rfl
              rotate_left
              · simp only [Act.put, List.setIfInBounds_toArray, List.set_cons_zero, List.set_cons_succ, i64_w, i32_w]
                rfl
              refine pure_ (i := 6) (N := some 66) (v := ?_) (a' := ?_) #[false, true, true, true, true, true, true, false, false, false, false, false, false, false, false, false] rfl rfl (by kernel_rfl) (fun _ _ _ h => h) (Or.inl ⟨by rfl, ?_⟩) ?_ ?_
              rotate_left
              · intro w'
                go_simp
                with_reducible rfl
              rotate_left
              · simp only [Act.put, List.setIfInBounds_toArray, List.set_cons_zero, List.set_cons_succ, i64_w, i32_w]
                rfl
              refine take_ (i := 0) (N := some 60) (v := ?_) (a' := ?_) #[true, true, true, true, true, true, true, false, false, false, false, false, false, false, false, false] rfl rfl (by kernel_rfl) (fun _ _ _ h => h) (Or.inl ⟨by rfl, ?_⟩) hHeld ?_ ?_
              rotate_left
              · rintro w' ⟨s0, s1⟩
                refine ww.load_run gb (ww.V A0 c0 A1 c1 A2 c2 x) ?_ ?_ w' s0 (ww.info _ _ _ _ _ _ _)
                · rfl
                · rfl
              rotate_left
              · simp only [Act.put, List.setIfInBounds_toArray, List.set_cons_zero, List.set_cons_succ, i64_w, i32_w]
                rfl
              refine take_ (i := 7) (N := some 67) (v := ?_) (a' := ?_) #[true, true, true, true, true, true, true, true, false, false, false, false, false, false, false, false] rfl rfl (by kernel_rfl) (fun _ _ _ h => h) (Or.inl ⟨by rfl, ?_⟩) hHeld ?_ ?_
              rotate_left
              · rintro w' ⟨s0, s1⟩
                go_simp
                with_reducible rfl
              rotate_left
              · simp only [Act.put, List.setIfInBounds_toArray, List.set_cons_zero, List.set_cons_succ, i64_w, i32_w]
                rfl
              refine one_ (i := 8) (N := some 68) #[true, true, true, true, true, true, true, true, true, false, false, false, false, false, false, false] rfl rfl (by kernel_rfl) (by decide) (fun K hK => ?_)
              refine goes_ Try.func7 (by kernel_rfl) rfl #[.agg (ww.V A0 c0 A1 c1 A2 c2 x), .int .i64 wM, .int .u64 tM, .int .u64 n, .int .i64 (rd l (i : Int))] (by rfl) rfl rfl (by simp only [List.map_toArray, List.map_cons, List.map_nil]; rfl) ?_
              with_reducible refine (MC.out wM tM n (rd l (i : Int)) (wM, tM, 0) _ (by repeat (first | (with_reducible first | exact HB.out | apply below_alloc | apply pw_below_drewN | apply below_drew1) | exact HB.out)) MM.out).mono ?_
              rintro e w3 ⟨rfl, hb⟩
              have hel3 : w3.cell? (ad.add i) = some (.int .i64 (rd l (i : Int))) := (hb.cell (World.block_lt_of_cell? _ _ hHeld.2)).trans hHeld.2
              have n0 := Aside0.mk (below_step (by repeat (first | (with_reducible first | exact HB.out | apply below_alloc | apply pw_below_drewN | apply below_drew1) | exact HB.out)) hb); have n1 := Aside0.mk (blk_below (by (with_reducible repeat (first | refine blk_drewN ?_ _ | refine blk_drew ?_ | refine blk_alloc ?_ _)); exact BK.out) hb); clear HB BK; have HB := n0; have BK := n1; clear n0 n1 hb
              refine ⟨_, rfl, ?_⟩
              refine hK.out _ _ ⟨BK.out, hel3⟩ (fun hHeld => ?_)
              clear hK K
              refine norm_ (a' := ?_) ?_ ?_
              rotate_left
              · show Act.put _ (some 68) _ = _
                simp only [Act.put, List.setIfInBounds_toArray, List.set_cons_zero, List.set_cons_succ, i64_w, i32_w]
                rfl
              refine pure_ (i := 9) (N := some 59) (v := ?_) (a' := ?_) #[true, true, true, true, true, true, true, true, true, true, false, false, false, false, false, false] rfl rfl (by kernel_rfl) (fun _ _ _ h => h) (Or.inl ⟨by rfl, ?_⟩) ?_ ?_
              rotate_left
              · intro w'
                go_simp
                with_reducible rfl
              rotate_left
              · simp only [Act.put, List.setIfInBounds_toArray, List.set_cons_zero, List.set_cons_succ, i64_w, i32_w]
                rfl
              refine pure_ (i := 10) (N := some 69) (v := ?_) (a' := ?_) #[true, true, true, true, true, true, true, true, true, true, true, false, false, false, false, false] rfl rfl (by kernel_rfl) (fun _ _ _ h => h) (Or.inl ⟨by rfl, ?_⟩) ?_ ?_
              rotate_left
              · intro w'
                go_simp
                with_reducible rfl
              rotate_left
              · simp only [Act.put, List.setIfInBounds_toArray, List.set_cons_zero, List.set_cons_succ, i64_w, i32_w]
                rfl
              refine pure_ (i := 11) (N := some 70) (v := ?_) (a' := ?_) #[true, true, true, true, true, true, true, true, true, true, true, true, false, false, false, false] rfl rfl (by kernel_rfl) (fun _ _ _ h => h) (Or.inl ⟨by rfl, ?_⟩) ?_ ?_
              rotate_left
              · intro w'
                go_simp
                with_reducible rfl
              rotate_left
              · simp only [Act.put, List.setIfInBounds_toArray, List.set_cons_zero, List.set_cons_succ, i64_w, i32_w]
                rfl
              refine pure_ (i := 12) (N := some 71) (v := ?_) (a' := ?_) #[true, true, true, true, true, true, true, true, true, true, true, true, true, false, false, false] rfl rfl (by kernel_rfl) (fun _ _ _ h => h) (Or.inl ⟨by rfl, ?_⟩) ?_ ?_
              rotate_left
              · intro w'
                go_simp
                with_reducible rfl
              rotate_left
              · simp only [Act.put, List.setIfInBounds_toArray, List.set_cons_zero, List.set_cons_succ, i64_w, i32_w]
                rfl
              refine pure_ (i := 13) (N := some 13) (v := ?_) (a' := ?_) #[true, true, true, true, true, true, true, true, true, true, true, true, true, true, false, false] rfl rfl (by kernel_rfl) (fun _ _ _ h => h) (Or.inl ⟨by rfl, ?_⟩) ?_ ?_
              rotate_left
              · intro w'
                go_simp
                with_reducible rfl
              rotate_left
              · simp only [Act.put, List.setIfInBounds_toArray, List.set_cons_zero, List.set_cons_succ, i64_w, i32_w]
                rfl
              refine pure_ (i := 14) (N := some 14) (v := ?_) (a' := ?_) #[true, true, true, true, true, true, true, true, true, true, true, true, true, true, true, false] rfl rfl (by kernel_rfl) (fun _ _ _ h => h) (Or.inl ⟨by rfl, ?_⟩) ?_ ?_
              rotate_left
              · intro w'
                go_simp
                with_reducible rfl
              rotate_left
              · simp only [Act.put, List.setIfInBounds_toArray, List.set_cons_zero, List.set_cons_succ, i64_w, i32_w]
                rfl
              refine pure_ (i := 15) (N := some 15) (v := ?_) (a' := ?_) #[true, true, true, true, true, true, true, true, true, true, true, true, true, true, true, true] rfl rfl (by kernel_rfl) (fun _ _ _ h => h) (Or.inl ⟨by rfl, ?_⟩) ?_ ?_
              rotate_left
              · intro w'
                go_simp
                with_reducible rfl
              rotate_left
              · simp only [Act.put, List.setIfInBounds_toArray, List.set_cons_zero, List.set_cons_succ, i64_w, i32_w]
                rfl
              refine done_ (by kernel_rfl) ?_

              have k4 := KC.out 4 (.int .i64 x.f4) rfl _ _ BK.out
              have k5 := KC.out 5 (.int .i64 x.f5) rfl _ _ BK.out
              have k15 := KC.out 15 (.int .u64 x.f15) rfl _ _ BK.out
              go_wp2
              exact ⟨⟨i + 1, wM, tM, (n + 1) % 18446744073709551616, HI.out, by rw [Int.natCast_add]; rfl, rfl, rfl, by rw [IntKind.wrap_u64], L3, HB, BK⟩, by simp only [intOf]; omega⟩
          · have hne1 : (wM == d) = false := by simpa using hne
            have hne2 : (wM != d) = true := by simpa using hne
            have hne3 : decide (n < u) = false := decide_eq_false hnu
            go_wp2
            refine start_ (n := 16) (S := fun w' => w'.heap[gb]? = some (.cells (ww.V A0 c0 A1 c1 A2 c2 x) 27 (0, 0)) ∧ w'.cell? (ad.add i) = some (.int .i64 (rd l (i : Int)))) (ds := []) #[false, false, false, false, false, false, false, false, false, false, false, false, false, false, false, false] (by kernel_rfl) rfl rfl ⟨BK.out, hel⟩ (fun hHeld => ?_)
            refine pure_ (i := 1) (N := some 61) (v := ?_) (a' := ?_) #[false, true, false, false, false, false, false, false, false, false, false, false, false, false, false, false] rfl rfl (by kernel_rfl) (fun _ _ _ h => h) (Or.inl ⟨by rfl, ?_⟩) ?_ ?_
            rotate_left
            · intro w'
              go_simp
              with_reducible rfl
            rotate_left
            · simp only [Act.put, List.setIfInBounds_toArray, List.set_cons_zero, List.set_cons_succ, i64_w, i32_w]
              rfl
            refine pure_ (i := 2) (N := some 62) (v := ?_) (a' := ?_) #[false, true, true, false, false, false, false, false, false, false, false, false, false, false, false, false] rfl rfl (by kernel_rfl) (fun _ _ _ h => h) (Or.inl ⟨by rfl, ?_⟩) ?_ ?_
            rotate_left
            · intro w'
              go_simp
              with_reducible rfl
            rotate_left
            · simp only [Act.put, List.setIfInBounds_toArray, List.set_cons_zero, List.set_cons_succ, i64_w, i32_w]
              rfl
            refine pure_ (i := 3) (N := some 63) (v := ?_) (a' := ?_) #[false, true, true, true, false, false, false, false, false, false, false, false, false, false, false, false] rfl rfl (by kernel_rfl) (fun _ _ _ h => h) (Or.inl ⟨by rfl, ?_⟩) ?_ ?_
            rotate_left
            · intro w'
              go_simp
              with_reducible rfl
            rotate_left
            · simp only [Act.put, List.setIfInBounds_toArray, List.set_cons_zero, List.set_cons_succ, i64_w, i32_w]
              rfl
            refine pure_ (i := 4) (N := some 64) (v := ?_) (a' := ?_) #[false, true, true, true, true, false, false, false, false, false, false, false, false, false, false, false] rfl rfl (by kernel_rfl) (fun _ _ _ h => h) (Or.inl ⟨by rfl, ?_⟩) ?_ ?_
            rotate_left
            · intro w'
              go_simp
              with_reducible rfl
            rotate_left
            · simp only [Act.put, List.setIfInBounds_toArray, List.set_cons_zero, List.set_cons_succ, i64_w, i32_w]
              rfl
            refine pure_ (i := 5) (N := some 65) (v := ?_) (a' := ?_) #[false, true, true, true, true, true, false, false, false, false, false, false, false, false, false, false] rfl rfl (by kernel_rfl) (fun _ _ _ h => h) (Or.inl ⟨by rfl, ?_⟩) ?_ ?_
            rotate_left
            · intro w'
              go_simp
              with_reducible rfl
            rotate_left
            · simp only [Act.put, List.setIfInBounds_toArray, List.set_cons_zero, List.set_cons_succ, i64_w, i32_w]
              rfl
            refine pure_ (i := 6) (N := some 66) (v := ?_) (a' := ?_) #[false, true, true, true, true, true, true, false, false, false, false, false, false, false, false, false] rfl rfl (by kernel_rfl) (fun _ _ _ h => h) (Or.inl ⟨by rfl, ?_⟩) ?_ ?_
            rotate_left
            · intro w'
              go_simp
              with_reducible rfl
            rotate_left
            · simp only [Act.put, List.setIfInBounds_toArray, List.set_cons_zero, List.set_cons_succ, i64_w, i32_w]
              rfl
            refine take_ (i := 0) (N := some 60) (v := ?_) (a' := ?_) #[true, true, true, true, true, true, true, false, false, false, false, false, false, false, false, false] rfl rfl (by kernel_rfl) (fun _ _ _ h => h) (Or.inl ⟨by rfl, ?_⟩) hHeld ?_ ?_
            rotate_left
            · rintro w' ⟨s0, s1⟩
              refine ww.load_run gb (ww.V A0 c0 A1 c1 A2 c2 x) ?_ ?_ w' s0 (ww.info _ _ _ _ _ _ _)
              · rfl
              · rfl
            rotate_left
            · simp only [Act.put, List.setIfInBounds_toArray, List.set_cons_zero, List.set_cons_succ, i64_w, i32_w]
              rfl
            refine take_ (i := 7) (N := some 67) (v := ?_) (a' := ?_) #[true, true, true, true, true, true, true, true, false, false, false, false, false, false, false, false] rfl rfl (by kernel_rfl) (fun _ _ _ h => h) (Or.inl ⟨by rfl, ?_⟩) hHeld ?_ ?_
            rotate_left
            · rintro w' ⟨s0, s1⟩
              go_simp
              with_reducible rfl
            rotate_left
            · simp only [Act.put, List.setIfInBounds_toArray, List.set_cons_zero, List.set_cons_succ, i64_w, i32_w]
              rfl
            refine one_ (i := 8) (N := some 68) #[true, true, true, true, true, true, true, true, true, false, false, false, false, false, false, false] rfl rfl (by kernel_rfl) (by decide) (fun K hK => ?_)
            refine goes_ Try.func7 (by kernel_rfl) rfl #[.agg (ww.V A0 c0 A1 c1 A2 c2 x), .int .i64 d, .int .u64 u, .int .u64 n, .int .i64 (rd l (i : Int))] (by rfl) rfl rfl (by simp only [List.map_toArray, List.map_cons, List.map_nil]; rfl) ?_
            with_reducible refine (MC.out d u n (rd l (i : Int)) (wM, ((n + x.f15) % 18446744073709551616), 0) _ (by repeat (first | (with_reducible first | exact HB.out | apply below_alloc | apply pw_below_drewN | apply below_drew1) | exact HB.out)) MM.out).mono ?_
            rintro e w3 ⟨rfl, hb⟩
            have hel3 : w3.cell? (ad.add i) = some (.int .i64 (rd l (i : Int))) := (hb.cell (World.block_lt_of_cell? _ _ hHeld.2)).trans hHeld.2
            have n0 := Aside0.mk (below_step (by repeat (first | (with_reducible first | exact HB.out | apply below_alloc | apply pw_below_drewN | apply below_drew1) | exact HB.out)) hb); have n1 := Aside0.mk (blk_below (by (with_reducible repeat (first | refine blk_drewN ?_ _ | refine blk_drew ?_ | refine blk_alloc ?_ _)); exact BK.out) hb); clear HB BK; have HB := n0; have BK := n1; clear n0 n1 hb
            refine ⟨_, rfl, ?_⟩
            refine hK.out _ _ ⟨BK.out, hel3⟩ (fun hHeld => ?_)
            clear hK K
            refine norm_ (a' := ?_) ?_ ?_
            rotate_left
            · show Act.put _ (some 68) _ = _
              simp only [Act.put, List.setIfInBounds_toArray, List.set_cons_zero, List.set_cons_succ, i64_w, i32_w]
              rfl
            refine pure_ (i := 9) (N := some 59) (v := ?_) (a' := ?_) #[true, true, true, true, true, true, true, true, true, true, false, false, false, false, false, false] rfl rfl (by kernel_rfl) (fun _ _ _ h => h) (Or.inl ⟨by rfl, ?_⟩) ?_ ?_
            rotate_left
            · intro w'
              go_simp
              with_reducible rfl
            rotate_left
            · simp only [Act.put, List.setIfInBounds_toArray, List.set_cons_zero, List.set_cons_succ, i64_w, i32_w]
              rfl
            refine pure_ (i := 10) (N := some 69) (v := ?_) (a' := ?_) #[true, true, true, true, true, true, true, true, true, true, true, false, false, false, false, false] rfl rfl (by kernel_rfl) (fun _ _ _ h => h) (Or.inl ⟨by rfl, ?_⟩) ?_ ?_
            rotate_left
            · intro w'
              go_simp
              with_reducible rfl
            rotate_left
            · simp only [Act.put, List.setIfInBounds_toArray, List.set_cons_zero, List.set_cons_succ, i64_w, i32_w]
              rfl
            refine pure_ (i := 11) (N := some 70) (v := ?_) (a' := ?_) #[true, true, true, true, true, true, true, true, true, true, true, true, false, false, false, false] rfl rfl (by kernel_rfl) (fun _ _ _ h => h) (Or.inl ⟨by rfl, ?_⟩) ?_ ?_
            rotate_left
            · intro w'
              go_simp
              with_reducible rfl
            rotate_left
            · simp only [Act.put, List.setIfInBounds_toArray, List.set_cons_zero, List.set_cons_succ, i64_w, i32_w]
              rfl
            refine pure_ (i := 12) (N := some 71) (v := ?_) (a' := ?_) #[true, true, true, true, true, true, true, true, true, true, true, true, true, false, false, false] rfl rfl (by kernel_rfl) (fun _ _ _ h => h) (Or.inl ⟨by rfl, ?_⟩) ?_ ?_
            rotate_left
            · intro w'
              go_simp
              with_reducible rfl
            rotate_left
            · simp only [Act.put, List.setIfInBounds_toArray, List.set_cons_zero, List.set_cons_succ, i64_w, i32_w]
              rfl
            refine pure_ (i := 13) (N := some 13) (v := ?_) (a' := ?_) #[true, true, true, true, true, true, true, true, true, true, true, true, true, true, false, false] rfl rfl (by kernel_rfl) (fun _ _ _ h => h) (Or.inl ⟨by rfl, ?_⟩) ?_ ?_
            rotate_left
            · intro w'
              go_simp
              with_reducible rfl
            rotate_left
            · simp only [Act.put, List.setIfInBounds_toArray, List.set_cons_zero, List.set_cons_succ, i64_w, i32_w]
              rfl
            refine pure_ (i := 14) (N := some 14) (v := ?_) (a' := ?_) #[true, true, true, true, true, true, true, true, true, true, true, true, true, true, true, false] rfl rfl (by kernel_rfl) (fun _ _ _ h => h) (Or.inl ⟨by rfl, ?_⟩) ?_ ?_
            rotate_left
            · intro w'
              go_simp
              with_reducible rfl
            rotate_left
            · simp only [Act.put, List.setIfInBounds_toArray, List.set_cons_zero, List.set_cons_succ, i64_w, i32_w]
              rfl
            refine pure_ (i := 15) (N := some 15) (v := ?_) (a' := ?_) #[true, true, true, true, true, true, true, true, true, true, true, true, true, true, true, true] rfl rfl (by kernel_rfl) (fun _ _ _ h => h) (Or.inl ⟨by rfl, ?_⟩) ?_ ?_
            rotate_left
            · intro w'
              go_simp
              with_reducible rfl
            rotate_left
            · simp only [Act.put, List.setIfInBounds_toArray, List.set_cons_zero, List.set_cons_succ, i64_w, i32_w]
              rfl
            refine done_ (by kernel_rfl) ?_

            have k4 := KC.out 4 (.int .i64 x.f4) rfl _ _ BK.out
            have k5 := KC.out 5 (.int .i64 x.f5) rfl _ _ BK.out
            have k15 := KC.out 15 (.int .u64 x.f15) rfl _ _ BK.out
            go_wp2
            exact ⟨⟨i + 1, wM, (n + x.f15) % 18446744073709551616, (n + 1) % 18446744073709551616, HI.out, by rw [Int.natCast_add]; rfl, rfl, by rw [IntKind.wrap_u64], by rw [IntKind.wrap_u64], L3, HB, BK⟩, by simp only [intOf]; omega⟩
        · rw [if_pos he] at h3
          by_cases hz : wM = 0 ∧ tM = 0
          case neg => rw [if_neg hz] at h3; cases h3
          rw [if_pos hz] at h3
          obtain ⟨rfl, rfl⟩ := hz
          have L3 := Aside0.mk h3
          clear h3
          have he1 : (eM == 0) = false := by simpa using he
          have he2 : (eM != 0) = true := by simpa using he
          go_wp2
          refine start_ (n := 16) (S := fun w' => w'.heap[gb]? = some (.cells (ww.V A0 c0 A1 c1 A2 c2 x) 27 (0, 0)) ∧ w'.cell? (ad.add i) = some (.int .i64 (rd l (i : Int)))) (ds := []) #[false, false, false, false, false, false, false, false, false, false, false, false, false, false, false, false] (by kernel_rfl) rfl rfl ⟨BK.out, hel⟩ (fun hHeld => ?_)
          refine pure_ (i := 1) (N := some 61) (v := ?_) (a' := ?_) #[false, true, false, false, false, false, false, false, false, false, false, false, false, false, false, false] rfl rfl (by kernel_rfl) (fun _ _ _ h => h) (Or.inl ⟨by rfl, ?_⟩) ?_ ?_
          rotate_left
          · intro w'
            go_simp
            with_reducible rfl
          rotate_left
          · simp only [Act.put, List.setIfInBounds_toArray, List.set_cons_zero, List.set_cons_succ, i64_w, i32_w]
            rfl
          refine pure_ (i := 2) (N := some 62) (v := ?_) (a' := ?_) #[false, true, true, false, false, false, false, false, false, false, false, false, false, false, false, false] rfl rfl (by kernel_rfl) (fun _ _ _ h => h) (Or.inl ⟨by rfl, ?_⟩) ?_ ?_
          rotate_left
          · intro w'
            go_simp
            with_reducible rfl
          rotate_left
          · simp only [Act.put, List.setIfInBounds_toArray, List.set_cons_zero, List.set_cons_succ, i64_w, i32_w]
            rfl
          refine pure_ (i := 3) (N := some 63) (v := ?_) (a' := ?_) #[false, true, true, true, false, false, false, false, false, false, false, false, false, false, false, false] rfl rfl (by kernel_rfl) (fun _ _ _ h => h) (Or.inl ⟨by rfl, ?_⟩) ?_ ?_
          rotate_left
          · intro w'
            go_simp
            with_reducible rfl
          rotate_left
          · simp only [Act.put, List.setIfInBounds_toArray, List.set_cons_zero, List.set_cons_succ, i64_w, i32_w]
            rfl
          refine pure_ (i := 4) (N := some 64) (v := ?_) (a' := ?_) #[false, true, true, true, true, false, false, false, false, false, false, false, false, false, false, false] rfl rfl (by kernel_rfl) (fun _ _ _ h => h) (Or.inl ⟨by rfl, ?_⟩) ?_ ?_
          rotate_left
          · intro w'
            go_simp
            with_reducible rfl
          rotate_left
          · simp only [Act.put, List.setIfInBounds_toArray, List.set_cons_zero, List.set_cons_succ, i64_w, i32_w]
            rfl
          refine pure_ (i := 5) (N := some 65) (v := ?_) (a' := ?_) #[false, true, true, true, true, true, false, false, false, false, false, false, false, false, false, false] rfl rfl (by kernel_rfl) (fun _ _ _ h => h) (Or.inl ⟨by rfl, ?_⟩) ?_ ?_
          rotate_left
          · intro w'
            go_simp
            with_reducible rfl
          rotate_left
          · simp only [Act.put, List.setIfInBounds_toArray, List.set_cons_zero, List.set_cons_succ, i64_w, i32_w]
            rfl
          refine pure_ (i := 6) (N := some 66) (v := ?_) (a' := ?_) #[false, true, true, true, true, true, true, false, false, false, false, false, false, false, false, false] rfl rfl (by kernel_rfl) (fun _ _ _ h => h) (Or.inl ⟨by rfl, ?_⟩) ?_ ?_
          rotate_left
          · intro w'
            go_simp
            with_reducible rfl
          rotate_left
          · simp only [Act.put, List.setIfInBounds_toArray, List.set_cons_zero, List.set_cons_succ, i64_w, i32_w]
            rfl
          refine take_ (i := 0) (N := some 60) (v := ?_) (a' := ?_) #[true, true, true, true, true, true, true, false, false, false, false, false, false, false, false, false] rfl rfl (by kernel_rfl) (fun _ _ _ h => h) (Or.inl ⟨by rfl, ?_⟩) hHeld ?_ ?_
          rotate_left
          · rintro w' ⟨s0, s1⟩
            refine ww.load_run gb (ww.V A0 c0 A1 c1 A2 c2 x) ?_ ?_ w' s0 (ww.info _ _ _ _ _ _ _)
            · rfl
            · rfl
          rotate_left
          · simp only [Act.put, List.setIfInBounds_toArray, List.set_cons_zero, List.set_cons_succ, i64_w, i32_w]
            rfl
          refine take_ (i := 7) (N := some 67) (v := ?_) (a' := ?_) #[true, true, true, true, true, true, true, true, false, false, false, false, false, false, false, false] rfl rfl (by kernel_rfl) (fun _ _ _ h => h) (Or.inl ⟨by rfl, ?_⟩) hHeld ?_ ?_
          rotate_left
          · rintro w' ⟨s0, s1⟩
            go_simp
            with_reducible rfl
          rotate_left
          · simp only [Act.put, List.setIfInBounds_toArray, List.set_cons_zero, List.set_cons_succ, i64_w, i32_w]
            rfl
          refine one_ (i := 8) (N := some 68) #[true, true, true, true, true, true, true, true, true, false, false, false, false, false, false, false] rfl rfl (by kernel_rfl) (by decide) (fun K hK => ?_)
          refine goes_ Try.func7 (by kernel_rfl) rfl #[.agg (ww.V A0 c0 A1 c1 A2 c2 x), .int .i64 d, .int .u64 u, .int .u64 n, .int .i64 (rd l (i : Int))] (by rfl) rfl rfl (by simp only [List.map_toArray, List.map_cons, List.map_nil]; rfl) ?_
          with_reducible refine (MC.out d u n (rd l (i : Int)) (0, 0, eM) _ (by repeat (first | (with_reducible first | exact HB.out | apply below_alloc | apply pw_below_drewN | apply below_drew1) | exact HB.out)) MM.out).mono ?_
          rintro e w3 ⟨rfl, hb⟩
          have hel3 : w3.cell? (ad.add i) = some (.int .i64 (rd l (i : Int))) := (hb.cell (World.block_lt_of_cell? _ _ hHeld.2)).trans hHeld.2
          have n0 := Aside0.mk (below_step (by repeat (first | (with_reducible first | exact HB.out | apply below_alloc | apply pw_below_drewN | apply below_drew1) | exact HB.out)) hb); have n1 := Aside0.mk (blk_below (by (with_reducible repeat (first | refine blk_drewN ?_ _ | refine blk_drew ?_ | refine blk_alloc ?_ _)); exact BK.out) hb); clear HB BK; have HB := n0; have BK := n1; clear n0 n1 hb
          refine ⟨_, rfl, ?_⟩
          refine hK.out _ _ ⟨BK.out, hel3⟩ (fun hHeld => ?_)
          clear hK K
          refine norm_ (a' := ?_) ?_ ?_
          rotate_left
          · show Act.put _ (some 68) _ = _
            simp only [Act.put, List.setIfInBounds_toArray, List.set_cons_zero, List.set_cons_succ, i64_w, i32_w]
            rfl
          refine pure_ (i := 9) (N := some 59) (v := ?_) (a' := ?_) #[true, true, true, true, true, true, true, true, true, true, false, false, false, false, false, false] rfl rfl (by kernel_rfl) (fun _ _ _ h => h) (Or.inl ⟨by rfl, ?_⟩) ?_ ?_
          rotate_left
          · intro w'
            go_simp
            with_reducible rfl
          rotate_left
          · simp only [Act.put, List.setIfInBounds_toArray, List.set_cons_zero, List.set_cons_succ, i64_w, i32_w]
            rfl
          refine pure_ (i := 10) (N := some 69) (v := ?_) (a' := ?_) #[true, true, true, true, true, true, true, true, true, true, true, false, false, false, false, false] rfl rfl (by kernel_rfl) (fun _ _ _ h => h) (Or.inl ⟨by rfl, ?_⟩) ?_ ?_
          rotate_left
          · intro w'
            go_simp
            with_reducible rfl
          rotate_left
          · simp only [Act.put, List.setIfInBounds_toArray, List.set_cons_zero, List.set_cons_succ, i64_w, i32_w]
            rfl
          refine pure_ (i := 11) (N := some 70) (v := ?_) (a' := ?_) #[true, true, true, true, true, true, true, true, true, true, true, true, false, false, false, false] rfl rfl (by kernel_rfl) (fun _ _ _ h => h) (Or.inl ⟨by rfl, ?_⟩) ?_ ?_
          rotate_left
          · intro w'
            go_simp
            with_reducible rfl
          rotate_left
          · simp only [Act.put, List.setIfInBounds_toArray, List.set_cons_zero, List.set_cons_succ, i64_w, i32_w]
            rfl
          refine pure_ (i := 12) (N := some 71) (v := ?_) (a' := ?_) #[true, true, true, true, true, true, true, true, true, true, true, true, true, false, false, false] rfl rfl (by kernel_rfl) (fun _ _ _ h => h) (Or.inl ⟨by rfl, ?_⟩) ?_ ?_
          rotate_left
          · intro w'
            go_simp
            with_reducible rfl
          rotate_left
          · simp only [Act.put, List.setIfInBounds_toArray, List.set_cons_zero, List.set_cons_succ, i64_w, i32_w]
            rfl
          refine pure_ (i := 13) (N := some 13) (v := ?_) (a' := ?_) #[true, true, true, true, true, true, true, true, true, true, true, true, true, true, false, false] rfl rfl (by kernel_rfl) (fun _ _ _ h => h) (Or.inl ⟨by rfl, ?_⟩) ?_ ?_
          rotate_left
          · intro w'
            go_simp
            with_reducible rfl
          rotate_left
          · simp only [Act.put, List.setIfInBounds_toArray, List.set_cons_zero, List.set_cons_succ, i64_w, i32_w]
            rfl
          refine pure_ (i := 14) (N := some 14) (v := ?_) (a' := ?_) #[true, true, true, true, true, true, true, true, true, true, true, true, true, true, true, false] rfl rfl (by kernel_rfl) (fun _ _ _ h => h) (Or.inl ⟨by rfl, ?_⟩) ?_ ?_
          rotate_left
          · intro w'
            go_simp
            with_reducible rfl
          rotate_left
          · simp only [Act.put, List.setIfInBounds_toArray, List.set_cons_zero, List.set_cons_succ, i64_w, i32_w]
            rfl
          refine pure_ (i := 15) (N := some 15) (v := ?_) (a' := ?_) #[true, true, true, true, true, true, true, true, true, true, true, true, true, true, true, true] rfl rfl (by kernel_rfl) (fun _ _ _ h => h) (Or.inl ⟨by rfl, ?_⟩) ?_ ?_
          rotate_left
          · intro w'
            go_simp
            with_reducible rfl
          rotate_left
          · simp only [Act.put, List.setIfInBounds_toArray, List.set_cons_zero, List.set_cons_succ, i64_w, i32_w]
            rfl
          refine done_ (by kernel_rfl) ?_

          go_wp2
          exact ⟨⟨i + 1, d, u, n, HI.out, by rw [Int.natCast_add]; rfl, rfl, rfl, rfl, L3, HB, BK⟩, by simp only [intOf]; omega⟩
      · have him : i = M := Nat.le_antisymm hi (Nat.le_of_not_lt hlt)
        subst him
        rcases HM.out.2.2 with h5 | h5
        · have q1 : ¬ (i : Int) < (l.length : Int) := by omega
          clear hi hlt
          have H5 := Aside0.mk h5
          clear h5
          go_wp2_with (go_at_call 6; with_reducible refine (cohortlaw24_lives.calls k true _ LV.out).mono ?_; rintro e w' ⟨rfl, hb⟩; have n0 := Aside0.mk (below_step (by repeat (first | (with_reducible first | exact HB.out | apply below_alloc | apply pw_below_drewN | apply below_drew1) | exact HB.out)) hb); have n1 := Aside0.mk (blk_below (by (with_reducible repeat (first | refine blk_drewN ?_ _ | refine blk_drew ?_ | refine blk_alloc ?_ _)); exact BK.out) hb); clear HB BK; have HB := n0; have BK := n1; clear n0 n1 hb)
          go_ret
          exact ⟨rfl, by repeat (first | (with_reducible first | exact HB.out | apply below_alloc | apply pw_below_drewN | apply below_drew1) | exact HB.out)⟩
        · have q2 : ¬ (i : Int) < 40 := by omega
          clear hi hlt
          have H5 := Aside0.mk h5
          clear h5
          go_wp2_with (go_at_call 6; with_reducible refine (cohortlaw24_lives.calls k true _ LV.out).mono ?_; rintro e w' ⟨rfl, hb⟩; have n0 := Aside0.mk (below_step (by repeat (first | (with_reducible first | exact HB.out | apply below_alloc | apply pw_below_drewN | apply below_drew1) | exact HB.out)) hb); have n1 := Aside0.mk (blk_below (by (with_reducible repeat (first | refine blk_drewN ?_ _ | refine blk_drew ?_ | refine blk_alloc ?_ _)); exact BK.out) hb); clear HB BK; have HB := n0; have BK := n1; clear n0 n1 hb)
          all_goals go_ret
          all_goals exact ⟨rfl, by repeat (first | (with_reducible first | exact HB.out | apply below_alloc | apply pw_below_drewN | apply below_drew1) | exact HB.out)⟩

def cohortlaw24_WantWithin.f (k : Nat) (l0_0 : List (S95)) (a0_1 : Int) (a0_2 : Int) (a0_3 : Bool) (a0_4 : Int) (a0_5 : Int) (a0_6 : Int) (a0_7 : Int) (a0_8 : Int) (a0_9 : Int) (a0_10 : Int) (a0_11 : Int) (a0_12 : Int) (a0_13 : Int) (a0_14 : Int) (a0_15 : Int) (a0_16 : Bool) (a0_17 : Int) (l0_18 : List (S49)) (l0_19 : List (S97)) (a1 a2 a3 : Int) (l4 : List Int) : Option Bool := if l4.length < 140737488355328 then ww.f k ⟨l0_0, a0_1, a0_2, a0_3, a0_4, a0_5, a0_6, a0_7, a0_8, a0_9, a0_10, a0_11, a0_12, a0_13, a0_14, a0_15, a0_16, a0_17, l0_18, l0_19⟩ a1 a2 a3 l4 else none
theorem cohortlaw24_WantWithin.calls (k : Nat) (A0_0 : Option Addr) (c0_0 : Nat) (l0_0 : List (S95)) (a0_1 : Int) (a0_2 : Int) (a0_3 : Bool) (a0_4 : Int) (a0_5 : Int) (a0_6 : Int) (a0_7 : Int) (a0_8 : Int) (a0_9 : Int) (a0_10 : Int) (a0_11 : Int) (a0_12 : Int) (a0_13 : Int) (a0_14 : Int) (a0_15 : Int) (a0_16 : Bool) (a0_17 : Int) (A0_18 : Option Addr) (c0_18 : Nat) (l0_18 : List (S49)) (A0_19 : Option Addr) (c0_19 : Nat) (l0_19 : List (S97)) (a1 a2 a3 : Int) (A4 : Option Addr) (c4 : Nat) (l4 : List Int) (r : Bool) (w : World) (hr0_0 : Kd.C k95 w A0_0 l0_0.length l0_0) (hc0_0 : l0_0.length ≤ c0_0) (hr0_18 : Kd.C k49 w A0_18 l0_18.length l0_18) (hc0_18 : l0_18.length ≤ c0_18) (hr0_19 : Kd.C k97 w A0_19 l0_19.length l0_19) (hc0_19 : l0_19.length ≤ c0_19) (hr4 : Kd.C (Kd.int .i64) w A4 l4.length l4) (hc4 : l4.length ≤ c4) (h : cohortlaw24_WantWithin.f k l0_0 a0_1 a0_2 a0_3 a0_4 a0_5 a0_6 a0_7 a0_8 a0_9 a0_10 a0_11 a0_12 a0_13 a0_14 a0_15 a0_16 a0_17 l0_18 l0_19 a1 a2 a3 l4 = some r) :
    Calls Try.prog 3 #[.agg #[.slice A0_0 l0_0.length c0_0, .int .u8 a0_1, .int .i64 a0_2, .bool a0_3, .int .i64 a0_4, .int .i64 a0_5, .int .i64 a0_6, .int .i64 a0_7, .int .i64 a0_8, .int .i64 a0_9, .int .u64 a0_10, .int .u64 a0_11, .int .u64 a0_12, .int .u64 a0_13, .int .u64 a0_14, .int .u64 a0_15, .bool a0_16, .int .i64 a0_17, .slice A0_18 l0_18.length c0_18, .slice A0_19 l0_19.length c0_19], .int .i64 a1, .int .u64 a2, .int .u64 a3, .slice A4 l4.length c4] w fun e w' => e = .returned (.bool r) ∧ Below w.heap.size w w' := by
  unfold cohortlaw24_WantWithin.f at h
  by_cases hl : l4.length < 140737488355328
  · rw [if_pos hl] at h
    exact ww.calls k A0_0 c0_0 A0_18 c0_18 A0_19 c0_19 ⟨l0_0, a0_1, a0_2, a0_3, a0_4, a0_5, a0_6, a0_7, a0_8, a0_9, a0_10, a0_11, a0_12, a0_13, a0_14, a0_15, a0_16, a0_17, l0_18, l0_19⟩ a1 a2 a3 A4 c4 l4 r w hr0_0 hc0_0 hr0_18 hc0_18 hr0_19 hc0_19 hr4 hc4 hl h
  · rw [if_neg hl] at h; cases h

/-- THE ONE PURE STATEMENT of cohortlaw24_WantWithin: to be proved. -/
def cohortlaw24_WantWithin.Pure : Prop := ∀ (x0 : S27) (a1 : Int) (a2 : Int) (a3 : Int) (l4 : List Int), ok27 x0 → (Lit.int .i64 a1).wf = true → (Lit.int .u64 a2).wf = true → (Lit.int .u64 a3).wf = true → l4.length ≤ maxLen → l4.length * 8 ≤ 140737488351232 → (∀ x ∈ l4, (Lit.int .i64 x).wf = true) → ∃ k, cohortlaw24_WantWithin.f k x0.f0 x0.f1 x0.f2 x0.f3 x0.f4 x0.f5 x0.f6 x0.f7 x0.f8 x0.f9 x0.f10 x0.f11 x0.f12 x0.f13 x0.f14 x0.f15 x0.f16 x0.f17 x0.f18 x0.f19 a1 a2 a3 l4 = some true

end Go.Proofs.Ytiohijahacclnaa.GB
