/- Ask: put. No condition. -/
import Derived.Test.YtfhopjigdkjnoaaK20
import Derived.Laws.CopyOwn
import Derived.Laws.CopyRow
import Derived.ChangeKeysEq
import Derived.Deep.RegionHeld3
import Derived.Deep.MidRow
import Derived.Shelf.Abstract
import Derived.Maps.OwnSet
import Derived.Maps.AppendAt
import Derived.WalkSpells
namespace Go.Proofs.Ytfhopjigdkjnoaa.GA
open Go.RowKit Go.Shelf Go.Proofs.YtfhopjigdkjnoaaW.PrintWords Go.Proofs.YtfhopjigdkjnoaaW.PrintLast Go.Proofs.YtfhopjigdkjnoaaW.PrintMore
set_option linter.unusedVariables false
set_option linter.unusedSimpArgs false

open Go.Maps Go.ChangeMaps Go.WideShapes

set_option maxHeartbeats 8000000 in
set_option maxRecDepth 100000 in
theorem Ask.new (w : World) (gc mb B : Nat) (vl vw : Value) (s : CS) (hC : Cl w gc mb B vl vw s) (hn : s.W.length ≤ 1000000) (hn2 : s.L.length ≤ 1000000) (r : S27) (hk : Keys s.A) (hok : okK r.f1) (hnew : ∀ y ∈ s.A, y.1 ≠ r.f1) (ha : asksP r = true) (hw : s.W.any (fun x => x.f1 == r.f1) = false) (hk1 : r.f0 = 1) : Calls Try.prog 7 #[.pointer (some ⟨gc, 0, none⟩), .agg #[.int .u8 r.f0, .int .u64 r.f1, .int .i64 r.f2, .bool r.f3, .int .u64 r.f4]] w fun e' w' => e' = .returned (.slice none 0 0) ∧ Post w w' gc mb B vl vw (putS s r) := by
  have HK := Aside0.mk hk
  have HOK := Aside0.mk hok
  have HNEW := Aside0.mk hnew
  have zk : (r.f0 == 1) = true := by rw [hk1]; rfl
  clear hk hok hnew hk1
  have HC := Aside0.mk hC
  have HB := Aside0.mk (Below.refl w.heap.size w)
  have HA := Aside0.mk ha
  obtain ⟨Aw, cw, hvw, hcw, -⟩ := hC.rowW.slice
  subst hvw
  have CF : Aside0 (∀ (W : World) {gr : Nat}, Cl W gc mb B vl (.slice Aw s.W.length cw) s → W.heap[gr]? = some (.cells #[.int .u8 r.f0, .int .u64 r.f1, .int .i64 r.f2, .bool r.f3, .int .u64 r.f4] 27 (0, 0)) → Calls Try.prog 17 #[.slice Aw s.W.length cw, .func (.func 18) #[] #[.pointer (some ⟨gr, 0, none⟩)]] W fun e w' => e = .returned (.bool false) ∧ Below W.heap.size W w') := ⟨fun W gr hC hg => by
    obtain ⟨A', c', e, hc', hK⟩ := hC.rowW.slice
    injection e with e1 _ e3
    subst e1 e3
    have := ContainsFunc.calls Aw cw s.W 18 #[.pointer (some ⟨gr, 0, none⟩)] (fun x => x.f1 == r.f1) [(gr, .cells #[.int .u8 r.f0, .int .u64 r.f1, .int .i64 r.f2, .bool r.f3, .int .u64 r.f4] 27 (0, 0))] W hK hcw (by omega) enters18 (Ask1.tells gr r) (fun p hp => by rw [List.mem_singleton] at hp; subst hp; exact hg)
    rw [firstAt_all, hw] at this
    exact this⟩
  clear hC ha
  go_enter Try.func7, Try.ntmps7
  go_upto_region 1 with ((with_reducible refine gate_dst (N := 3) rfl ?_); refine box_event ?hg (N := 3) ?hd (cs := #[.int .u8 r.f0, .int .u64 r.f1, .int .i64 r.f2, .bool r.f3, .int .u64 r.f4]) (t := 27) ?hr ?_; (case hd => rfl); (case hg => rfl); (case hr => first | (go_simp; done) | (go_simp; rfl)); intro gr hg w1_r hbox hb; have GGr := Aside0.mk (show w.heap.size ≤ gr from by rw [hg]; exact below_size (by repeat (first | (with_reducible first | exact HB.out | apply below_alloc | apply pw_below_drewN | apply below_drew1) | exact HB.out))); have BKr := Aside0.mk hbox; clear hbox hg; have n0_ := Aside0.mk (below_step (by repeat (first | (with_reducible first | exact HB.out | apply below_alloc | apply pw_below_drewN | apply below_drew1) | exact HB.out)) hb); clear HB; have HB := n0_; clear n0_ hb)
  have HC1 := Aside0.mk (HC.out.below HB.out)
  have y0 : w1_r.cell? ⟨gr, 0, none⟩ = some (.int .u8 r.f0) := (blk_cell BKr.out 0).trans rfl
  have y1 : w1_r.cell? ⟨gr, 1, none⟩ = some (.int .u64 r.f1) := (blk_cell BKr.out 1).trans rfl
  have y2 : w1_r.cell? ⟨gr, 2, none⟩ = some (.int .i64 r.f2) := (blk_cell BKr.out 2).trans rfl
  have y3 : w1_r.cell? ⟨gr, 3, none⟩ = some (.bool r.f3) := (blk_cell BKr.out 3).trans rfl
  have y4 : w1_r.cell? ⟨gr, 4, none⟩ = some (.int .u64 r.f4) := (blk_cell BKr.out 4).trans rfl
  go_upto_region 3 with (first
    | (go_at_call 15; with_reducible refine (none_.calls _ gc mb B vl (.slice Aw s.W.length cw) s HC1.out).mono ?_; rintro e w2 ⟨rfl, hb⟩; have n0 := Aside0.mk (HC1.out.below hb); have n1 := Aside0.mk (blk_below BKr.out hb); have n2 := Aside0.mk (HB.out.trans (Below.mono hb HB.out.size)); clear BKr HB hb; have BKr := n1; have HB := n2; have HC2 := n0; clear n0 n1 n2; clear y0 y1 y2 y3 y4; have y0 : w2.cell? ⟨gr, 0, none⟩ = some (.int .u8 r.f0) := (blk_cell BKr.out 0).trans rfl; have y1 : w2.cell? ⟨gr, 1, none⟩ = some (.int .u64 r.f1) := (blk_cell BKr.out 1).trans rfl; have y2 : w2.cell? ⟨gr, 2, none⟩ = some (.int .i64 r.f2) := (blk_cell BKr.out 2).trans rfl; have y3 : w2.cell? ⟨gr, 3, none⟩ = some (.bool r.f3) := (blk_cell BKr.out 3).trans rfl; have y4 : w2.cell? ⟨gr, 4, none⟩ = some (.int .u64 r.f4) := (blk_cell BKr.out 4).trans rfl)
    | (go_at_call 16; with_reducible refine (asks.calls r true HA.out _).mono ?_; rintro e w3 ⟨rfl, hb⟩; have n0 := Aside0.mk (HC2.out.below hb); have n1 := Aside0.mk (blk_below BKr.out hb); have n2 := Aside0.mk (HB.out.trans (Below.mono hb HB.out.size)); clear BKr HB hb; have BKr := n1; have HB := n2; have HC3 := n0; clear n0 n1 n2; clear y0 y1 y2 y3 y4; have y0 : w3.cell? ⟨gr, 0, none⟩ = some (.int .u8 r.f0) := (blk_cell BKr.out 0).trans rfl; have y1 : w3.cell? ⟨gr, 1, none⟩ = some (.int .u64 r.f1) := (blk_cell BKr.out 1).trans rfl; have y2 : w3.cell? ⟨gr, 2, none⟩ = some (.int .i64 r.f2) := (blk_cell BKr.out 2).trans rfl; have y3 : w3.cell? ⟨gr, 3, none⟩ = some (.bool r.f3) := (blk_cell BKr.out 3).trans rfl; have y4 : w3.cell? ⟨gr, 4, none⟩ = some (.int .u64 r.f4) := (blk_cell BKr.out 4).trans rfl; have c1 : w3.cell? ⟨gc, 1, none⟩ = some (.slice Aw s.W.length cw) := HC3.out.c1)
    | (go_at_call 17; with_reducible refine (CF.out _ HC3.out BKr.out).mono ?_; rintro e w4 ⟨rfl, hb⟩; have n0 := Aside0.mk (HC3.out.below hb); have n1 := Aside0.mk (blk_below BKr.out hb); have n2 := Aside0.mk (HB.out.trans (Below.mono hb HB.out.size)); clear BKr HB hb; have BKr := n1; have HB := n2; have HC4 := n0; clear n0 n1 n2; clear y0 y1 y2 y3 y4; have y0 : w4.cell? ⟨gr, 0, none⟩ = some (.int .u8 r.f0) := (blk_cell BKr.out 0).trans rfl; have y1 : w4.cell? ⟨gr, 1, none⟩ = some (.int .u64 r.f1) := (blk_cell BKr.out 1).trans rfl; have y2 : w4.cell? ⟨gr, 2, none⟩ = some (.int .i64 r.f2) := (blk_cell BKr.out 2).trans rfl; have y3 : w4.cell? ⟨gr, 3, none⟩ = some (.bool r.f3) := (blk_cell BKr.out 3).trans rfl; have y4 : w4.cell? ⟨gr, 4, none⟩ = some (.int .u64 r.f4) := (blk_cell BKr.out 4).trans rfl; have c2 : w4.cell? ⟨gc, 2, none⟩ = some (.map (some mb)) := HC4.out.c2))
  go_upto_region 4 with fail
  have LK : Aside0 (∀ W : World, W.heap[mb]? = w4.heap[mb]? → (Instr.lookup 54 (.map (some mb)) (.int .u64 r.f1) true).run Try.prog W = .ok (.tuple #[.agg (row ⟨0, 0, 0, 0, 0, 0, 0⟩), .bool false]) W) := ⟨fun W hW => (HC4.out.mapIs.kept hW).miss HK.out HOK.out HNEW.out⟩
  have LKA : Aside0 (∀ o : Obj, (w4.drew.alloc o).heap[mb]? = w4.heap[mb]?) := ⟨fun o => (below_alloc (Below.refl w4.drew.heap.size w4.drew) o).block mb HC4.out.mapIs.lt⟩
  refine start_ (n := 13) (S := fun w' => w'.cell? ⟨gc, 2, none⟩ = some (.map (some mb)) ∧ w'.cell? ⟨gr, 1, none⟩ = some (.int .u64 r.f1) ∧ (Instr.lookup 54 (.map (some mb)) (.int .u64 r.f1) true).run Try.prog w' = .ok (.tuple #[.agg (row ⟨0, 0, 0, 0, 0, 0, 0⟩), .bool false]) w') (ds := [11]) #[false, false, false, false, false, false, false, false, false, false, false, false, false] (by kernel_rfl) rfl rfl ⟨HC4.out.c2, ((blk_cell BKr.out 1).trans rfl), LK.out _ rfl⟩ (fun hHeld => ?_)
  refine pure_ (i := 0) (N := some 27) (v := ?_) (a' := ?_) #[true, false, false, false, false, false, false, false, false, false, false, false, false] rfl rfl (by kernel_rfl) (fun _ _ _ h => h) (Or.inl ⟨by rfl, ?_⟩) ?_ ?_
  rotate_left
  · intro w'
    go_simp
    with_reducible rfl
  rotate_left
  · simp only [Act.put, List.setIfInBounds_toArray, List.set_cons_zero, List.set_cons_succ, i64_w, i32_w]
    rfl
  refine pure_ (i := 1) (N := some 28) (v := ?_) (a' := ?_) #[true, true, false, false, false, false, false, false, false, false, false, false, false] rfl rfl (by kernel_rfl) (fun _ _ _ h => h) (Or.inl ⟨by rfl, ?_⟩) ?_ ?_
  rotate_left
  · intro w'
    go_simp
    with_reducible rfl
  rotate_left
  · simp only [Act.put, List.setIfInBounds_toArray, List.set_cons_zero, List.set_cons_succ, i64_w, i32_w]
    rfl
  refine pure_ (i := 2) (N := some 29) (v := ?_) (a' := ?_) #[true, true, true, false, false, false, false, false, false, false, false, false, false] rfl rfl (by kernel_rfl) (fun _ _ _ h => h) (Or.inl ⟨by rfl, ?_⟩) ?_ ?_
  rotate_left
  · intro w'
    go_simp
    with_reducible rfl
  rotate_left
  · simp only [Act.put, List.setIfInBounds_toArray, List.set_cons_zero, List.set_cons_succ, i64_w, i32_w]
    rfl
  refine pure_ (i := 4) (N := some 31) (v := ?_) (a' := ?_) #[true, true, true, false, true, false, false, false, false, false, false, false, false] rfl rfl (by kernel_rfl) (fun _ _ _ h => h) (Or.inl ⟨by rfl, ?_⟩) ?_ ?_
  rotate_left
  · intro w'
    go_simp
    with_reducible rfl
  rotate_left
  · simp only [Act.put, List.setIfInBounds_toArray, List.set_cons_zero, List.set_cons_succ, i64_w, i32_w]
    rfl
  refine take_ (i := 3) (N := some 30) (v := ?_) (a' := ?_) #[true, true, true, true, true, false, false, false, false, false, false, false, false] rfl rfl (by kernel_rfl) (fun _ _ _ h => h) (Or.inl ⟨by rfl, ?_⟩) hHeld ?_ ?_
  rotate_left
  · rintro w' ⟨s0, s1, s2⟩
    go_simp
    with_reducible rfl
  rotate_left
  · simp only [Act.put, List.setIfInBounds_toArray, List.set_cons_zero, List.set_cons_succ, i64_w, i32_w]
    rfl
  refine take_ (i := 5) (N := some 32) (v := ?_) (a' := ?_) #[true, true, true, true, true, true, false, false, false, false, false, false, false] rfl rfl (by kernel_rfl) (fun _ _ _ h => h) (Or.inl ⟨by rfl, ?_⟩) hHeld ?_ ?_
  rotate_left
  · rintro w' ⟨s0, s1, s2⟩
    go_simp
    with_reducible rfl
  rotate_left
  · simp only [Act.put, List.setIfInBounds_toArray, List.set_cons_zero, List.set_cons_succ, i64_w, i32_w]
    rfl
  refine take_ (i := 6) (N := some 33) (v := ?_) (a' := ?_) #[true, true, true, true, true, true, true, false, false, false, false, false, false] rfl rfl (by kernel_rfl) (fun _ _ _ h => h) (Or.inl ⟨by rfl, ?_⟩) hHeld ?_ ?_
  rotate_left
  · rintro w' ⟨s0, s1, s2⟩
    refine exec_lookup (t := 54) (d := .tmp 30) (x := .tmp 32) (b := true) (m := .map (some mb)) (k := .int .u64 r.f1) (v := .tuple #[.agg (row ⟨0, 0, 0, 0, 0, 0, 0⟩), .bool false]) ?_ ?_ ?_ s2
    · rfl
    · rfl
    · rfl
  rotate_left
  · simp only [Act.put, List.setIfInBounds_toArray, List.set_cons_zero, List.set_cons_succ, i64_w, i32_w]
    rfl
  refine pure_ (i := 7) (N := some 26) (v := ?_) (a' := ?_) #[true, true, true, true, true, true, true, true, false, false, false, false, false] rfl rfl (by kernel_rfl) (fun _ _ _ h => h) (Or.inl ⟨by rfl, ?_⟩) ?_ ?_
  rotate_left
  · intro w'
    go_simp
    with_reducible rfl
  rotate_left
  · simp only [Act.put, List.setIfInBounds_toArray, List.set_cons_zero, List.set_cons_succ, i64_w, i32_w]
    rfl
  refine pure_ (i := 8) (N := some 34) (v := ?_) (a' := ?_) #[true, true, true, true, true, true, true, true, true, false, false, false, false] rfl rfl (by kernel_rfl) (fun _ _ _ h => h) (Or.inl ⟨by rfl, ?_⟩) ?_ ?_
  rotate_left
  · intro w'
    go_simp
    with_reducible rfl
  rotate_left
  · simp only [Act.put, List.setIfInBounds_toArray, List.set_cons_zero, List.set_cons_succ, i64_w, i32_w]
    rfl
  refine pure_ (i := 9) (N := some 35) (v := ?_) (a' := ?_) #[true, true, true, true, true, true, true, true, true, true, false, false, false] rfl rfl (by kernel_rfl) (fun _ _ _ h => h) (Or.inl ⟨by rfl, ?_⟩) ?_ ?_
  rotate_left
  · intro w'
    go_simp
    with_reducible rfl
  rotate_left
  · simp only [Act.put, List.setIfInBounds_toArray, List.set_cons_zero, List.set_cons_succ, i64_w, i32_w]
    rfl
  refine one_ (i := 10) (N := some 5) #[true, true, true, true, true, true, true, true, true, true, true, false, false] rfl rfl (by kernel_rfl) (by decide) (fun K hK => ?_)
  refine value_ (w1 := ?_) (v := ?_) (by rfl) rfl ?_ ?_
  rotate_left 2
  · go_simp
    constructor
    · rfl
    · rfl
  refine hK.out _ _ ⟨(blk_cell (blk_alloc (show w4.drew.heap[_]? = _ from HC4.out.1) _) 2).trans rfl, (blk_cell (blk_alloc (show w4.drew.heap[_]? = _ from BKr.out) _) 1).trans rfl, LK.out _ (LKA.out _)⟩ (fun hHeld => ?_)
  clear hK K
  refine norm_ (a' := ?_) ?_ ?_
  rotate_left
  · show Act.put _ (some 5) _ = _
    simp only [Act.put, List.setIfInBounds_toArray, List.set_cons_zero, List.set_cons_succ, i64_w, i32_w]
    rfl
  refine last_ (i := 11) (N := none) #[true, true, true, true, true, true, true, true, true, true, true, true, false] rfl rfl (by kernel_rfl) (by decide) (fun K hK => ?_)
  refine store_row_ev (by rfl) rfl 45 5 34 rfl w4.heap.size (row ⟨0, 0, 0, 0, 0, 0, 0⟩) rfl rfl 45 _ (heap_alloc_new w4.drew _) (row_info ⟨0, 0, 0, 0, 0, 0, 0⟩) rfl (row_all ⟨0, 0, 0, 0, 0, 0, 0⟩) ?_
  refine hK.out _ _ ?_
  clear hK K
  refine pure_ (i := 12) (N := some 6) (v := ?_) (a' := ?_) #[true, true, true, true, true, true, true, true, true, true, true, true, true] rfl rfl (by kernel_rfl) (fun _ _ _ h => h) (Or.inl ⟨by rfl, ?_⟩) ?_ ?_
  rotate_left
  · intro w'
    go_simp
    with_reducible rfl
  rotate_left
  · simp only [Act.put, List.setIfInBounds_toArray, List.set_cons_zero, List.set_cons_succ, i64_w, i32_w]
    rfl
  refine done_ (by kernel_rfl) ?_

  go_upto_region 5 with fail
  obtain ⟨g5, hg5⟩ : ∃ g, g = w4.heap.size := ⟨_, rfl⟩
  have b5 : Below w4.heap.size w4 ((w4.alloc (.cells #[.int .u8 0, .int .u64 0, .int .u64 0, .int .i64 0, .int .i64 0, .int .i64 0, .bool false, .int .u64 0, .slice none 0 0, .int .u8 0, .int .i64 0, .bool false, .int .i64 0, .int .i64 0, .int .i64 0, .int .i64 0, .int .i64 0, .int .i64 0, .int .u64 0, .int .u64 0, .int .u64 0, .int .u64 0, .int .u64 0, .int .u64 0, .bool false, .int .i64 0, .slice none 0 0, .slice none 0 0] 45 (0, 0))).drew.setRow w4.heap.size (row ⟨0, 0, 0, 0, 0, 0, 0⟩)) := below_setRow (below_drew (below_alloc (Below.refl w4.heap.size w4) _)) (Nat.le_refl _) _
  have k5 : ((w4.alloc (.cells #[.int .u8 0, .int .u64 0, .int .u64 0, .int .i64 0, .int .i64 0, .int .i64 0, .bool false, .int .u64 0, .slice none 0 0, .int .u8 0, .int .i64 0, .bool false, .int .i64 0, .int .i64 0, .int .i64 0, .int .i64 0, .int .i64 0, .int .i64 0, .int .u64 0, .int .u64 0, .int .u64 0, .int .u64 0, .int .u64 0, .int .u64 0, .bool false, .int .i64 0, .slice none 0 0, .slice none 0 0] 45 (0, 0))).drew.setRow w4.heap.size (row ⟨0, 0, 0, 0, 0, 0, 0⟩)).heap[w4.heap.size]? = some (.cells (row ⟨0, 0, 0, 0, 0, 0, 0⟩) 45 (0, 0)) := setRow_heap _ _ _ _ _ _ (heap_alloc_new w4 _)
  generalize World.setRow _ _ _ = w5 at b5 k5 ⊢
  rw [← hg5] at k5 ⊢
  have HG5 := Aside0.mk hg5
  have B5 := Aside0.mk b5
  have BKe5 := Aside0.mk k5
  have HC5 := Aside0.mk (HC4.out.below b5)
  have BKr5 := Aside0.mk (blk_below BKr.out b5)
  clear b5 k5 hg5 hHeld y0 y1 y2 y3 y4 c1 c2
  go_upto_region 7 with fail
  have HBX : Aside0 (Below w.heap.size w w5) := ⟨HB.out.trans (Below.mono B5.out HB.out.size)⟩
  have HO3 : Aside0 (Kd.R k27 27 w5.drew B (fun _ => True) (.slice Aw s.W.length cw) s.W) := ⟨Kd.R_drew HC5.out.rowW.toR⟩
  have HB3 := Aside0.mk HC5.out.base
  have HL4 : Aside0 ((s.W.length + 1) * 40 ≤ 140737488355328) := ⟨by omega⟩
  have GRN : Aside0 (some gr ≠ (Value.slice Aw s.W.length cw).ownBlock) := ⟨fun e => by have h1 := HC.out.rowW.nil_own e.symm; have h2 := GGr.out; omega⟩
  have GCN : Aside0 (some gc ≠ (Value.slice Aw s.W.length cw).ownBlock) := ⟨HC5.out.gcW⟩
  refine start_ (n := 11) (S := fun w' => w'.cell? ⟨gc, 1, none⟩ = some (.slice Aw s.W.length cw) ∧ w'.heap[gr]? = some (.cells #[.int .u8 r.f0, .int .u64 r.f1, .int .i64 r.f2, .bool r.f3, .int .u64 r.f4] 27 (0, 0))) (ds := [10]) #[false, false, false, false, false, false, false, false, false, false, false] (by kernel_rfl) rfl rfl ⟨HC5.out.c1, BKr5.out⟩ (fun hHeld => ?_)
  refine pure_ (i := 0) (N := some 39) (v := ?_) (a' := ?_) #[true, false, false, false, false, false, false, false, false, false, false] rfl rfl (by kernel_rfl) (fun _ _ _ h => h) (Or.inl ⟨by rfl, ?_⟩) ?_ ?_
  rotate_left
  · intro w'
    go_simp
    with_reducible rfl
  rotate_left
  · simp only [Act.put, List.setIfInBounds_toArray, List.set_cons_zero, List.set_cons_succ, i64_w, i32_w]
    rfl
  refine pure_ (i := 1) (N := some 40) (v := ?_) (a' := ?_) #[true, true, false, false, false, false, false, false, false, false, false] rfl rfl (by kernel_rfl) (fun _ _ _ h => h) (Or.inl ⟨by rfl, ?_⟩) ?_ ?_
  rotate_left
  · intro w'
    go_simp
    with_reducible rfl
  rotate_left
  · simp only [Act.put, List.setIfInBounds_toArray, List.set_cons_zero, List.set_cons_succ, i64_w, i32_w]
    rfl
  refine pure_ (i := 2) (N := some 41) (v := ?_) (a' := ?_) #[true, true, true, false, false, false, false, false, false, false, false] rfl rfl (by kernel_rfl) (fun _ _ _ h => h) (Or.inl ⟨by rfl, ?_⟩) ?_ ?_
  rotate_left
  · intro w'
    go_simp
    with_reducible rfl
  rotate_left
  · simp only [Act.put, List.setIfInBounds_toArray, List.set_cons_zero, List.set_cons_succ, i64_w, i32_w]
    rfl
  refine pure_ (i := 3) (N := some 42) (v := ?_) (a' := ?_) #[true, true, true, true, false, false, false, false, false, false, false] rfl rfl (by kernel_rfl) (fun _ _ _ h => h) (Or.inl ⟨by rfl, ?_⟩) ?_ ?_
  rotate_left
  · intro w'
    go_simp
    with_reducible rfl
  rotate_left
  · simp only [Act.put, List.setIfInBounds_toArray, List.set_cons_zero, List.set_cons_succ, i64_w, i32_w]
    rfl
  refine take_ (i := 4) (N := some 43) (v := ?_) (a' := ?_) #[true, true, true, true, true, false, false, false, false, false, false] rfl rfl (by kernel_rfl) (fun _ _ _ h => h) (Or.inl ⟨by rfl, ?_⟩) hHeld ?_ ?_
  rotate_left
  · rintro w' ⟨s0, s1⟩
    go_simp
    with_reducible rfl
  rotate_left
  · simp only [Act.put, List.setIfInBounds_toArray, List.set_cons_zero, List.set_cons_succ, i64_w, i32_w]
    rfl
  refine take_ (i := 5) (N := some 44) (v := ?_) (a' := ?_) #[true, true, true, true, true, true, false, false, false, false, false] rfl rfl (by kernel_rfl) (fun _ _ _ h => h) (Or.inl ⟨by rfl, ?_⟩) hHeld ?_ ?_
  rotate_left
  · rintro w' ⟨s0, s1⟩
    refine row27.load_run 3 gr #[.int .u8 r.f0, .int .u64 r.f1, .int .i64 r.f2, .bool r.f3, .int .u64 r.f4] ?_ ?_ w' s1 size27
    · rfl
    · rfl
  rotate_left
  · simp only [Act.put, List.setIfInBounds_toArray, List.set_cons_zero, List.set_cons_succ, i64_w, i32_w]
    rfl
  refine one_ (i := 6) (N := some 45) #[true, true, true, true, true, true, true, false, false, false, false] rfl rfl (by kernel_rfl) (by decide) (fun K hK => ?_)
  refine value_ (w1 := ?_) (v := ?_) (by rfl) rfl ?_ ?_
  rotate_left 2
  · go_simp
    constructor
    · rfl
    · rfl
  refine hK.out _ _ ⟨(blk_cell (blk_alloc (show w5.drew.heap[_]? = _ from HC5.out.1) _) 1).trans rfl, (blk_alloc (show w5.drew.heap[_]? = _ from BKr5.out) _)⟩ (fun hHeld => ?_)
  clear hK K
  refine norm_ (a' := ?_) ?_ ?_
  rotate_left
  · show Act.put _ (some 45) _ = _
    simp only [Act.put, List.setIfInBounds_toArray, List.set_cons_zero, List.set_cons_succ, i64_w, i32_w]
    rfl
  refine one_ (i := 7) (N := some 46) #[true, true, true, true, true, true, true, true, false, false, false] rfl rfl (by kernel_rfl) (by decide) (fun K hK => ?_)
  refine Kd.R_append_step k27 (w0 := w5) B (by rfl) (.tmp 43) (.tmp 45) 35 27 (.agg #[.int .u8 0, .int .u64 0, .int .i64 0, .bool false, .int .u64 0]) 40 rfl Try.underlying35 info27 rfl (by decide) (by decide) (.slice Aw s.W.length cw) s.W r [.int .u8 r.f0, .int .u64 r.f1, .int .i64 r.f2, .bool r.f3, .int .u64 r.f4] (fun _ => True) (fun _ => False) rfl rfl (k27_mkM _ _ _ r) (fun _ hk => hk.elim) (fun _ _ => trivial) HO3.out (below_drew (Below.refl B w5)) HB3.out HL4.out ?_
  intro v1 w7 ho hb hg hat
  obtain ⟨Aq, nq, cq, eq⟩ := (Row27.ofR ho).slice3
  subst eq
  have BKr7 := Aside0.mk (blk_grown (g := gr) (show w5.drew.heap[gr]? = _ from BKr5.out) hg GRN.out)
  have HG7 := Aside0.mk (blk_grown (g := gc) (show w5.drew.heap[gc]? = _ from HC5.out.1) hg GCN.out)
  have HO7 := Aside0.mk (Row27.ofR ho)
  have HB7 := Aside0.mk hb
  have GR7 := Aside0.mk hg
  have AT7 := Aside0.mk hat
  clear ho hb hg hat
  have x2 : w7.cell? ⟨gc, 1, none⟩ = some (.slice Aw s.W.length cw) := (blk_cell HG7.out 1).trans rfl
  have z2 := blk_frozen HG7.out 1
  refine hK.out _ _ ⟨x2, BKr7.out⟩ (fun hHeld => ?_)
  clear hK K
  refine norm_ (a' := ?_) ?_ ?_
  rotate_left
  · show Act.put _ (some 46) _ = _
    simp only [Act.put, List.setIfInBounds_toArray, List.set_cons_zero, List.set_cons_succ, i64_w, i32_w]
    rfl
  refine pure_ (i := 8) (N := some 47) (v := ?_) (a' := ?_) #[true, true, true, true, true, true, true, true, true, false, false] rfl rfl (by kernel_rfl) (fun _ _ _ h => h) (Or.inl ⟨by rfl, ?_⟩) ?_ ?_
  rotate_left
  · intro w'
    go_simp
    with_reducible rfl
  rotate_left
  · simp only [Act.put, List.setIfInBounds_toArray, List.set_cons_zero, List.set_cons_succ, i64_w, i32_w]
    rfl
  refine pure_ (i := 9) (N := some 48) (v := ?_) (a' := ?_) #[true, true, true, true, true, true, true, true, true, true, false] rfl rfl (by kernel_rfl) (fun _ _ _ h => h) (Or.inl ⟨by rfl, ?_⟩) ?_ ?_
  rotate_left
  · intro w'
    go_simp
    with_reducible rfl
  rotate_left
  · simp only [Act.put, List.setIfInBounds_toArray, List.set_cons_zero, List.set_cons_succ, i64_w, i32_w]
    rfl
  refine last_ (i := 10) (N := none) #[true, true, true, true, true, true, true, true, true, true, true] rfl rfl (by kernel_rfl) (by decide) (fun K hK => ?_)
  refine skip_ (w1 := ?_) (by rfl) rfl ?_ ?_
  rotate_left
  · go_simp
    rfl
  refine hK.out _ _ ?_
  clear hK K
  refine done_ (by kernel_rfl) ?_

  go_wp2
  go_ret
  have hsX : w.heap.size ≤ w5.heap.size := HBX.out.size
  have hs7 : w5.heap.size ≤ w7.heap.size := HB7.out.size
  have gr7 : ∀ k, k < w5.heap.size → some k ≠ (Value.slice Aw s.W.length cw).ownBlock → w7.heap[k]? = w5.heap[k]? := fun k hk hne => GR7.out.block k hk hne
  have hL7 : Row50 w7 B vl s.L := HC5.out.rowL.moved fun k hk => by
    obtain ⟨cur, q1, _⟩ := HC5.out.rowL.owned hk
    exact gr7 k (blk_lt q1) (HC5.out.LW hk)
  have hM7 : MapIs w7 mb s.A := HC5.out.mapIs.kept (gr7 mb HC5.out.mapIs.lt HC5.out.mbW)
  have hC8 := Cl.putW HG7.out hL7 HO7.out hM7 HC.out.2.2.2.2.1 HC.out.2.2.2.2.2 HC.out.gcL (HO7.out.ne HG7.out (by decide)) HC.out.gcmb
  have hN : Nw w (.slice Aw s.W.length cw) (.slice Aq nq cq) := by
    rcases AT7.out with h | ⟨b, h, h2⟩
    · exact .inl h
    · exact .inr ⟨b, h, by have h3 : w5.heap.size ≤ b := h2; omega⟩
  exact ⟨rfl, vl, .slice Aq nq cq, hC8, .refl _ _, hN, ((Below.mono HBX.out HC.out.base).trans HB7.out).setCell (show B ≤ gc from HC.out.2.2.2.2.1) _, fun k hk a b c d => (heap_setCell_other w7 _ k _ a).trans ((gr7 k (by omega) d).trans (HBX.out.block k hk))⟩

set_option maxHeartbeats 8000000 in
set_option maxRecDepth 100000 in
theorem Ask.gone (w : World) (gc mb B : Nat) (vl vw : Value) (s : CS) (hC : Cl w gc mb B vl vw s) (hn : s.W.length ≤ 1000000) (hn2 : s.L.length ≤ 1000000) (r : S27) (i : Nat) (hi : i < s.L.length) (hr4 : r.f4 = (i : Int) + 1) (hk1 : r.f0 ≠ 1) (hg3 : s.L[i].f3 = 4) (ha : asksP r = true) (hw : s.W.any (fun x => x.f1 == r.f1) = false) : Calls Try.prog 7 #[.pointer (some ⟨gc, 0, none⟩), .agg #[.int .u8 r.f0, .int .u64 r.f1, .int .i64 r.f2, .bool r.f3, .int .u64 r.f4]] w fun e' w' => ∃ v, e' = .returned v ∧ Evs w' w.heap.size v (some ⟨15, 0, r.f4, 0, 0, 0, 0⟩) ∧ Post w w' gc mb B vl vw s := by
  have zk : (r.f0 == 1) = false := beq_false_of_ne hk1
  obtain ⟨gl, c, hvl, -⟩ := hC.form hi
  subst hvl
  have X3 : Aside0 (∀ W, Cl W gc mb B (.slice (some ⟨gl, 0, none⟩) s.L.length c) vw s → W.cell? ⟨gl, i * 5 + 3, none⟩ = some (.int .u8 4)) := ⟨fun W h => by rw [h.x3 hi, hg3]⟩
  have IN : Aside0 (∀ W, Cl W gc mb B (.slice (some ⟨gl, 0, none⟩) s.L.length c) vw s → Calls Try.prog 19 #[.pointer (some ⟨gc, 0, none⟩), .int .u64 r.f4] W fun e w' => e = .returned (.pointer (some ⟨gl, i * 5, none⟩)) ∧ Below W.heap.size W w') := ⟨fun W h => by rw [hr4]; exact inst.some_ W gc mb B gl c vw s h i hi hn2⟩
  clear hr4 hk1 hg3
  have HC := Aside0.mk hC
  have HB := Aside0.mk (Below.refl w.heap.size w)
  have HA := Aside0.mk ha
  obtain ⟨Aw, cw, hvw, hcw, -⟩ := hC.rowW.slice
  subst hvw
  have CF : Aside0 (∀ (W : World) {gr : Nat}, Cl W gc mb B (.slice (some ⟨gl, 0, none⟩) s.L.length c) (.slice Aw s.W.length cw) s → W.heap[gr]? = some (.cells #[.int .u8 r.f0, .int .u64 r.f1, .int .i64 r.f2, .bool r.f3, .int .u64 r.f4] 27 (0, 0)) → Calls Try.prog 17 #[.slice Aw s.W.length cw, .func (.func 18) #[] #[.pointer (some ⟨gr, 0, none⟩)]] W fun e w' => e = .returned (.bool false) ∧ Below W.heap.size W w') := ⟨fun W gr hC hg => by
    obtain ⟨A', c', e, hc', hK⟩ := hC.rowW.slice
    injection e with e1 _ e3
    subst e1 e3
    have := ContainsFunc.calls Aw cw s.W 18 #[.pointer (some ⟨gr, 0, none⟩)] (fun x => x.f1 == r.f1) [(gr, .cells #[.int .u8 r.f0, .int .u64 r.f1, .int .i64 r.f2, .bool r.f3, .int .u64 r.f4] 27 (0, 0))] W hK hcw (by omega) enters18 (Ask1.tells gr r) (fun p hp => by rw [List.mem_singleton] at hp; subst hp; exact hg)
    rw [firstAt_all, hw] at this
    exact this⟩
  clear hC ha
  go_enter Try.func7, Try.ntmps7
  go_upto_region 1 with ((with_reducible refine gate_dst (N := 3) rfl ?_); refine box_event ?hg (N := 3) ?hd (cs := #[.int .u8 r.f0, .int .u64 r.f1, .int .i64 r.f2, .bool r.f3, .int .u64 r.f4]) (t := 27) ?hr ?_; (case hd => rfl); (case hg => rfl); (case hr => first | (go_simp; done) | (go_simp; rfl)); intro gr hg w1_r hbox hb; have GGr := Aside0.mk (show w.heap.size ≤ gr from by rw [hg]; exact below_size (by repeat (first | (with_reducible first | exact HB.out | apply below_alloc | apply pw_below_drewN | apply below_drew1) | exact HB.out))); have BKr := Aside0.mk hbox; clear hbox hg; have n0_ := Aside0.mk (below_step (by repeat (first | (with_reducible first | exact HB.out | apply below_alloc | apply pw_below_drewN | apply below_drew1) | exact HB.out)) hb); clear HB; have HB := n0_; clear n0_ hb)
  have HC1 := Aside0.mk (HC.out.below HB.out)
  have y0 : w1_r.cell? ⟨gr, 0, none⟩ = some (.int .u8 r.f0) := (blk_cell BKr.out 0).trans rfl
  have y1 : w1_r.cell? ⟨gr, 1, none⟩ = some (.int .u64 r.f1) := (blk_cell BKr.out 1).trans rfl
  have y2 : w1_r.cell? ⟨gr, 2, none⟩ = some (.int .i64 r.f2) := (blk_cell BKr.out 2).trans rfl
  have y3 : w1_r.cell? ⟨gr, 3, none⟩ = some (.bool r.f3) := (blk_cell BKr.out 3).trans rfl
  have y4 : w1_r.cell? ⟨gr, 4, none⟩ = some (.int .u64 r.f4) := (blk_cell BKr.out 4).trans rfl
  go_upto_region 3 with (first
    | (go_at_call 15; with_reducible refine (none_.calls _ gc mb B (.slice (some ⟨gl, 0, none⟩) s.L.length c) (.slice Aw s.W.length cw) s HC1.out).mono ?_; rintro e w2 ⟨rfl, hb⟩; have n0 := Aside0.mk (HC1.out.below hb); have n1 := Aside0.mk (blk_below BKr.out hb); have n2 := Aside0.mk (HB.out.trans (Below.mono hb HB.out.size)); clear BKr HB hb; have BKr := n1; have HB := n2; have HC2 := n0; clear n0 n1 n2; clear y0 y1 y2 y3 y4; have y0 : w2.cell? ⟨gr, 0, none⟩ = some (.int .u8 r.f0) := (blk_cell BKr.out 0).trans rfl; have y1 : w2.cell? ⟨gr, 1, none⟩ = some (.int .u64 r.f1) := (blk_cell BKr.out 1).trans rfl; have y2 : w2.cell? ⟨gr, 2, none⟩ = some (.int .i64 r.f2) := (blk_cell BKr.out 2).trans rfl; have y3 : w2.cell? ⟨gr, 3, none⟩ = some (.bool r.f3) := (blk_cell BKr.out 3).trans rfl; have y4 : w2.cell? ⟨gr, 4, none⟩ = some (.int .u64 r.f4) := (blk_cell BKr.out 4).trans rfl)
    | (go_at_call 16; with_reducible refine (asks.calls r true HA.out _).mono ?_; rintro e w3 ⟨rfl, hb⟩; have n0 := Aside0.mk (HC2.out.below hb); have n1 := Aside0.mk (blk_below BKr.out hb); have n2 := Aside0.mk (HB.out.trans (Below.mono hb HB.out.size)); clear BKr HB hb; have BKr := n1; have HB := n2; have HC3 := n0; clear n0 n1 n2; clear y0 y1 y2 y3 y4; have y0 : w3.cell? ⟨gr, 0, none⟩ = some (.int .u8 r.f0) := (blk_cell BKr.out 0).trans rfl; have y1 : w3.cell? ⟨gr, 1, none⟩ = some (.int .u64 r.f1) := (blk_cell BKr.out 1).trans rfl; have y2 : w3.cell? ⟨gr, 2, none⟩ = some (.int .i64 r.f2) := (blk_cell BKr.out 2).trans rfl; have y3 : w3.cell? ⟨gr, 3, none⟩ = some (.bool r.f3) := (blk_cell BKr.out 3).trans rfl; have y4 : w3.cell? ⟨gr, 4, none⟩ = some (.int .u64 r.f4) := (blk_cell BKr.out 4).trans rfl; have c1 : w3.cell? ⟨gc, 1, none⟩ = some (.slice Aw s.W.length cw) := HC3.out.c1)
    | (go_at_call 17; with_reducible refine (CF.out _ HC3.out BKr.out).mono ?_; rintro e w4 ⟨rfl, hb⟩; have n0 := Aside0.mk (HC3.out.below hb); have n1 := Aside0.mk (blk_below BKr.out hb); have n2 := Aside0.mk (HB.out.trans (Below.mono hb HB.out.size)); clear BKr HB hb; have BKr := n1; have HB := n2; have HC4 := n0; clear n0 n1 n2; clear y0 y1 y2 y3 y4; have y0 : w4.cell? ⟨gr, 0, none⟩ = some (.int .u8 r.f0) := (blk_cell BKr.out 0).trans rfl; have y1 : w4.cell? ⟨gr, 1, none⟩ = some (.int .u64 r.f1) := (blk_cell BKr.out 1).trans rfl; have y2 : w4.cell? ⟨gr, 2, none⟩ = some (.int .i64 r.f2) := (blk_cell BKr.out 2).trans rfl; have y3 : w4.cell? ⟨gr, 3, none⟩ = some (.bool r.f3) := (blk_cell BKr.out 3).trans rfl; have y4 : w4.cell? ⟨gr, 4, none⟩ = some (.int .u64 r.f4) := (blk_cell BKr.out 4).trans rfl; have c2 : w4.cell? ⟨gc, 2, none⟩ = some (.map (some mb)) := HC4.out.c2))
  go_wp2_with (go_at_call 19; with_reducible refine (IN.out _ HC4.out).mono ?_; rintro e w5 ⟨rfl, hb⟩; have n0 := Aside0.mk (HC4.out.below hb); have n1 := Aside0.mk (blk_below BKr.out hb); have n2 := Aside0.mk (HB.out.trans (Below.mono hb HB.out.size)); clear BKr HB hb; have BKr := n1; have HB := n2; have HC5 := n0; clear n0 n1 n2; clear y0 y1 y2 y3 y4; have y0 : w5.cell? ⟨gr, 0, none⟩ = some (.int .u8 r.f0) := (blk_cell BKr.out 0).trans rfl; have y1 : w5.cell? ⟨gr, 1, none⟩ = some (.int .u64 r.f1) := (blk_cell BKr.out 1).trans rfl; have y2 : w5.cell? ⟨gr, 2, none⟩ = some (.int .i64 r.f2) := (blk_cell BKr.out 2).trans rfl; have y3 : w5.cell? ⟨gr, 3, none⟩ = some (.bool r.f3) := (blk_cell BKr.out 3).trans rfl; have y4 : w5.cell? ⟨gr, 4, none⟩ = some (.int .u64 r.f4) := (blk_cell BKr.out 4).trans rfl; have x3 : w5.cell? ⟨gl, i * 5 + 3, none⟩ = some (.int .u8 4) := X3.out _ HC5.out)
  go_ret
  have hs5 : w.heap.size ≤ w5.heap.size := HB.out.size
  exact ⟨_, rfl, ⟨w5.heap.size, rfl, hs5, blk_new w5 _⟩, Post.of HC.out (HB.out.trans (Below.mono (below_alloc (Below.refl w5.heap.size w5) _) hs5))⟩

set_option maxHeartbeats 8000000 in
set_option maxRecDepth 100000 in
theorem Ask.put (w : World) (gc mb B : Nat) (vl vw : Value) (s : CS) (hC : Cl w gc mb B vl vw s) (hn : s.W.length ≤ 1000000) (hn2 : s.L.length ≤ 1000000) (r : S27) (i : Nat) (hi : i < s.L.length) (hr4 : r.f4 = (i : Int) + 1) (hk1 : r.f0 ≠ 1) (hg3 : s.L[i].f3 ≠ 4) (ha : asksP r = true) (hw : s.W.any (fun x => x.f1 == r.f1) = false) : Calls Try.prog 7 #[.pointer (some ⟨gc, 0, none⟩), .agg #[.int .u8 r.f0, .int .u64 r.f1, .int .i64 r.f2, .bool r.f3, .int .u64 r.f4]] w fun e' w' => e' = .returned (.slice none 0 0) ∧ Post w w' gc mb B vl vw (putS s r) := by
  have zk : (r.f0 == 1) = false := beq_false_of_ne hk1
  obtain ⟨gl, c, hvl, -⟩ := hC.form hi
  subst hvl
  obtain ⟨F3, hF3⟩ : ∃ u, u = s.L[i].f3 := ⟨_, rfl⟩
  have X3 : Aside0 (∀ W, Cl W gc mb B (.slice (some ⟨gl, 0, none⟩) s.L.length c) vw s → W.cell? ⟨gl, i * 5 + 3, none⟩ = some (.int .u8 F3)) := ⟨fun W h => by rw [h.x3 hi, hF3]⟩
  have IN : Aside0 (∀ W, Cl W gc mb B (.slice (some ⟨gl, 0, none⟩) s.L.length c) vw s → Calls Try.prog 19 #[.pointer (some ⟨gc, 0, none⟩), .int .u64 r.f4] W fun e w' => e = .returned (.pointer (some ⟨gl, i * 5, none⟩)) ∧ Below W.heap.size W w') := ⟨fun W h => by rw [hr4]; exact inst.some_ W gc mb B gl c vw s h i hi hn2⟩
  have z4 : (F3 == 4) = false := beq_false_of_ne (by rw [hF3]; exact hg3)
  clear hr4 hk1 hg3 hF3
  have HC := Aside0.mk hC
  have HB := Aside0.mk (Below.refl w.heap.size w)
  have HA := Aside0.mk ha
  obtain ⟨Aw, cw, hvw, hcw, -⟩ := hC.rowW.slice
  subst hvw
  have CF : Aside0 (∀ (W : World) {gr : Nat}, Cl W gc mb B (.slice (some ⟨gl, 0, none⟩) s.L.length c) (.slice Aw s.W.length cw) s → W.heap[gr]? = some (.cells #[.int .u8 r.f0, .int .u64 r.f1, .int .i64 r.f2, .bool r.f3, .int .u64 r.f4] 27 (0, 0)) → Calls Try.prog 17 #[.slice Aw s.W.length cw, .func (.func 18) #[] #[.pointer (some ⟨gr, 0, none⟩)]] W fun e w' => e = .returned (.bool false) ∧ Below W.heap.size W w') := ⟨fun W gr hC hg => by
    obtain ⟨A', c', e, hc', hK⟩ := hC.rowW.slice
    injection e with e1 _ e3
    subst e1 e3
    have := ContainsFunc.calls Aw cw s.W 18 #[.pointer (some ⟨gr, 0, none⟩)] (fun x => x.f1 == r.f1) [(gr, .cells #[.int .u8 r.f0, .int .u64 r.f1, .int .i64 r.f2, .bool r.f3, .int .u64 r.f4] 27 (0, 0))] W hK hcw (by omega) enters18 (Ask1.tells gr r) (fun p hp => by rw [List.mem_singleton] at hp; subst hp; exact hg)
    rw [firstAt_all, hw] at this
    exact this⟩
  clear hC ha
  go_enter Try.func7, Try.ntmps7
  go_upto_region 1 with ((with_reducible refine gate_dst (N := 3) rfl ?_); refine box_event ?hg (N := 3) ?hd (cs := #[.int .u8 r.f0, .int .u64 r.f1, .int .i64 r.f2, .bool r.f3, .int .u64 r.f4]) (t := 27) ?hr ?_; (case hd => rfl); (case hg => rfl); (case hr => first | (go_simp; done) | (go_simp; rfl)); intro gr hg w1_r hbox hb; have GGr := Aside0.mk (show w.heap.size ≤ gr from by rw [hg]; exact below_size (by repeat (first | (with_reducible first | exact HB.out | apply below_alloc | apply pw_below_drewN | apply below_drew1) | exact HB.out))); have BKr := Aside0.mk hbox; clear hbox hg; have n0_ := Aside0.mk (below_step (by repeat (first | (with_reducible first | exact HB.out | apply below_alloc | apply pw_below_drewN | apply below_drew1) | exact HB.out)) hb); clear HB; have HB := n0_; clear n0_ hb)
  have HC1 := Aside0.mk (HC.out.below HB.out)
  have y0 : w1_r.cell? ⟨gr, 0, none⟩ = some (.int .u8 r.f0) := (blk_cell BKr.out 0).trans rfl
  have y1 : w1_r.cell? ⟨gr, 1, none⟩ = some (.int .u64 r.f1) := (blk_cell BKr.out 1).trans rfl
  have y2 : w1_r.cell? ⟨gr, 2, none⟩ = some (.int .i64 r.f2) := (blk_cell BKr.out 2).trans rfl
  have y3 : w1_r.cell? ⟨gr, 3, none⟩ = some (.bool r.f3) := (blk_cell BKr.out 3).trans rfl
  have y4 : w1_r.cell? ⟨gr, 4, none⟩ = some (.int .u64 r.f4) := (blk_cell BKr.out 4).trans rfl
  go_upto_region 3 with (first
    | (go_at_call 15; with_reducible refine (none_.calls _ gc mb B (.slice (some ⟨gl, 0, none⟩) s.L.length c) (.slice Aw s.W.length cw) s HC1.out).mono ?_; rintro e w2 ⟨rfl, hb⟩; have n0 := Aside0.mk (HC1.out.below hb); have n1 := Aside0.mk (blk_below BKr.out hb); have n2 := Aside0.mk (HB.out.trans (Below.mono hb HB.out.size)); clear BKr HB hb; have BKr := n1; have HB := n2; have HC2 := n0; clear n0 n1 n2; clear y0 y1 y2 y3 y4; have y0 : w2.cell? ⟨gr, 0, none⟩ = some (.int .u8 r.f0) := (blk_cell BKr.out 0).trans rfl; have y1 : w2.cell? ⟨gr, 1, none⟩ = some (.int .u64 r.f1) := (blk_cell BKr.out 1).trans rfl; have y2 : w2.cell? ⟨gr, 2, none⟩ = some (.int .i64 r.f2) := (blk_cell BKr.out 2).trans rfl; have y3 : w2.cell? ⟨gr, 3, none⟩ = some (.bool r.f3) := (blk_cell BKr.out 3).trans rfl; have y4 : w2.cell? ⟨gr, 4, none⟩ = some (.int .u64 r.f4) := (blk_cell BKr.out 4).trans rfl)
    | (go_at_call 16; with_reducible refine (asks.calls r true HA.out _).mono ?_; rintro e w3 ⟨rfl, hb⟩; have n0 := Aside0.mk (HC2.out.below hb); have n1 := Aside0.mk (blk_below BKr.out hb); have n2 := Aside0.mk (HB.out.trans (Below.mono hb HB.out.size)); clear BKr HB hb; have BKr := n1; have HB := n2; have HC3 := n0; clear n0 n1 n2; clear y0 y1 y2 y3 y4; have y0 : w3.cell? ⟨gr, 0, none⟩ = some (.int .u8 r.f0) := (blk_cell BKr.out 0).trans rfl; have y1 : w3.cell? ⟨gr, 1, none⟩ = some (.int .u64 r.f1) := (blk_cell BKr.out 1).trans rfl; have y2 : w3.cell? ⟨gr, 2, none⟩ = some (.int .i64 r.f2) := (blk_cell BKr.out 2).trans rfl; have y3 : w3.cell? ⟨gr, 3, none⟩ = some (.bool r.f3) := (blk_cell BKr.out 3).trans rfl; have y4 : w3.cell? ⟨gr, 4, none⟩ = some (.int .u64 r.f4) := (blk_cell BKr.out 4).trans rfl; have c1 : w3.cell? ⟨gc, 1, none⟩ = some (.slice Aw s.W.length cw) := HC3.out.c1)
    | (go_at_call 17; with_reducible refine (CF.out _ HC3.out BKr.out).mono ?_; rintro e w4 ⟨rfl, hb⟩; have n0 := Aside0.mk (HC3.out.below hb); have n1 := Aside0.mk (blk_below BKr.out hb); have n2 := Aside0.mk (HB.out.trans (Below.mono hb HB.out.size)); clear BKr HB hb; have BKr := n1; have HB := n2; have HC4 := n0; clear n0 n1 n2; clear y0 y1 y2 y3 y4; have y0 : w4.cell? ⟨gr, 0, none⟩ = some (.int .u8 r.f0) := (blk_cell BKr.out 0).trans rfl; have y1 : w4.cell? ⟨gr, 1, none⟩ = some (.int .u64 r.f1) := (blk_cell BKr.out 1).trans rfl; have y2 : w4.cell? ⟨gr, 2, none⟩ = some (.int .i64 r.f2) := (blk_cell BKr.out 2).trans rfl; have y3 : w4.cell? ⟨gr, 3, none⟩ = some (.bool r.f3) := (blk_cell BKr.out 3).trans rfl; have y4 : w4.cell? ⟨gr, 4, none⟩ = some (.int .u64 r.f4) := (blk_cell BKr.out 4).trans rfl; have c2 : w4.cell? ⟨gc, 2, none⟩ = some (.map (some mb)) := HC4.out.c2))
  go_upto_region 14 with (go_at_call 19; with_reducible refine (IN.out _ HC4.out).mono ?_; rintro e w5 ⟨rfl, hb⟩; have n0 := Aside0.mk (HC4.out.below hb); have n1 := Aside0.mk (blk_below BKr.out hb); have n2 := Aside0.mk (HB.out.trans (Below.mono hb HB.out.size)); clear BKr HB hb; have BKr := n1; have HB := n2; have HC5 := n0; clear n0 n1 n2; clear y0 y1 y2 y3 y4; have y0 : w5.cell? ⟨gr, 0, none⟩ = some (.int .u8 r.f0) := (blk_cell BKr.out 0).trans rfl; have y1 : w5.cell? ⟨gr, 1, none⟩ = some (.int .u64 r.f1) := (blk_cell BKr.out 1).trans rfl; have y2 : w5.cell? ⟨gr, 2, none⟩ = some (.int .i64 r.f2) := (blk_cell BKr.out 2).trans rfl; have y3 : w5.cell? ⟨gr, 3, none⟩ = some (.bool r.f3) := (blk_cell BKr.out 3).trans rfl; have y4 : w5.cell? ⟨gr, 4, none⟩ = some (.int .u64 r.f4) := (blk_cell BKr.out 4).trans rfl; have x3 : w5.cell? ⟨gl, i * 5 + 3, none⟩ = some (.int .u8 F3) := X3.out _ HC5.out)
  have HO3 : Aside0 (Kd.R k27 27 w5.drew B (fun _ => True) (.slice Aw s.W.length cw) s.W) := ⟨Kd.R_drew HC5.out.rowW.toR⟩
  have HB3 := Aside0.mk HC5.out.base
  have HL4 : Aside0 ((s.W.length + 1) * 40 ≤ 140737488355328) := ⟨by omega⟩
  have GRN : Aside0 (some gr ≠ (Value.slice Aw s.W.length cw).ownBlock) := ⟨fun e => by have h1 := HC.out.rowW.nil_own e.symm; have h2 := GGr.out; omega⟩
  have GCN : Aside0 (some gc ≠ (Value.slice Aw s.W.length cw).ownBlock) := ⟨HC5.out.gcW⟩
  refine start_ (n := 11) (S := fun w' => w'.cell? ⟨gc, 1, none⟩ = some (.slice Aw s.W.length cw) ∧ w'.heap[gr]? = some (.cells #[.int .u8 r.f0, .int .u64 r.f1, .int .i64 r.f2, .bool r.f3, .int .u64 r.f4] 27 (0, 0))) (ds := [10]) #[false, false, false, false, false, false, false, false, false, false, false] (by kernel_rfl) rfl rfl ⟨HC5.out.c1, BKr.out⟩ (fun hHeld => ?_)
  refine pure_ (i := 0) (N := some 66) (v := ?_) (a' := ?_) #[true, false, false, false, false, false, false, false, false, false, false] rfl rfl (by kernel_rfl) (fun _ _ _ h => h) (Or.inl ⟨by rfl, ?_⟩) ?_ ?_
  rotate_left
  · intro w'
    go_simp
    with_reducible rfl
  rotate_left
  · simp only [Act.put, List.setIfInBounds_toArray, List.set_cons_zero, List.set_cons_succ, i64_w, i32_w]
    rfl
  refine pure_ (i := 1) (N := some 67) (v := ?_) (a' := ?_) #[true, true, false, false, false, false, false, false, false, false, false] rfl rfl (by kernel_rfl) (fun _ _ _ h => h) (Or.inl ⟨by rfl, ?_⟩) ?_ ?_
  rotate_left
  · intro w'
    go_simp
    with_reducible rfl
  rotate_left
  · simp only [Act.put, List.setIfInBounds_toArray, List.set_cons_zero, List.set_cons_succ, i64_w, i32_w]
    rfl
  refine pure_ (i := 2) (N := some 68) (v := ?_) (a' := ?_) #[true, true, true, false, false, false, false, false, false, false, false] rfl rfl (by kernel_rfl) (fun _ _ _ h => h) (Or.inl ⟨by rfl, ?_⟩) ?_ ?_
  rotate_left
  · intro w'
    go_simp
    with_reducible rfl
  rotate_left
  · simp only [Act.put, List.setIfInBounds_toArray, List.set_cons_zero, List.set_cons_succ, i64_w, i32_w]
    rfl
  refine pure_ (i := 3) (N := some 69) (v := ?_) (a' := ?_) #[true, true, true, true, false, false, false, false, false, false, false] rfl rfl (by kernel_rfl) (fun _ _ _ h => h) (Or.inl ⟨by rfl, ?_⟩) ?_ ?_
  rotate_left
  · intro w'
    go_simp
    with_reducible rfl
  rotate_left
  · simp only [Act.put, List.setIfInBounds_toArray, List.set_cons_zero, List.set_cons_succ, i64_w, i32_w]
    rfl
  refine take_ (i := 4) (N := some 70) (v := ?_) (a' := ?_) #[true, true, true, true, true, false, false, false, false, false, false] rfl rfl (by kernel_rfl) (fun _ _ _ h => h) (Or.inl ⟨by rfl, ?_⟩) hHeld ?_ ?_
  rotate_left
  · rintro w' ⟨s0, s1⟩
    go_simp
    with_reducible rfl
  rotate_left
  · simp only [Act.put, List.setIfInBounds_toArray, List.set_cons_zero, List.set_cons_succ, i64_w, i32_w]
    rfl
  refine take_ (i := 5) (N := some 71) (v := ?_) (a' := ?_) #[true, true, true, true, true, true, false, false, false, false, false] rfl rfl (by kernel_rfl) (fun _ _ _ h => h) (Or.inl ⟨by rfl, ?_⟩) hHeld ?_ ?_
  rotate_left
  · rintro w' ⟨s0, s1⟩
    refine row27.load_run 3 gr #[.int .u8 r.f0, .int .u64 r.f1, .int .i64 r.f2, .bool r.f3, .int .u64 r.f4] ?_ ?_ w' s1 size27
    · rfl
    · rfl
  rotate_left
  · simp only [Act.put, List.setIfInBounds_toArray, List.set_cons_zero, List.set_cons_succ, i64_w, i32_w]
    rfl
  refine one_ (i := 6) (N := some 72) #[true, true, true, true, true, true, true, false, false, false, false] rfl rfl (by kernel_rfl) (by decide) (fun K hK => ?_)
  refine value_ (w1 := ?_) (v := ?_) (by rfl) rfl ?_ ?_
  rotate_left 2
  · go_simp
    constructor
    · rfl
    · rfl
  refine hK.out _ _ ⟨(blk_cell (blk_alloc (show w5.drew.heap[_]? = _ from HC5.out.1) _) 1).trans rfl, (blk_alloc (show w5.drew.heap[_]? = _ from BKr.out) _)⟩ (fun hHeld => ?_)
  clear hK K
  refine norm_ (a' := ?_) ?_ ?_
  rotate_left
  · show Act.put _ (some 72) _ = _
    simp only [Act.put, List.setIfInBounds_toArray, List.set_cons_zero, List.set_cons_succ, i64_w, i32_w]
    rfl
  refine one_ (i := 7) (N := some 73) #[true, true, true, true, true, true, true, true, false, false, false] rfl rfl (by kernel_rfl) (by decide) (fun K hK => ?_)
  refine Kd.R_append_step k27 (w0 := w5) B (by rfl) (.tmp 70) (.tmp 72) 35 27 (.agg #[.int .u8 0, .int .u64 0, .int .i64 0, .bool false, .int .u64 0]) 40 rfl Try.underlying35 info27 rfl (by decide) (by decide) (.slice Aw s.W.length cw) s.W r [.int .u8 r.f0, .int .u64 r.f1, .int .i64 r.f2, .bool r.f3, .int .u64 r.f4] (fun _ => True) (fun _ => False) rfl rfl (k27_mkM _ _ _ r) (fun _ hk => hk.elim) (fun _ _ => trivial) HO3.out (below_drew (Below.refl B w5)) HB3.out HL4.out ?_
  intro v1 w7 ho hb hg hat
  obtain ⟨Aq, nq, cq, eq⟩ := (Row27.ofR ho).slice3
  subst eq
  have BKr7 := Aside0.mk (blk_grown (g := gr) (show w5.drew.heap[gr]? = _ from BKr.out) hg GRN.out)
  have HG7 := Aside0.mk (blk_grown (g := gc) (show w5.drew.heap[gc]? = _ from HC5.out.1) hg GCN.out)
  have HO7 := Aside0.mk (Row27.ofR ho)
  have HB7 := Aside0.mk hb
  have GR7 := Aside0.mk hg
  have AT7 := Aside0.mk hat
  clear ho hb hg hat
  have x2 : w7.cell? ⟨gc, 1, none⟩ = some (.slice Aw s.W.length cw) := (blk_cell HG7.out 1).trans rfl
  have z2 := blk_frozen HG7.out 1
  refine hK.out _ _ ⟨x2, BKr7.out⟩ (fun hHeld => ?_)
  clear hK K
  refine norm_ (a' := ?_) ?_ ?_
  rotate_left
  · show Act.put _ (some 73) _ = _
    simp only [Act.put, List.setIfInBounds_toArray, List.set_cons_zero, List.set_cons_succ, i64_w, i32_w]
    rfl
  refine pure_ (i := 8) (N := some 74) (v := ?_) (a' := ?_) #[true, true, true, true, true, true, true, true, true, false, false] rfl rfl (by kernel_rfl) (fun _ _ _ h => h) (Or.inl ⟨by rfl, ?_⟩) ?_ ?_
  rotate_left
  · intro w'
    go_simp
    with_reducible rfl
  rotate_left
  · simp only [Act.put, List.setIfInBounds_toArray, List.set_cons_zero, List.set_cons_succ, i64_w, i32_w]
    rfl
  refine pure_ (i := 9) (N := some 75) (v := ?_) (a' := ?_) #[true, true, true, true, true, true, true, true, true, true, false] rfl rfl (by kernel_rfl) (fun _ _ _ h => h) (Or.inl ⟨by rfl, ?_⟩) ?_ ?_
  rotate_left
  · intro w'
    go_simp
    with_reducible rfl
  rotate_left
  · simp only [Act.put, List.setIfInBounds_toArray, List.set_cons_zero, List.set_cons_succ, i64_w, i32_w]
    rfl
  refine last_ (i := 10) (N := none) #[true, true, true, true, true, true, true, true, true, true, true] rfl rfl (by kernel_rfl) (by decide) (fun K hK => ?_)
  refine skip_ (w1 := ?_) (by rfl) rfl ?_ ?_
  rotate_left
  · go_simp
    rfl
  refine hK.out _ _ ?_
  clear hK K
  refine done_ (by kernel_rfl) ?_

  go_wp2
  go_ret
  have hsX : w.heap.size ≤ w5.heap.size := HB.out.size
  have hs7 : w5.heap.size ≤ w7.heap.size := HB7.out.size
  have gr7 : ∀ k, k < w5.heap.size → some k ≠ (Value.slice Aw s.W.length cw).ownBlock → w7.heap[k]? = w5.heap[k]? := fun k hk hne => GR7.out.block k hk hne
  have hL7 : Row50 w7 B (.slice (some ⟨gl, 0, none⟩) s.L.length c) s.L := HC5.out.rowL.moved fun k hk => by
    obtain ⟨cur, q1, _⟩ := HC5.out.rowL.owned hk
    exact gr7 k (blk_lt q1) (HC5.out.LW hk)
  have hM7 : MapIs w7 mb s.A := HC5.out.mapIs.kept (gr7 mb HC5.out.mapIs.lt HC5.out.mbW)
  have hC8 := Cl.putW HG7.out hL7 HO7.out hM7 HC.out.2.2.2.2.1 HC.out.2.2.2.2.2 HC.out.gcL (HO7.out.ne HG7.out (by decide)) HC.out.gcmb
  have hN : Nw w (.slice Aw s.W.length cw) (.slice Aq nq cq) := by
    rcases AT7.out with h | ⟨b, h, h2⟩
    · exact .inl h
    · exact .inr ⟨b, h, by have h3 : w5.heap.size ≤ b := h2; omega⟩
  exact ⟨rfl, _, .slice Aq nq cq, hC8, .refl _ _, hN, ((Below.mono HB.out HC.out.base).trans HB7.out).setCell (show B ≤ gc from HC.out.2.2.2.2.1) _, fun k hk a b c d => (heap_setCell_other w7 _ k _ a).trans ((gr7 k (by omega) d).trans (HB.out.block k hk))⟩

end Go.Proofs.Ytfhopjigdkjnoaa.GA
