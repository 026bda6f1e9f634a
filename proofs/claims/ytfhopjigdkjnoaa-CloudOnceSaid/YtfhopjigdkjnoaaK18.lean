/- grant. end, kill, risk, stop. notice, ready. ready. No condition. -/
import Derived.Test.YtfhopjigdkjnoaaK14
import Derived.Laws.CopyOwn
import Derived.Laws.CopyRow
import Derived.ChangeKeysEq
import Derived.Deep.RegionHeld3
import Derived.Deep.MidRow
import Derived.Shelf.Abstract
import Derived.Maps.OwnSet
import Derived.Maps.AppendAt
import Derived.WalkSpells
namespace Go.Proofs.Ytfhopjigdkjnoaa.GA
section
open Go.RowKit Go.Shelf Go.Proofs.YtfhopjigdkjnoaaW.PrintWords Go.Proofs.YtfhopjigdkjnoaaW.PrintLast Go.Proofs.YtfhopjigdkjnoaaW.PrintMore
set_option linter.unusedVariables false
set_option linter.unusedSimpArgs false

theorem row50.load_run {o : Oper} {a : Act} (t : Nat) (g : Nat) (cs : Array Value) (ho : o.op = .load 50 (.tmp t)) (hx : a.eval (.tmp t) = .pointer (some ⟨g, 0, none⟩)) (w : World) (hg : w.heap[g]? = some (.cells cs 50 (0, 0))) (hi : (Try.prog.info? 50).map (·.size) = some cs.size) :
    (execOp a.eval o).run Try.prog w = .ok (.value (.agg cs)) w := by
  unfold execOp
  simp only [ho, hx, Instr.loadAt, Instr.sureAddr, Sem.run_bind, Sem.run_pure, Result.andThen_ok, run_loadVar_row w g 50 50 cs (0, 0) _ hg Try.underlying50 rfl hi]

theorem wrapU (nl : Nat) (h : (nl : Int) < 8192) : IntKind.u64.wrap (IntKind.u64.wrap (nl : Int) + 1) = (nl : Int) + 1 := by
  have e : ∀ x : Int, IntKind.u64.wrap x = x % 18446744073709551616 := fun x => by first | rfl | (simp [IntKind.wrap]; done) | (unfold IntKind.wrap; simp; done)
  rw [e, e]
  omega

set_option maxHeartbeats 8000000 in
set_option maxRecDepth 100000 in
theorem grant.calls (w : World) (gc mb B : Nat) (vl vw : Value) (s : CS) (hC : Cl w gc mb B vl vw s) (hn : s.W.length ≤ 1000000) (ak an aa ab at_ : Int) (r : S27) (hk : Keys s.A) (hok : okK r.f1) (hnew : ∀ y ∈ s.A, y.1 ≠ r.f1) (hl : s.L.length < 8192) : Calls Try.prog 28 #[.pointer (some ⟨gc, 0, none⟩), .agg #[.int .u8 ak, .int .i64 an, .int .i64 aa, .int .i64 ab, .int .u64 at_], .agg #[.int .u8 r.f0, .int .u64 r.f1, .int .i64 r.f2, .bool r.f3, .int .u64 r.f4]] w fun e' w' => ∃ v, e' = .returned v ∧ Evs w' w.heap.size v (some ⟨10, r.f1, s.L.length + 1, 0, 0, 0, 0⟩) ∧ Post w w' gc mb B vl vw (grantS s r) := by
  have HC := Aside0.mk hC
  have HK := Aside0.mk hk
  have HO := Aside0.mk hok
  have HN := Aside0.mk hnew
  have HL := Aside0.mk hl
  have HB := Aside0.mk (Below.refl w.heap.size w)
  obtain ⟨A, c, hv, hc, -⟩ := hC.rowL.slice
  obtain ⟨nl, hnl⟩ : ∃ nl, nl = s.L.length := ⟨_, rfl⟩
  have HNL := Aside0.mk hnl
  rw [← hnl] at hv
  subst hv
  have hlt : ¬ ((nl : Int) ≥ 8192) := by omega
  have hlt2 : (nl : Int) < 8192 := by omega
  have WZ : Aside0 (IntKind.u64.wrap (IntKind.u64.wrap (nl : Int) + 1) = (nl : Int) + 1) := ⟨wrapU nl hlt2⟩
  clear hC hk hok hnew hnl hl
  go_enter Try.func28, Try.ntmps28
  go_upto_region 1 with (first
    | ((with_reducible refine gate_dst (N := 4) rfl ?_); refine box_event ?hg (N := 4) ?hd (cs := #[.int .u8 ak, .int .i64 an, .int .i64 aa, .int .i64 ab, .int .u64 at_]) (t := 31) ?hr ?_; (case hd => rfl); (case hg => rfl); (case hr => first | (go_simp; done) | (go_simp; rfl)); intro ga hg w1_a hbox hb; have GGa := Aside0.mk (show w.heap.size ≤ ga from by rw [hg]; exact below_size (by repeat (first | (with_reducible first | exact HB.out | apply below_alloc | apply pw_below_drewN | apply below_drew1) | exact HB.out))); have BKa := Aside0.mk hbox; clear hbox hg; have n0_ := Aside0.mk (below_step (by repeat (first | (with_reducible first | exact HB.out | apply below_alloc | apply pw_below_drewN | apply below_drew1) | exact HB.out)) hb); clear HB; have HB := n0_; clear n0_ hb)
    | ((with_reducible refine gate_dst (N := 5) rfl ?_); refine box_event ?hg (N := 5) ?hd (cs := #[.int .u8 r.f0, .int .u64 r.f1, .int .i64 r.f2, .bool r.f3, .int .u64 r.f4]) (t := 27) ?hr ?_; (case hd => rfl); (case hg => rfl); (case hr => first | (go_simp; done) | (go_simp; rfl)); intro gr hg w1_r hbox hb; have GGr := Aside0.mk (show w.heap.size ≤ gr from by rw [hg]; exact below_size (by repeat (first | (with_reducible first | exact HB.out | apply below_alloc | apply pw_below_drewN | apply below_drew1) | exact HB.out))); have BKr := Aside0.mk hbox; clear hbox hg; have n0_ := Aside0.mk (below_step (by repeat (first | (with_reducible first | exact HB.out | apply below_alloc | apply pw_below_drewN | apply below_drew1) | exact HB.out)) hb); (first | have n1_ := Aside0.mk (blk_below BKa.out hb) | have n1_ := Aside0.mk (blk_below (blk_drewN BKa.out _) hb) | have n1_ := Aside0.mk (blk_below (blk_drew BKa.out) hb) | have n1_ := Aside0.mk (blk_below (blk_alloc BKa.out _) hb) | have n1_ := Aside0.mk (blk_below (by first | exact BKa.out | ((with_reducible repeat (first | refine blk_drewN ?_ _ | refine blk_drew ?_ | refine blk_alloc ?_ _)); exact BKa.out)) hb)); clear HB BKa; have HB := n0_; have BKa := n1_; clear n0_ n1_ hb))
  have HC1 := Aside0.mk (HC.out.below HB.out)
  have HG1 := Aside0.mk HC1.out.1
  have c0 := HC1.out.c0
  go_upto_region 3 with fail
  refine start_ (n := 14) (S := fun w' => w'.cell? ⟨gc, 0, none⟩ = some (.slice A nl c) ∧ w'.cell? ⟨gr, 1, none⟩ = some (.int .u64 r.f1) ∧ w'.cell? ⟨gr, 2, none⟩ = some (.int .i64 r.f2)) (ds := [13]) #[false, false, false, false, false, false, false, false, false, false, false, false, false, false] (by kernel_rfl) rfl rfl ⟨c0, ((blk_cell BKr.out 1).trans rfl), ((blk_cell BKr.out 2).trans rfl)⟩ (fun hHeld => ?_)
  refine pure_ (i := 0) (N := some 14) (v := ?_) (a' := ?_) #[true, false, false, false, false, false, false, false, false, false, false, false, false, false] rfl rfl (by kernel_rfl) (fun _ _ _ h => h) (Or.inl ⟨by rfl, ?_⟩) ?_ ?_
  rotate_left
  · intro w'
    go_simp
    with_reducible rfl
  rotate_left
  · simp only [Act.put, List.setIfInBounds_toArray, List.set_cons_zero, List.set_cons_succ, i64_w, i32_w]
    rfl
  refine pure_ (i := 1) (N := some 15) (v := ?_) (a' := ?_) #[true, true, false, false, false, false, false, false, false, false, false, false, false, false] rfl rfl (by kernel_rfl) (fun _ _ _ h => h) (Or.inl ⟨by rfl, ?_⟩) ?_ ?_
  rotate_left
  · intro w'
    go_simp
    with_reducible rfl
  rotate_left
  · simp only [Act.put, List.setIfInBounds_toArray, List.set_cons_zero, List.set_cons_succ, i64_w, i32_w]
    rfl
  refine pure_ (i := 2) (N := some 16) (v := ?_) (a' := ?_) #[true, true, true, false, false, false, false, false, false, false, false, false, false, false] rfl rfl (by kernel_rfl) (fun _ _ _ h => h) (Or.inl ⟨by rfl, ?_⟩) ?_ ?_
  rotate_left
  · intro w'
    go_simp
    with_reducible rfl
  rotate_left
  · simp only [Act.put, List.setIfInBounds_toArray, List.set_cons_zero, List.set_cons_succ, i64_w, i32_w]
    rfl
  refine pure_ (i := 7) (N := some 21) (v := ?_) (a' := ?_) #[true, true, true, false, false, false, false, true, false, false, false, false, false, false] rfl rfl (by kernel_rfl) (fun _ _ _ h => h) (Or.inl ⟨by rfl, ?_⟩) ?_ ?_
  rotate_left
  · intro w'
    go_simp
    with_reducible rfl
  rotate_left
  · simp only [Act.put, List.setIfInBounds_toArray, List.set_cons_zero, List.set_cons_succ, i64_w, i32_w]
    rfl
  refine pure_ (i := 9) (N := some 23) (v := ?_) (a' := ?_) #[true, true, true, false, false, false, false, true, false, true, false, false, false, false] rfl rfl (by kernel_rfl) (fun _ _ _ h => h) (Or.inl ⟨by rfl, ?_⟩) ?_ ?_
  rotate_left
  · intro w'
    go_simp
    with_reducible rfl
  rotate_left
  · simp only [Act.put, List.setIfInBounds_toArray, List.set_cons_zero, List.set_cons_succ, i64_w, i32_w]
    rfl
  refine take_ (i := 3) (N := some 17) (v := ?_) (a' := ?_) #[true, true, true, true, false, false, false, true, false, true, false, false, false, false] rfl rfl (by kernel_rfl) (fun _ _ _ h => h) (Or.inl ⟨by rfl, ?_⟩) hHeld ?_ ?_
  rotate_left
  · rintro w' ⟨s0, s1, s2⟩
    go_simp
    with_reducible rfl
  rotate_left
  · simp only [Act.put, List.setIfInBounds_toArray, List.set_cons_zero, List.set_cons_succ, i64_w, i32_w]
    rfl
  refine pure_ (i := 4) (N := some 18) (v := ?_) (a' := ?_) #[true, true, true, true, true, false, false, true, false, true, false, false, false, false] rfl rfl (by kernel_rfl) (fun _ _ _ h => h) (Or.inl ⟨by rfl, ?_⟩) ?_ ?_
  rotate_left
  · intro w'
    go_simp
    with_reducible rfl
  rotate_left
  · simp only [Act.put, List.setIfInBounds_toArray, List.set_cons_zero, List.set_cons_succ, i64_w, i32_w]
    rfl
  refine pure_ (i := 5) (N := some 19) (v := ?_) (a' := ?_) #[true, true, true, true, true, true, false, true, false, true, false, false, false, false] rfl rfl (by kernel_rfl) (fun _ _ _ h => h) (Or.inl ⟨by rfl, ?_⟩) ?_ ?_
  rotate_left
  · intro w'
    go_simp
    with_reducible rfl
  rotate_left
  · simp only [Act.put, List.setIfInBounds_toArray, List.set_cons_zero, List.set_cons_succ, i64_w, i32_w]
    rfl
  refine pure_ (i := 6) (N := some 20) (v := ?_) (a' := ?_) #[true, true, true, true, true, true, true, true, false, true, false, false, false, false] rfl rfl (by kernel_rfl) (fun _ _ _ h => h) (Or.inl ⟨by rfl, ?_⟩) ?_ ?_
  rotate_left
  · intro w'
    go_simp
    with_reducible rfl
  rotate_left
  · simp only [Act.put, List.setIfInBounds_toArray, List.set_cons_zero, List.set_cons_succ, i64_w, i32_w]
    rfl
  refine take_ (i := 8) (N := some 22) (v := ?_) (a' := ?_) #[true, true, true, true, true, true, true, true, true, true, false, false, false, false] rfl rfl (by kernel_rfl) (fun _ _ _ h => h) (Or.inl ⟨by rfl, ?_⟩) hHeld ?_ ?_
  rotate_left
  · rintro w' ⟨s0, s1, s2⟩
    go_simp
    with_reducible rfl
  rotate_left
  · simp only [Act.put, List.setIfInBounds_toArray, List.set_cons_zero, List.set_cons_succ, i64_w, i32_w]
    rfl
  refine take_ (i := 10) (N := some 24) (v := ?_) (a' := ?_) #[true, true, true, true, true, true, true, true, true, true, true, false, false, false] rfl rfl (by kernel_rfl) (fun _ _ _ h => h) (Or.inl ⟨by rfl, ?_⟩) hHeld ?_ ?_
  rotate_left
  · rintro w' ⟨s0, s1, s2⟩
    go_simp
    with_reducible rfl
  rotate_left
  · simp only [Act.put, List.setIfInBounds_toArray, List.set_cons_zero, List.set_cons_succ, i64_w, i32_w]
    rfl
  refine pure_ (i := 11) (N := some 25) (v := ?_) (a' := ?_) #[true, true, true, true, true, true, true, true, true, true, true, true, false, false] rfl rfl (by kernel_rfl) (fun _ _ _ h => h) (Or.inl ⟨by rfl, ?_⟩) ?_ ?_
  rotate_left
  · intro w'
    go_simp
    with_reducible rfl
  rotate_left
  · simp only [Act.put, List.setIfInBounds_toArray, List.set_cons_zero, List.set_cons_succ, i64_w, i32_w]
    rfl
  refine one_ (i := 12) (N := some 7) #[true, true, true, true, true, true, true, true, true, true, true, true, true, false] rfl rfl (by kernel_rfl) (by decide) (fun K hK => ?_)
  refine value_ (w1 := ?_) (v := ?_) (by rfl) rfl ?_ ?_
  rotate_left 2
  · go_simp
    constructor
    · rfl
    · rfl
  refine hK.out _ _ ⟨(blk_cell (blk_alloc (show w1_r.drew.heap[_]? = _ from HG1.out) _) 0).trans rfl, (blk_cell (blk_alloc (show w1_r.drew.heap[_]? = _ from BKr.out) _) 1).trans rfl, (blk_cell (blk_alloc (show w1_r.drew.heap[_]? = _ from BKr.out) _) 2).trans rfl⟩ (fun hHeld => ?_)
  clear hK K
  refine norm_ (a' := ?_) ?_ ?_
  rotate_left
  · show Act.put _ (some 7) _ = _
    simp only [Act.put, List.setIfInBounds_toArray, List.set_cons_zero, List.set_cons_succ, i64_w, i32_w]
    rfl
  refine last_ (i := 13) (N := none) #[true, true, true, true, true, true, true, true, true, true, true, true, true, true] rfl rfl (by kernel_rfl) (by decide) (fun K hK => ?_)
  refine store_row_ev (by rfl) rfl 50 7 25 rfl w1_r.heap.size #[.int .u64 ((nl : Int) + 1), .int .u64 r.f1, .int .i64 r.f2, .int .u8 1, .int .u64 0] rfl (by go_simp; exact WZ.out) 50 #[.int .u64 0, .int .u64 0, .int .i64 0, .int .u8 0, .int .u64 0] (heap_alloc_new w1_r.drew _) size50 rfl (all_oneCell_toArray (flat50_one [⟨(nl : Int) + 1, r.f1, r.f2, 1, 0⟩])) ?_
  refine hK.out _ _ ?_
  clear hK K
  refine done_ (by kernel_rfl) ?_

  go_upto_region 4 with fail
  obtain ⟨gg, hgg⟩ : ∃ gg, gg = w1_r.heap.size := ⟨_, rfl⟩
  have HGG := Aside0.mk hgg
  have WE := WZ.out
  rw [WE]
  have b13 : Below w1_r.heap.size w1_r ((w1_r.alloc (.cells #[.int .u64 0, .int .u64 0, .int .i64 0, .int .u8 0, .int .u64 0] 50 (0, 0))).drew.setRow w1_r.heap.size #[.int .u64 ((nl : Int) + 1), .int .u64 r.f1, .int .i64 r.f2, .int .u8 1, .int .u64 0]) := below_setRow (below_drew (below_alloc (Below.refl w1_r.heap.size w1_r) _)) (Nat.le_refl _) _
  have bkg : ((w1_r.alloc (.cells #[.int .u64 0, .int .u64 0, .int .i64 0, .int .u8 0, .int .u64 0] 50 (0, 0))).drew.setRow w1_r.heap.size #[.int .u64 ((nl : Int) + 1), .int .u64 r.f1, .int .i64 r.f2, .int .u8 1, .int .u64 0]).heap[w1_r.heap.size]? = some (.cells #[.int .u64 ((nl : Int) + 1), .int .u64 r.f1, .int .i64 r.f2, .int .u8 1, .int .u64 0] 50 (0, 0)) := setRow_heap _ _ _ _ _ _ (heap_alloc_new w1_r _)
  clear hHeld WE
  generalize World.setRow _ _ _ = w3 at b13 bkg ⊢
  rw [← hgg] at bkg ⊢
  have B13 := Aside0.mk b13
  have BKg := Aside0.mk bkg
  have HC3 := Aside0.mk (HC1.out.below b13)
  have HG3 := Aside0.mk HC3.out.1
  have BKr3 := Aside0.mk (blk_below BKr.out b13)
  have HO3 : Aside0 (Kd.R k50 50 w3.drew B (fun _ => True) (.slice A nl c) s.L) := ⟨Kd.R_drew HC3.out.rowL.toR⟩
  have HB3 := Aside0.mk HC3.out.base
  have HL4 : Aside0 ((s.L.length + 1) * 40 ≤ 140737488355328) := ⟨by have := HL.out; omega⟩
  have GGN : Aside0 (some gg ≠ (Value.slice A nl c).ownBlock) := ⟨fun e => by obtain ⟨cur, q, _⟩ := HC1.out.rowL.owned e.symm; have := blk_lt q; have := HGG.out; omega⟩
  have GRN : Aside0 (some gr ≠ (Value.slice A nl c).ownBlock) := ⟨HC3.out.rowL.ne BKr3.out (by decide)⟩
  have GCN : Aside0 (some gc ≠ (Value.slice A nl c).ownBlock) := ⟨HC3.out.gcL⟩
  clear b13 bkg hgg
  refine start_ (n := 11) (S := fun w' => w'.cell? ⟨gc, 0, none⟩ = some (.slice A nl c) ∧ w'.heap[gg]? = some (.cells #[.int .u64 ((nl : Int) + 1), .int .u64 r.f1, .int .i64 r.f2, .int .u8 1, .int .u64 0] 50 (0, 0))) (ds := [10]) #[false, false, false, false, false, false, false, false, false, false, false] (by kernel_rfl) rfl rfl ⟨HC3.out.c0, BKg.out⟩ (fun hHeld => ?_)
  refine pure_ (i := 0) (N := some 26) (v := ?_) (a' := ?_) #[true, false, false, false, false, false, false, false, false, false, false] rfl rfl (by kernel_rfl) (fun _ _ _ h => h) (Or.inl ⟨by rfl, ?_⟩) ?_ ?_
  rotate_left
  · intro w'
    go_simp
    with_reducible rfl
  rotate_left
  · simp only [Act.put, List.setIfInBounds_toArray, List.set_cons_zero, List.set_cons_succ, i64_w, i32_w]
    rfl
  refine pure_ (i := 1) (N := some 27) (v := ?_) (a' := ?_) #[true, true, false, false, false, false, false, false, false, false, false] rfl rfl (by kernel_rfl) (fun _ _ _ h => h) (Or.inl ⟨by rfl, ?_⟩) ?_ ?_
  rotate_left
  · intro w'
    go_simp
    with_reducible rfl
  rotate_left
  · simp only [Act.put, List.setIfInBounds_toArray, List.set_cons_zero, List.set_cons_succ, i64_w, i32_w]
    rfl
  refine pure_ (i := 2) (N := some 28) (v := ?_) (a' := ?_) #[true, true, true, false, false, false, false, false, false, false, false] rfl rfl (by kernel_rfl) (fun _ _ _ h => h) (Or.inl ⟨by rfl, ?_⟩) ?_ ?_
  rotate_left
  · intro w'
    go_simp
    with_reducible rfl
  rotate_left
  · simp only [Act.put, List.setIfInBounds_toArray, List.set_cons_zero, List.set_cons_succ, i64_w, i32_w]
    rfl
  refine pure_ (i := 3) (N := some 29) (v := ?_) (a' := ?_) #[true, true, true, true, false, false, false, false, false, false, false] rfl rfl (by kernel_rfl) (fun _ _ _ h => h) (Or.inl ⟨by rfl, ?_⟩) ?_ ?_
  rotate_left
  · intro w'
    go_simp
    with_reducible rfl
  rotate_left
  · simp only [Act.put, List.setIfInBounds_toArray, List.set_cons_zero, List.set_cons_succ, i64_w, i32_w]
    rfl
  refine take_ (i := 4) (N := some 30) (v := ?_) (a' := ?_) #[true, true, true, true, true, false, false, false, false, false, false] rfl rfl (by kernel_rfl) (fun _ _ _ h => h) (Or.inl ⟨by rfl, ?_⟩) hHeld ?_ ?_
  rotate_left
  · rintro w' ⟨s0, s1⟩
    go_simp
    with_reducible rfl
  rotate_left
  · simp only [Act.put, List.setIfInBounds_toArray, List.set_cons_zero, List.set_cons_succ, i64_w, i32_w]
    rfl
  refine take_ (i := 5) (N := some 31) (v := ?_) (a' := ?_) #[true, true, true, true, true, true, false, false, false, false, false] rfl rfl (by kernel_rfl) (fun _ _ _ h => h) (Or.inl ⟨by rfl, ?_⟩) hHeld ?_ ?_
  rotate_left
  · rintro w' ⟨s0, s1⟩
    refine row50.load_run 7 gg #[.int .u64 ((nl : Int) + 1), .int .u64 r.f1, .int .i64 r.f2, .int .u8 1, .int .u64 0] ?_ ?_ w' s1 size50
    · rfl
    · rfl
  rotate_left
  · simp only [Act.put, List.setIfInBounds_toArray, List.set_cons_zero, List.set_cons_succ, i64_w, i32_w]
    rfl
  refine one_ (i := 6) (N := some 32) #[true, true, true, true, true, true, true, false, false, false, false] rfl rfl (by kernel_rfl) (by decide) (fun K hK => ?_)
  refine value_ (w1 := ?_) (v := ?_) (by rfl) rfl ?_ ?_
  rotate_left 2
  · go_simp
    constructor
    · rfl
    · rfl
  refine hK.out _ _ ⟨(blk_cell (blk_alloc (show w3.drew.heap[_]? = _ from HG3.out) _) 0).trans rfl, (blk_alloc (show w3.drew.heap[_]? = _ from BKg.out) _)⟩ (fun hHeld => ?_)
  clear hK K
  refine norm_ (a' := ?_) ?_ ?_
  rotate_left
  · show Act.put _ (some 32) _ = _
    simp only [Act.put, List.setIfInBounds_toArray, List.set_cons_zero, List.set_cons_succ, i64_w, i32_w]
    rfl
  refine one_ (i := 7) (N := some 33) #[true, true, true, true, true, true, true, true, false, false, false] rfl rfl (by kernel_rfl) (by decide) (fun K hK => ?_)
  refine Kd.R_append_step k50 (w0 := w3) B (by rfl) (.tmp 30) (.tmp 32) 47 50 (.agg #[.int .u64 0, .int .u64 0, .int .i64 0, .int .u8 0, .int .u64 0]) 40 rfl Try.underlying47 info50 rfl (by decide) (by decide) (.slice A nl c) s.L ⟨(nl : Int) + 1, r.f1, r.f2, 1, 0⟩ [.int .u64 ((nl : Int) + 1), .int .u64 r.f1, .int .i64 r.f2, .int .u8 1, .int .u64 0] (fun _ => True) (fun _ => False) rfl rfl (k50_mkM _ _ _ ⟨(nl : Int) + 1, r.f1, r.f2, 1, 0⟩) (fun _ hk => hk.elim) (fun _ _ => trivial) HO3.out (below_drew (Below.refl B w3)) HB3.out HL4.out ?_
  intro v1 w5 ho hb hg hat
  obtain ⟨Aq, nq, cq, eq⟩ := (Row50.ofR ho).slice3
  subst eq
  have BKg5 := Aside0.mk (blk_grown (g := gg) (show w3.drew.heap[gg]? = _ from BKg.out) hg GGN.out)
  have BKr5 := Aside0.mk (blk_grown (g := gr) (show w3.drew.heap[gr]? = _ from BKr3.out) hg GRN.out)
  have HG5 := Aside0.mk (blk_grown (g := gc) (show w3.drew.heap[gc]? = _ from HG3.out) hg GCN.out)
  have HO5 := Aside0.mk (Row50.ofR ho)
  have HB5 := Aside0.mk hb
  have GR5 := Aside0.mk hg
  have AT5 := Aside0.mk hat
  clear ho hb hg hat
  have x2 : w5.cell? ⟨gc, 0, none⟩ = some (.slice A nl c) := (blk_cell HG5.out 0).trans rfl
  have z2 := blk_frozen HG5.out 0
  refine hK.out _ _ ⟨x2, BKg5.out⟩ (fun hHeld => ?_)
  clear hK K
  refine norm_ (a' := ?_) ?_ ?_
  rotate_left
  · show Act.put _ (some 33) _ = _
    simp only [Act.put, List.setIfInBounds_toArray, List.set_cons_zero, List.set_cons_succ, i64_w, i32_w]
    rfl
  refine pure_ (i := 8) (N := some 34) (v := ?_) (a' := ?_) #[true, true, true, true, true, true, true, true, true, false, false] rfl rfl (by kernel_rfl) (fun _ _ _ h => h) (Or.inl ⟨by rfl, ?_⟩) ?_ ?_
  rotate_left
  · intro w'
    go_simp
    with_reducible rfl
  rotate_left
  · simp only [Act.put, List.setIfInBounds_toArray, List.set_cons_zero, List.set_cons_succ, i64_w, i32_w]
    rfl
  refine pure_ (i := 9) (N := some 35) (v := ?_) (a' := ?_) #[true, true, true, true, true, true, true, true, true, true, false] rfl rfl (by kernel_rfl) (fun _ _ _ h => h) (Or.inl ⟨by rfl, ?_⟩) ?_ ?_
  rotate_left
  · intro w'
    go_simp
    with_reducible rfl
  rotate_left
  · simp only [Act.put, List.setIfInBounds_toArray, List.set_cons_zero, List.set_cons_succ, i64_w, i32_w]
    rfl
  refine last_ (i := 10) (N := none) #[true, true, true, true, true, true, true, true, true, true, true] rfl rfl (by kernel_rfl) (by decide) (fun K hK => ?_)
  refine skip_ (w1 := ?_) (by rfl) rfl ?_ ?_
  rotate_left
  · go_simp
    rfl
  refine hK.out _ _ ?_
  clear hK K
  refine done_ (by kernel_rfl) ?_

  go_upto_region 5 with fail
  have hs1 : w.heap.size ≤ w1_r.heap.size := HB.out.size
  have hs3 : w1_r.heap.size ≤ w3.heap.size := B13.out.size
  have hs5 : w3.heap.size ≤ w5.heap.size := HB5.out.size
  have gr5 : ∀ k, k < w3.heap.size → some k ≠ (Value.slice A nl c).ownBlock → w5.heap[k]? = w3.heap[k]? := fun k hk hne => GR5.out.block k hk hne
  have hW5 : Row27 w5 B vw s.W := HC3.out.rowW.moved fun k hk => gr5 k (HC3.out.rowW.nil_own hk) (fun e => HC3.out.LW e.symm hk.symm)
  have hM5 : MapIs w5 mb s.A := HC3.out.mapIs.kept (gr5 mb HC3.out.mapIs.lt HC3.out.mbL)
  have HC6 := Aside0.mk (Cl.putL HG5.out HO5.out hW5 hM5 HC3.out.2.2.2.2.1 HC3.out.2.2.2.2.2 (HO5.out.ne HG5.out (by decide)) HC3.out.gcW HC3.out.gcmb)
  have ner : gr ≠ gc := fun e => by have h1 := BKr5.out; rw [e, HG5.out] at h1; injection h1 with h1; injection h1 with _ h1; cases h1
  have neg : gg ≠ gc := fun e => by have h1 := BKg5.out; rw [e, HG5.out] at h1; injection h1 with h1; injection h1 with _ h1; cases h1
  have BKr6 := Aside0.mk ((heap_setCell_other w5 ⟨gc, 0, none⟩ gr (.slice Aq nq cq) ner).trans BKr5.out)
  have BKg6 := Aside0.mk ((heap_setCell_other w5 ⟨gc, 0, none⟩ gg (.slice Aq nq cq) neg).trans BKg5.out)
  have B6 : Aside0 (Below B w (w5.setCell ⟨gc, 0, none⟩ (.slice Aq nq cq))) := ⟨(((Below.mono HB.out HC.out.base).trans (Below.mono B13.out HC1.out.base)).trans HB5.out).setCell (show B ≤ gc from HC.out.2.2.2.2.1) _⟩
  have F6 : Aside0 (∀ k, k < w.heap.size → k ≠ gc → some k ≠ (Value.slice A nl c).ownBlock → (w5.setCell ⟨gc, 0, none⟩ (.slice Aq nq cq)).heap[k]? = w.heap[k]?) := ⟨fun k hk a d => (heap_setCell_other w5 _ k _ a).trans ((gr5 k (by omega) d).trans ((B13.out.block k (by omega)).trans (HB.out.block k hk)))⟩
  have N6 : Aside0 (Nw w (.slice A nl c) (.slice Aq nq cq)) := ⟨by
    rcases AT5.out with h | ⟨b, h, h2⟩
    · exact .inl h
    · exact .inr ⟨b, h, by have h3 : w3.heap.size ≤ b := h2; omega⟩⟩
  clear hHeld x2 z2 hs1 hs3 hs5 gr5 hW5 hM5 ner neg
  generalize World.setCell w5 _ _ = w6 at HC6 BKr6 BKg6 B6 F6 ⊢
  have y0 : w6.cell? ⟨gr, 0, none⟩ = some (.int .u8 r.f0) := (blk_cell BKr6.out 0).trans rfl
  have y1 : w6.cell? ⟨gr, 1, none⟩ = some (.int .u64 r.f1) := (blk_cell BKr6.out 1).trans rfl
  have y2 : w6.cell? ⟨gr, 2, none⟩ = some (.int .i64 r.f2) := (blk_cell BKr6.out 2).trans rfl
  have y3 : w6.cell? ⟨gr, 3, none⟩ = some (.bool r.f3) := (blk_cell BKr6.out 3).trans rfl
  have y4 : w6.cell? ⟨gr, 4, none⟩ = some (.int .u64 r.f4) := (blk_cell BKr6.out 4).trans rfl
  have g0 : w6.cell? ⟨gg, 0, none⟩ = some (.int .u64 ((nl : Int) + 1)) := (blk_cell BKg6.out 0).trans rfl
  go_wp2_with (go_at_call 37; with_reducible refine (answer.litG _ gc mb B (.slice Aq nq cq) vw ⟨s.L ++ [⟨(nl : Int) + 1, r.f1, r.f2, 1, 0⟩], s.W, s.A⟩ HC6.out hn r 10 r.f1 ((nl : Int) + 1) HK.out HO.out HN.out).mono ?_; rintro e9 w7 ⟨v3, rfl, hv, hp⟩; have HV3 := Aside0.mk hv; have HP3 := Aside0.mk hp; clear hv hp)
  go_ret
  have e := HNL.out
  have hs6 : w.heap.size ≤ w6.heap.size := B6.out.size
  subst e
  exact ⟨v3, rfl, HV3.out.base hs6, Post.trans HP3.out N6.out (.refl _ _) B6.out (fun k hk a _ b _ => F6.out k hk a b) (Nat.le_trans HC.out.base hs6)⟩
end
section
open Go.RowKit Go.Shelf Go.Proofs.YtfhopjigdkjnoaaW.PrintWords Go.Proofs.YtfhopjigdkjnoaaW.PrintLast Go.Proofs.YtfhopjigdkjnoaaW.PrintMore
set_option linter.unusedVariables false
set_option linter.unusedSimpArgs false

theorem Cl.zL {w : World} {gc mb B gl n c : Nat} {vw : Value} {s : CS} (h : Cl w gc mb B (.slice (some ⟨gl, 0, none⟩) n c) vw s) (k : Nat) {i : Nat} : w.frozen? ⟨gl, i * 5 + k, none⟩ = false := by obtain ⟨cur, q, _⟩ := h.rowL.owned rfl; exact blk_frozen q _
theorem Cl.x0 {w : World} {gc mb B gl n c : Nat} {vw : Value} {s : CS} (h : Cl w gc mb B (.slice (some ⟨gl, 0, none⟩) n c) vw s) {i : Nat} (hi : i < s.L.length) : w.cell? ⟨gl, i * 5, none⟩ = some (.int .u64 s.L[i].f0) := (h.cells hi).choose_spec.2.2.1
theorem Cl.x3 {w : World} {gc mb B gl n c : Nat} {vw : Value} {s : CS} (h : Cl w gc mb B (.slice (some ⟨gl, 0, none⟩) n c) vw s) {i : Nat} (hi : i < s.L.length) : w.cell? ⟨gl, i * 5 + 3, none⟩ = some (.int .u8 s.L[i].f3) := (h.cells hi).choose_spec.2.2.2.1
theorem Cl.x4 {w : World} {gc mb B gl n c : Nat} {vw : Value} {s : CS} (h : Cl w gc mb B (.slice (some ⟨gl, 0, none⟩) n c) vw s) {i : Nat} (hi : i < s.L.length) : w.cell? ⟨gl, i * 5 + 4, none⟩ = some (.int .u64 s.L[i].f4) := (h.cells hi).choose_spec.2.2.2.2
theorem Cl.setSt {w : World} {gc mb B gl n c : Nat} {vw : Value} {s : CS} (h : Cl w gc mb B (.slice (some ⟨gl, 0, none⟩) n c) vw s) (i : Nat) (hi : i < s.L.length) (u : Int) : Cl (w.setCell ⟨gl, i * 5 + 3, none⟩ (.int .u8 u)) gc mb B (.slice (some ⟨gl, 0, none⟩) n c) vw ⟨setSt s.L i u, s.W, s.A⟩ := by
  rw [GA.setSt, at50_eq hi]
  exact h.setL3 i hi u
theorem Cl.setKill {w : World} {gc mb B gl n c : Nat} {vw : Value} {s : CS} (h : Cl w gc mb B (.slice (some ⟨gl, 0, none⟩) n c) vw s) (i : Nat) (hi : i < s.L.length) (u : Int) : Cl (w.setCell ⟨gl, i * 5 + 4, none⟩ (.int .u64 u)) gc mb B (.slice (some ⟨gl, 0, none⟩) n c) vw ⟨setKill s.L i u, s.W, s.A⟩ := by
  rw [GA.setKill, at50_eq hi]
  exact h.setL4 i hi u
theorem Cl.far {w w' : World} {gc mb B : Nat} {vl vw : Value} {s : CS} (h : Cl w gc mb B vl vw s) (f : Fr w w' gc mb vl vw) {g : Nat} {cs : Array Value} {t : TypeId} (hg : w.heap[g]? = some (.cells cs t (0, 0))) (h1 : t ≠ 56) (h2 : t ≠ 50) (h3 : t ≠ 27) : w'.heap[g]? = some (.cells cs t (0, 0)) :=
  (f g (blk_lt hg) (fun e => by have h4 := h.1; rw [← e, hg] at h4; injection h4 with h4; injection h4 with _ h4; exact h1 h4) (fun e => by obtain ⟨es, c, h4, _⟩ := h.mapIs; rw [← e, hg] at h4; injection h4 with h4; cases h4) (h.rowL.ne hg h2) (h.rowW.ne hg h3)).trans hg
theorem Cl.far27 {w w' : World} {gc mb B : Nat} {vl vw : Value} {s : CS} (h : Cl w gc mb B vl vw s) (f : Fr w w' gc mb vl vw) {g : Nat} {cs : Array Value} (hg : w.heap[g]? = some (.cells cs 27 (0, 0))) (h3 : some g ≠ vw.ownBlock) : w'.heap[g]? = some (.cells cs 27 (0, 0)) :=
  (f g (blk_lt hg) (fun e => by have h4 := h.1; rw [← e, hg] at h4; injection h4 with h4; injection h4 with _ h4; cases h4) (fun e => by obtain ⟨es, c, h4, _⟩ := h.mapIs; rw [← e, hg] at h4; injection h4 with h4; cases h4) (h.rowL.ne hg (by decide)) h3).trans hg
def stopS' (s : CS) (i : Nat) (t : Int) : CS := closeS ⟨setSt s.L i 3, s.W, s.A⟩ t

set_option maxHeartbeats 8000000 in
set_option maxRecDepth 100000 in
theorem end_.calls (w : World) (gc mb B gl c : Nat) (vw : Value) (s : CS) (hC : Cl w gc mb B (.slice (some ⟨gl, 0, none⟩) s.L.length c) vw s) (hn : s.W.length ≤ 1000000) (hn2 : s.L.length ≤ 1000000) (ak an aa ab at_ : Int) (r : S27) (i : Nat) (hi : i < s.L.length) (hr4 : r.f4 = (i : Int) + 1) : Calls Try.prog 31 #[.pointer (some ⟨gc, 0, none⟩), .agg #[.int .u8 ak, .int .i64 an, .int .i64 aa, .int .i64 ab, .int .u64 at_], .agg #[.int .u8 r.f0, .int .u64 r.f1, .int .i64 r.f2, .bool r.f3, .int .u64 r.f4]] w fun e' w' => ∃ v, e' = .returned v ∧ Evs w' w.heap.size v (some ⟨15, 0, s.L[i].f0, 0, 0, 0, 0⟩) ∧ Post w w' gc mb B (.slice (some ⟨gl, 0, none⟩) s.L.length c) vw (goneS s i) := by
  have HC := Aside0.mk hC
  have HB := Aside0.mk (Below.refl w.heap.size w)
  have HR4 := Aside0.mk hr4
  clear hC hr4
  go_enter Try.func31, Try.ntmps31
  go_upto_region 1 with (first
    | ((with_reducible refine gate_dst (N := 4) rfl ?_); refine box_event ?hg (N := 4) ?hd (cs := #[.int .u8 ak, .int .i64 an, .int .i64 aa, .int .i64 ab, .int .u64 at_]) (t := 31) ?hr ?_; (case hd => rfl); (case hg => rfl); (case hr => first | (go_simp; done) | (go_simp; rfl)); intro ga hg w1_a hbox hb; have GGa := Aside0.mk (show w.heap.size ≤ ga from by rw [hg]; exact below_size (by repeat (first | (with_reducible first | exact HB.out | apply below_alloc | apply pw_below_drewN | apply below_drew1) | exact HB.out))); have BKa := Aside0.mk hbox; clear hbox hg; have n0_ := Aside0.mk (below_step (by repeat (first | (with_reducible first | exact HB.out | apply below_alloc | apply pw_below_drewN | apply below_drew1) | exact HB.out)) hb); clear HB; have HB := n0_; clear n0_ hb)
    | ((with_reducible refine gate_dst (N := 5) rfl ?_); refine box_event ?hg (N := 5) ?hd (cs := #[.int .u8 r.f0, .int .u64 r.f1, .int .i64 r.f2, .bool r.f3, .int .u64 r.f4]) (t := 27) ?hr ?_; (case hd => rfl); (case hg => rfl); (case hr => first | (go_simp; done) | (go_simp; rfl)); intro gr hg w1_r hbox hb; have GGr := Aside0.mk (show w.heap.size ≤ gr from by rw [hg]; exact below_size (by repeat (first | (with_reducible first | exact HB.out | apply below_alloc | apply pw_below_drewN | apply below_drew1) | exact HB.out))); have BKr := Aside0.mk hbox; clear hbox hg; have n0_ := Aside0.mk (below_step (by repeat (first | (with_reducible first | exact HB.out | apply below_alloc | apply pw_below_drewN | apply below_drew1) | exact HB.out)) hb); (first | have n1_ := Aside0.mk (blk_below BKa.out hb) | have n1_ := Aside0.mk (blk_below (blk_drewN BKa.out _) hb) | have n1_ := Aside0.mk (blk_below (blk_drew BKa.out) hb) | have n1_ := Aside0.mk (blk_below (blk_alloc BKa.out _) hb) | have n1_ := Aside0.mk (blk_below (by first | exact BKa.out | ((with_reducible repeat (first | refine blk_drewN ?_ _ | refine blk_drew ?_ | refine blk_alloc ?_ _)); exact BKa.out)) hb)); clear HB BKa; have HB := n0_; have BKa := n1_; clear n0_ n1_ hb))
  have HC1 := Aside0.mk (HC.out.below HB.out)
  have y0 : w1_r.cell? ⟨gr, 0, none⟩ = some (.int .u8 r.f0) := (blk_cell BKr.out 0).trans rfl
  have y1 : w1_r.cell? ⟨gr, 1, none⟩ = some (.int .u64 r.f1) := (blk_cell BKr.out 1).trans rfl
  have y2 : w1_r.cell? ⟨gr, 2, none⟩ = some (.int .i64 r.f2) := (blk_cell BKr.out 2).trans rfl
  have y3 : w1_r.cell? ⟨gr, 3, none⟩ = some (.bool r.f3) := (blk_cell BKr.out 3).trans rfl
  have y4 : w1_r.cell? ⟨gr, 4, none⟩ = some (.int .u64 ((i : Int) + 1)) := by rw [← HR4.out]; exact (blk_cell BKr.out 4).trans rfl
  go_wp2_with (first
    | (go_at_call 19; with_reducible refine (inst.some_ _ gc mb B gl c vw s HC1.out i hi hn2).mono ?_; rintro e w2 ⟨rfl, hb⟩; have HC2 := Aside0.mk (HC1.out.below hb); have BKr2 := Aside0.mk (blk_below BKr.out hb); have HB2 := Aside0.mk (HB.out.trans (Below.mono hb HB.out.size)); clear hb; have z3 : w2.frozen? ⟨gl, i * 5 + 3, none⟩ = false := HC2.out.zL 3; have x3 : w2.cell? ⟨gl, i * 5 + 3, none⟩ = some (.int .u8 s.L[i].f3) := HC2.out.x3 hi)
    | (go_at_call 39; with_reducible refine (gone.calls _ gc mb B gl c vw s HC2.out hn i hi s.L[i].f0 rfl).mono ?_; rintro e w3 ⟨v3, rfl, hv, hp⟩; have HV3 := Aside0.mk hv; have HP3 := Aside0.mk hp; clear hv hp))
  go_ret
  exact ⟨v3, rfl, HV3.out.base HB2.out.size, HP3.out.first HB2.out HC.out.base⟩

set_option maxHeartbeats 8000000 in
set_option maxRecDepth 100000 in
theorem kill.calls (w : World) (gc mb B gl c : Nat) (vw : Value) (s : CS) (hC : Cl w gc mb B (.slice (some ⟨gl, 0, none⟩) s.L.length c) vw s) (hn : s.W.length ≤ 1000000) (hn2 : s.L.length ≤ 1000000) (ak an aa ab at_ : Int) (i : Nat) (hi : i < s.L.length) : Calls Try.prog 34 #[.pointer (some ⟨gc, 0, none⟩), .agg #[.int .u8 ak, .int .i64 an, .int .i64 aa, .int .i64 ab, .int .u64 at_], .pointer (some ⟨gl, i * 5, none⟩)] w fun e' w' => ∃ v, e' = .returned v ∧ Evs w' w.heap.size v (some ⟨15, 0, s.L[i].f0, 0, 0, 0, 0⟩) ∧ Post w w' gc mb B (.slice (some ⟨gl, 0, none⟩) s.L.length c) vw (goneS s i) := by
  have HC := Aside0.mk hC
  have HB := Aside0.mk (Below.refl w.heap.size w)
  clear hC
  go_enter Try.func34, Try.ntmps34
  go_upto_region 1 with ((with_reducible refine gate_dst (N := 4) rfl ?_); refine box_event ?hg (N := 4) ?hd (cs := #[.int .u8 ak, .int .i64 an, .int .i64 aa, .int .i64 ab, .int .u64 at_]) (t := 31) ?hr ?_; (case hd => rfl); (case hg => rfl); (case hr => first | (go_simp; done) | (go_simp; rfl)); intro ga hg w1_a hbox hb; have GGa := Aside0.mk (show w.heap.size ≤ ga from by rw [hg]; exact below_size (by repeat (first | (with_reducible first | exact HB.out | apply below_alloc | apply pw_below_drewN | apply below_drew1) | exact HB.out))); have BKa := Aside0.mk hbox; clear hbox hg; have n0_ := Aside0.mk (below_step (by repeat (first | (with_reducible first | exact HB.out | apply below_alloc | apply pw_below_drewN | apply below_drew1) | exact HB.out)) hb); clear HB; have HB := n0_; clear n0_ hb)
  have HC1 := Aside0.mk (HC.out.below HB.out)
  go_wp2_with (go_at_call 39; with_reducible refine (gone.calls _ gc mb B gl c vw s HC1.out hn i hi s.L[i].f0 rfl).mono ?_; rintro e w3 ⟨v3, rfl, hv, hp⟩; have HV3 := Aside0.mk hv; have HP3 := Aside0.mk hp; clear hv hp)
  go_ret
  exact ⟨v3, rfl, HV3.out.base HB.out.size, HP3.out.first HB.out HC.out.base⟩

set_option maxHeartbeats 8000000 in
set_option maxRecDepth 100000 in
theorem risk.calls (w : World) (gc mb B gl c : Nat) (vw : Value) (s : CS) (hC : Cl w gc mb B (.slice (some ⟨gl, 0, none⟩) s.L.length c) vw s) (hn : s.W.length ≤ 1000000) (hn2 : s.L.length ≤ 1000000) (ak an aa ab at_ : Int) (i : Nat) (hi : i < s.L.length) : Calls Try.prog 35 #[.pointer (some ⟨gc, 0, none⟩), .agg #[.int .u8 ak, .int .i64 an, .int .i64 aa, .int .i64 ab, .int .u64 at_], .pointer (some ⟨gl, i * 5, none⟩)] w fun e' w' => ∃ v, e' = .returned v ∧ Evs w' w.heap.size v (some ⟨14, 0, s.L[i].f0, 0, 0, 0, 0⟩) ∧ Post w w' gc mb B (.slice (some ⟨gl, 0, none⟩) s.L.length c) vw s := by
  have HC := Aside0.mk hC
  have HB := Aside0.mk (Below.refl w.heap.size w)
  clear hC
  go_enter Try.func35, Try.ntmps35
  go_upto_region 1 with ((with_reducible refine gate_dst (N := 4) rfl ?_); refine box_event ?hg (N := 4) ?hd (cs := #[.int .u8 ak, .int .i64 an, .int .i64 aa, .int .i64 ab, .int .u64 at_]) (t := 31) ?hr ?_; (case hd => rfl); (case hg => rfl); (case hr => first | (go_simp; done) | (go_simp; rfl)); intro ga hg w1_a hbox hb; have GGa := Aside0.mk (show w.heap.size ≤ ga from by rw [hg]; exact below_size (by repeat (first | (with_reducible first | exact HB.out | apply below_alloc | apply pw_below_drewN | apply below_drew1) | exact HB.out))); have BKa := Aside0.mk hbox; clear hbox hg; have n0_ := Aside0.mk (below_step (by repeat (first | (with_reducible first | exact HB.out | apply below_alloc | apply pw_below_drewN | apply below_drew1) | exact HB.out)) hb); clear HB; have HB := n0_; clear n0_ hb)
  have HC1 := Aside0.mk (HC.out.below HB.out)
  have x0 : w1_a.cell? ⟨gl, i * 5, none⟩ = some (.int .u64 s.L[i].f0) := HC1.out.x0 hi
  go_wp2
  go_ret
  exact ⟨_, rfl, ⟨w1_a.heap.size, rfl, HB.out.size, blk_new w1_a _⟩, Post.of HC.out (HB.out.trans (Below.mono (below_alloc (Below.refl w1_a.heap.size w1_a) _) HB.out.size))⟩

set_option maxHeartbeats 8000000 in
set_option maxRecDepth 100000 in
theorem stop.calls (w : World) (gc mb B gl c : Nat) (vw : Value) (s : CS) (hC : Cl w gc mb B (.slice (some ⟨gl, 0, none⟩) s.L.length c) vw s) (hn : s.W.length ≤ 1000000) (hn2 : s.L.length ≤ 1000000) (ak an aa ab at_ : Int) (r : S27) (i : Nat) (hi : i < s.L.length) (hr4 : r.f4 = (i : Int) + 1) : Calls Try.prog 30 #[.pointer (some ⟨gc, 0, none⟩), .agg #[.int .u8 ak, .int .i64 an, .int .i64 aa, .int .i64 ab, .int .u64 at_], .agg #[.int .u8 r.f0, .int .u64 r.f1, .int .i64 r.f2, .bool r.f3, .int .u64 r.f4]] w fun e' w' => ∃ v, e' = .returned v ∧ Evs w' w.heap.size v (some ⟨16, 0, (i : Int) + 1, 0, 0, 0, 0⟩) ∧ Post w w' gc mb B (.slice (some ⟨gl, 0, none⟩) s.L.length c) vw (stopS' s i r.f1) := by
  have HC := Aside0.mk hC
  have HB := Aside0.mk (Below.refl w.heap.size w)
  have HR4 := Aside0.mk hr4
  have GLT := Aside0.mk hC.glt
  obtain ⟨nl, hnl⟩ : ∃ nl, nl = s.L.length := ⟨_, rfl⟩
  have HNL := Aside0.mk hnl
  clear hC hr4
  go_enter Try.func30, Try.ntmps30
  go_upto_region 1 with (first
    | ((with_reducible refine gate_dst (N := 4) rfl ?_); refine box_event ?hg (N := 4) ?hd (cs := #[.int .u8 ak, .int .i64 an, .int .i64 aa, .int .i64 ab, .int .u64 at_]) (t := 31) ?hr ?_; (case hd => rfl); (case hg => rfl); (case hr => first | (go_simp; done) | (go_simp; rfl)); intro ga hg w1_a hbox hb; have GGa := Aside0.mk (show w.heap.size ≤ ga from by rw [hg]; exact below_size (by repeat (first | (with_reducible first | exact HB.out | apply below_alloc | apply pw_below_drewN | apply below_drew1) | exact HB.out))); have BKa := Aside0.mk hbox; clear hbox hg; have n0_ := Aside0.mk (below_step (by repeat (first | (with_reducible first | exact HB.out | apply below_alloc | apply pw_below_drewN | apply below_drew1) | exact HB.out)) hb); clear HB; have HB := n0_; clear n0_ hb)
    | ((with_reducible refine gate_dst (N := 5) rfl ?_); refine box_event ?hg (N := 5) ?hd (cs := #[.int .u8 r.f0, .int .u64 r.f1, .int .i64 r.f2, .bool r.f3, .int .u64 r.f4]) (t := 27) ?hr ?_; (case hd => rfl); (case hg => rfl); (case hr => first | (go_simp; done) | (go_simp; rfl)); intro gr hg w1_r hbox hb; have GGr := Aside0.mk (show w.heap.size ≤ gr from by rw [hg]; exact below_size (by repeat (first | (with_reducible first | exact HB.out | apply below_alloc | apply pw_below_drewN | apply below_drew1) | exact HB.out))); have BKr := Aside0.mk hbox; clear hbox hg; have n0_ := Aside0.mk (below_step (by repeat (first | (with_reducible first | exact HB.out | apply below_alloc | apply pw_below_drewN | apply below_drew1) | exact HB.out)) hb); (first | have n1_ := Aside0.mk (blk_below BKa.out hb) | have n1_ := Aside0.mk (blk_below (blk_drewN BKa.out _) hb) | have n1_ := Aside0.mk (blk_below (blk_drew BKa.out) hb) | have n1_ := Aside0.mk (blk_below (blk_alloc BKa.out _) hb) | have n1_ := Aside0.mk (blk_below (by first | exact BKa.out | ((with_reducible repeat (first | refine blk_drewN ?_ _ | refine blk_drew ?_ | refine blk_alloc ?_ _)); exact BKa.out)) hb)); clear HB BKa; have HB := n0_; have BKa := n1_; clear n0_ n1_ hb))
  have HC1 := Aside0.mk (HC.out.below HB.out)
  have y0 : w1_r.cell? ⟨gr, 0, none⟩ = some (.int .u8 r.f0) := (blk_cell BKr.out 0).trans rfl
  have y1 : w1_r.cell? ⟨gr, 1, none⟩ = some (.int .u64 r.f1) := (blk_cell BKr.out 1).trans rfl
  have y2 : w1_r.cell? ⟨gr, 2, none⟩ = some (.int .i64 r.f2) := (blk_cell BKr.out 2).trans rfl
  have y3 : w1_r.cell? ⟨gr, 3, none⟩ = some (.bool r.f3) := (blk_cell BKr.out 3).trans rfl
  have y4 : w1_r.cell? ⟨gr, 4, none⟩ = some (.int .u64 ((i : Int) + 1)) := by rw [← HR4.out]; exact (blk_cell BKr.out 4).trans rfl
  go_upto_region 2 with (go_at_call 19; with_reducible refine (inst.some_ _ gc mb B gl c vw s HC1.out i hi hn2).mono ?_; rintro e w2 ⟨rfl, hb⟩; have HC2 := Aside0.mk (HC1.out.below hb); have BKr2 := Aside0.mk (blk_below BKr.out hb); have HB2 := Aside0.mk (HB.out.trans (Below.mono hb HB.out.size)); clear hb; have z3 : w2.frozen? ⟨gl, i * 5 + 3, none⟩ = false := HC2.out.zL 3; have x3 : w2.cell? ⟨gl, i * 5 + 3, none⟩ = some (.int .u8 s.L[i].f3) := HC2.out.x3 hi)
  have HC3 := Aside0.mk (HC2.out.setSt i hi 3)
  have hne : ∀ k, k ≠ gl → (w2.setCell ⟨gl, i * 5 + 3, none⟩ (.int .u8 3)).heap[k]? = w2.heap[k]? := fun k hk => heap_setCell_other w2 _ k _ hk
  have BKr3 := Aside0.mk ((hne gr (fun e => by obtain ⟨cur, q, _⟩ := HC2.out.rowL.owned (k := gl) rfl; have h := BKr2.out; rw [e, q] at h; injection h with h; injection h with _ h; cases h)).trans BKr2.out)
  have B3 : Aside0 (Below B w (w2.setCell ⟨gl, i * 5 + 3, none⟩ (.int .u8 3))) := ⟨(Below.mono HB2.out HC.out.base).setCell (show B ≤ gl from HC.out.glB) _⟩
  have F3 : Aside0 (∀ k, k < w.heap.size → k ≠ gl → (w2.setCell ⟨gl, i * 5 + 3, none⟩ (.int .u8 3)).heap[k]? = w.heap[k]?) := ⟨fun k hk hk2 => (hne k hk2).trans (HB2.out.block k hk)⟩
  clear hne x3 z3 y0 y1 y2 y3 y4
  generalize World.setCell w2 _ _ = w3 at HC3 BKr3 B3 F3 ⊢
  have y1 : w3.cell? ⟨gr, 1, none⟩ = some (.int .u64 r.f1) := (blk_cell BKr3.out 1).trans rfl
  go_upto_region 3 with (go_at_call 38; with_reducible refine (closeS.calls _ gc mb B (.slice (some ⟨gl, 0, none⟩) s.L.length c) vw ⟨setSt s.L i 3, s.W, s.A⟩ HC3.out hn r.f1).mono ?_; rintro e9 w4 ⟨rfl, hp⟩; have HP4 := Aside0.mk hp; clear hp)
  obtain ⟨vl4, vw4, hC4, n1, n2, b4, f4⟩ := HP4.out
  have grw : some gr ≠ vw.ownBlock := fun e => by have h1 := HC.out.rowW.nil_own e.symm; have h2 := GGr.out; omega
  have BKr4 := Aside0.mk (HC3.out.far27 f4 BKr3.out grw)
  have HC4 := Aside0.mk hC4
  have N1 : Aside0 (Nw w3 (.slice (some ⟨gl, 0, none⟩) s.L.length c) vl4) := ⟨n1⟩
  have N2 : Aside0 (Nw w3 vw vw4) := ⟨n2⟩
  have B4 := Aside0.mk b4
  have F4 : Aside0 (Fr w3 w4 gc mb (.slice (some ⟨gl, 0, none⟩) s.L.length c) vw) := ⟨f4⟩
  clear hC4 n1 n2 b4 f4 y1 grw
  have y4 : w4.cell? ⟨gr, 4, none⟩ = some (.int .u64 ((i : Int) + 1)) := by rw [← HR4.out]; exact (blk_cell BKr4.out 4).trans rfl
  go_wp2
  go_ret
  have hs3 : w.heap.size ≤ w3.heap.size := B3.out.size
  have hs4 : w3.heap.size ≤ w4.heap.size := B4.out.size
  have hP4 : ∀ o : Obj, Post w3 (w4.alloc o) gc mb B (.slice (some ⟨gl, 0, none⟩) s.L.length c) vw (stopS' s i r.f1) := fun o => ⟨vl4, vw4, HC4.out.below (below_alloc (Below.refl w4.heap.size w4) o), N1.out, N2.out, B4.out.trans (Below.mono (below_alloc (Below.refl w4.heap.size w4) o) (Nat.le_trans HC.out.base (by omega))), fun k hk a b c d => ((below_alloc (Below.refl w4.heap.size w4) o).block k (by omega)).trans (F4.out k hk a b c d)⟩
  exact ⟨_, rfl, ⟨w4.heap.size, rfl, by omega, blk_new w4 _⟩, Post.trans (hP4 _) (.refl _ _) (.refl _ _) B3.out (fun k hk _ _ c _ => F3.out k hk (fun e => c (by rw [e]; rfl))) (Nat.le_trans HC.out.base hs3)⟩
end
section
open Go.RowKit Go.Shelf Go.Proofs.YtfhopjigdkjnoaaW.PrintWords Go.Proofs.YtfhopjigdkjnoaaW.PrintLast Go.Proofs.YtfhopjigdkjnoaaW.PrintMore
set_option linter.unusedVariables false
set_option linter.unusedSimpArgs false

theorem setAt0 {L : List S50} {i : Nat} (hi : i < L.length) (y : S50) (h : y.f0 = L[i].f0) (h2 : i < (L.set i y).length) : ((L.set i y)[i]'h2).f0 = L[i].f0 := by rw [List.getElem_set_self]; exact h
def noticeS (s : CS) (i : Nat) (t : Int) : CS := ⟨s.L.set i { at50 s.L i with f4 := t }, s.W, s.A⟩

set_option maxHeartbeats 8000000 in
set_option maxRecDepth 100000 in
theorem notice.no (w : World) (gc mb B gl c : Nat) (vw : Value) (s : CS) (hC : Cl w gc mb B (.slice (some ⟨gl, 0, none⟩) s.L.length c) vw s) (hn : s.W.length ≤ 1000000) (hn2 : s.L.length ≤ 1000000) (ak an aa ab at_ : Int) (i : Nat) (hi : i < s.L.length) (hat : at_ > 1099511627776) : Calls Try.prog 33 #[.pointer (some ⟨gc, 0, none⟩), .agg #[.int .u8 ak, .int .i64 an, .int .i64 aa, .int .i64 ab, .int .u64 at_], .pointer (some ⟨gl, i * 5, none⟩)] w fun e' w' => e' = .returned (.slice none 0 0) ∧ Post w w' gc mb B (.slice (some ⟨gl, 0, none⟩) s.L.length c) vw s := by
  have HC := Aside0.mk hC
  have HB := Aside0.mk (Below.refl w.heap.size w)
  clear hC
  go_enter Try.func33, Try.ntmps33
  go_upto_region 1 with ((with_reducible refine gate_dst (N := 4) rfl ?_); refine box_event ?hg (N := 4) ?hd (cs := #[.int .u8 ak, .int .i64 an, .int .i64 aa, .int .i64 ab, .int .u64 at_]) (t := 31) ?hr ?_; (case hd => rfl); (case hg => rfl); (case hr => first | (go_simp; done) | (go_simp; rfl)); intro ga hg w1_a hbox hb; have GGa := Aside0.mk (show w.heap.size ≤ ga from by rw [hg]; exact below_size (by repeat (first | (with_reducible first | exact HB.out | apply below_alloc | apply pw_below_drewN | apply below_drew1) | exact HB.out))); have BKa := Aside0.mk hbox; clear hbox hg; have n0_ := Aside0.mk (below_step (by repeat (first | (with_reducible first | exact HB.out | apply below_alloc | apply pw_below_drewN | apply below_drew1) | exact HB.out)) hb); clear HB; have HB := n0_; clear n0_ hb)
  have y4 : w1_a.cell? ⟨ga, 4, none⟩ = some (.int .u64 at_) := (blk_cell BKa.out 4).trans rfl
  go_wp2
  go_ret
  exact ⟨rfl, Post.of HC.out HB.out⟩

set_option maxHeartbeats 8000000 in
set_option maxRecDepth 100000 in
theorem notice.yes (w : World) (gc mb B gl c : Nat) (vw : Value) (s : CS) (hC : Cl w gc mb B (.slice (some ⟨gl, 0, none⟩) s.L.length c) vw s) (hn : s.W.length ≤ 1000000) (hn2 : s.L.length ≤ 1000000) (ak an aa ab at_ : Int) (i : Nat) (hi : i < s.L.length) (hat : at_ ≤ 1099511627776) : Calls Try.prog 33 #[.pointer (some ⟨gc, 0, none⟩), .agg #[.int .u8 ak, .int .i64 an, .int .i64 aa, .int .i64 ab, .int .u64 at_], .pointer (some ⟨gl, i * 5, none⟩)] w fun e' w' => ∃ v, e' = .returned v ∧ Evs w' w.heap.size v (some ⟨13, 0, s.L[i].f0, 0, 0, 0, at_⟩) ∧ Post w w' gc mb B (.slice (some ⟨gl, 0, none⟩) s.L.length c) vw (noticeS s i at_) := by
  have HC := Aside0.mk hC
  have HB := Aside0.mk (Below.refl w.heap.size w)
  have hat' : ¬ at_ > 1099511627776 := by omega
  clear hC
  go_enter Try.func33, Try.ntmps33
  go_upto_region 1 with ((with_reducible refine gate_dst (N := 4) rfl ?_); refine box_event ?hg (N := 4) ?hd (cs := #[.int .u8 ak, .int .i64 an, .int .i64 aa, .int .i64 ab, .int .u64 at_]) (t := 31) ?hr ?_; (case hd => rfl); (case hg => rfl); (case hr => first | (go_simp; done) | (go_simp; rfl)); intro ga hg w1_a hbox hb; have GGa := Aside0.mk (show w.heap.size ≤ ga from by rw [hg]; exact below_size (by repeat (first | (with_reducible first | exact HB.out | apply below_alloc | apply pw_below_drewN | apply below_drew1) | exact HB.out))); have BKa := Aside0.mk hbox; clear hbox hg; have n0_ := Aside0.mk (below_step (by repeat (first | (with_reducible first | exact HB.out | apply below_alloc | apply pw_below_drewN | apply below_drew1) | exact HB.out)) hb); clear HB; have HB := n0_; clear n0_ hb)
  have HC1 := Aside0.mk (HC.out.below HB.out)
  have y4 : w1_a.cell? ⟨ga, 4, none⟩ = some (.int .u64 at_) := (blk_cell BKa.out 4).trans rfl
  have x4 : w1_a.cell? ⟨gl, i * 5 + 4, none⟩ = some (.int .u64 s.L[i].f4) := HC1.out.x4 hi
  have z4 : w1_a.frozen? ⟨gl, i * 5 + 4, none⟩ = false := HC1.out.zL 4
  go_upto_region 4 with fail
  have HC4 : Aside0 (Cl (w1_a.setCell ⟨gl, i * 5 + 4, none⟩ (.int .u64 at_)) gc mb B (.slice (some ⟨gl, 0, none⟩) s.L.length c) vw (noticeS s i at_)) := ⟨HC1.out.setKill i hi at_⟩
  have hne : ∀ k, k ≠ gl → (w1_a.setCell ⟨gl, i * 5 + 4, none⟩ (.int .u64 at_)).heap[k]? = w1_a.heap[k]? := fun k hk => heap_setCell_other w1_a _ k _ hk
  have BKa4 := Aside0.mk ((hne ga (fun e => by obtain ⟨cur, q, _⟩ := HC1.out.rowL.owned (k := gl) rfl; have h := BKa.out; rw [e, q] at h; injection h with h; injection h with _ h; cases h)).trans BKa.out)
  have B4 : Aside0 (Below B w (w1_a.setCell ⟨gl, i * 5 + 4, none⟩ (.int .u64 at_))) := ⟨(Below.mono HB.out HC.out.base).setCell (show B ≤ gl from HC.out.glB) _⟩
  have F4 : Aside0 (∀ k, k < w.heap.size → k ≠ gl → (w1_a.setCell ⟨gl, i * 5 + 4, none⟩ (.int .u64 at_)).heap[k]? = w.heap[k]?) := ⟨fun k hk hk2 => (hne k hk2).trans (HB.out.block k hk)⟩
  clear hne x4 z4 y4
  generalize World.setCell w1_a _ _ = w4 at HC4 BKa4 B4 F4 ⊢
  have hiS : i < (noticeS s i at_).L.length := by show i < (s.L.set i _).length; rw [List.length_set]; exact hi
  obtain ⟨cur4, q1, q2, -⟩ := HC4.out.cells hiS
  have e0 : ((noticeS s i at_).L[i]'hiS).f0 = s.L[i].f0 := setAt0 hi _ (by show (at50 s.L i).f0 = _; rw [at50_eq hi]) hiS
  rw [e0] at q2
  have HGL4 := Aside0.mk q1
  have HCU4 := Aside0.mk q2
  have y4 : w4.cell? ⟨ga, 4, none⟩ = some (.int .u64 at_) := (blk_cell BKa4.out 4).trans rfl
  have x0 : w4.cell? ⟨gl, i * 5, none⟩ = some (.int .u64 s.L[i].f0) := (blk_cell q1 (i * 5)).trans q2
  clear q1 q2 e0
  refine start_ (n := 9) (S := fun w' => w'.cell? ⟨gl, i * 5, none⟩ = some (.int .u64 s.L[i].f0) ∧ w'.cell? ⟨ga, 4, none⟩ = some (.int .u64 at_)) (ds := []) #[false, false, false, false, false, false, false, false, false] (by kernel_rfl) rfl rfl ⟨x0, y4⟩ (fun hHeld => ?_)
  refine pure_ (i := 0) (N := some 15) (v := ?_) (a' := ?_) #[true, false, false, false, false, false, false, false, false] rfl rfl (by kernel_rfl) (fun _ _ _ h => h) (Or.inl ⟨by rfl, ?_⟩) ?_ ?_
  rotate_left
  · intro w'
    go_simp
    with_reducible rfl
  rotate_left
  · simp only [Act.put, List.setIfInBounds_toArray, List.set_cons_zero, List.set_cons_succ, i64_w, i32_w]
    rfl
  refine pure_ (i := 1) (N := some 16) (v := ?_) (a' := ?_) #[true, true, false, false, false, false, false, false, false] rfl rfl (by kernel_rfl) (fun _ _ _ h => h) (Or.inl ⟨by rfl, ?_⟩) ?_ ?_
  rotate_left
  · intro w'
    go_simp
    with_reducible rfl
  rotate_left
  · simp only [Act.put, List.setIfInBounds_toArray, List.set_cons_zero, List.set_cons_succ, i64_w, i32_w]
    rfl
  refine pure_ (i := 2) (N := some 17) (v := ?_) (a' := ?_) #[true, true, true, false, false, false, false, false, false] rfl rfl (by kernel_rfl) (fun _ _ _ h => h) (Or.inl ⟨by rfl, ?_⟩) ?_ ?_
  rotate_left
  · intro w'
    go_simp
    with_reducible rfl
  rotate_left
  · simp only [Act.put, List.setIfInBounds_toArray, List.set_cons_zero, List.set_cons_succ, i64_w, i32_w]
    rfl
  refine pure_ (i := 4) (N := some 19) (v := ?_) (a' := ?_) #[true, true, true, false, true, false, false, false, false] rfl rfl (by kernel_rfl) (fun _ _ _ h => h) (Or.inl ⟨by rfl, ?_⟩) ?_ ?_
  rotate_left
  · intro w'
    go_simp
    with_reducible rfl
  rotate_left
  · simp only [Act.put, List.setIfInBounds_toArray, List.set_cons_zero, List.set_cons_succ, i64_w, i32_w]
    rfl
  refine take_ (i := 3) (N := some 18) (v := ?_) (a' := ?_) #[true, true, true, true, true, false, false, false, false] rfl rfl (by kernel_rfl) (fun _ _ _ h => h) (Or.inl ⟨by rfl, ?_⟩) hHeld ?_ ?_
  rotate_left
  · rintro w' ⟨s0, s1⟩
    go_simp
    with_reducible rfl
  rotate_left
  · simp only [Act.put, List.setIfInBounds_toArray, List.set_cons_zero, List.set_cons_succ, i64_w, i32_w]
    rfl
  refine take_ (i := 5) (N := some 20) (v := ?_) (a' := ?_) #[true, true, true, true, true, true, false, false, false] rfl rfl (by kernel_rfl) (fun _ _ _ h => h) (Or.inl ⟨by rfl, ?_⟩) hHeld ?_ ?_
  rotate_left
  · rintro w' ⟨s0, s1⟩
    go_simp
    with_reducible rfl
  rotate_left
  · simp only [Act.put, List.setIfInBounds_toArray, List.set_cons_zero, List.set_cons_succ, i64_w, i32_w]
    rfl
  refine pure_ (i := 6) (N := some 21) (v := ?_) (a' := ?_) #[true, true, true, true, true, true, true, false, false] rfl rfl (by kernel_rfl) (fun _ _ _ h => h) (Or.inl ⟨by rfl, ?_⟩) ?_ ?_
  rotate_left
  · intro w'
    go_simp
    with_reducible rfl
  rotate_left
  · simp only [Act.put, List.setIfInBounds_toArray, List.set_cons_zero, List.set_cons_succ, i64_w, i32_w]
    rfl
  refine one_ (i := 7) (N := some 22) #[true, true, true, true, true, true, true, true, false] rfl rfl (by kernel_rfl) (by decide) (fun K hK => ?_)
  refine value_ (w1 := _) (v := _) (by rfl) rfl (evS_run ⟨13, 0, s.L[i].f0, 0, 0, 0, at_⟩ rfl rfl _) ?_
  refine hK.out _ _ ⟨(blk_cell (blk_alloc HGL4.out _) (i * 5)).trans HCU4.out, (blk_cell (blk_alloc BKa4.out _) 4).trans rfl⟩ (fun hHeld => ?_)
  clear hK K
  refine norm_ (a' := ?_) ?_ ?_
  rotate_left
  · show Act.put _ (some 22) _ = _
    simp only [Act.put, List.setIfInBounds_toArray, List.set_cons_zero, List.set_cons_succ, i64_w, i32_w]
    rfl
  refine pure_ (i := 8) (N := some 6) (v := ?_) (a' := ?_) #[true, true, true, true, true, true, true, true, true] rfl rfl (by kernel_rfl) (fun _ _ _ h => h) (Or.inl ⟨by rfl, ?_⟩) ?_ ?_
  rotate_left
  · intro w'
    go_simp
    with_reducible rfl
  rotate_left
  · simp only [Act.put, List.setIfInBounds_toArray, List.set_cons_zero, List.set_cons_succ, i64_w, i32_w]
    rfl
  refine done_ (by kernel_rfl) ?_

  go_wp2
  go_ret
  have hs4 : w.heap.size ≤ w4.heap.size := B4.out.size
  have b5 : ∀ o, Below w4.heap.size w4 (w4.drew.alloc o) := fun o => below_alloc (Below.refl w4.heap.size w4).drew o
  exact ⟨_, rfl, ⟨w4.heap.size, rfl, hs4, blk_new w4.drew _⟩, (.slice (some ⟨gl, 0, none⟩) s.L.length c), vw, HC4.out.below (b5 _), .refl _ _, .refl _ _, B4.out.trans (Below.mono (b5 _) (Nat.le_trans HC.out.base hs4)), fun k hk a b c d => ((b5 _).block k (by omega)).trans (F4.out k hk (fun e => c (by rw [e]; rfl)))⟩
end
section
open Go.RowKit Go.Shelf Go.Proofs.YtfhopjigdkjnoaaW.PrintWords Go.Proofs.YtfhopjigdkjnoaaW.PrintLast Go.Proofs.YtfhopjigdkjnoaaW.PrintMore
set_option linter.unusedVariables false
set_option linter.unusedSimpArgs false

set_option maxHeartbeats 8000000 in
set_option maxRecDepth 100000 in
theorem ready.boot (w : World) (gc mb B gl c : Nat) (vw : Value) (s : CS) (hC : Cl w gc mb B (.slice (some ⟨gl, 0, none⟩) s.L.length c) vw s) (hn : s.W.length ≤ 1000000) (hn2 : s.L.length ≤ 1000000) (ak an aa ab at_ : Int) (i : Nat) (hi : i < s.L.length) (hf : s.L[i].f3 = 1) : Calls Try.prog 32 #[.pointer (some ⟨gc, 0, none⟩), .agg #[.int .u8 ak, .int .i64 an, .int .i64 aa, .int .i64 ab, .int .u64 at_], .pointer (some ⟨gl, i * 5, none⟩)] w fun e' w' => ∃ v, e' = .returned v ∧ Evs w' w.heap.size v (some ⟨12, 0, s.L[i].f0, 0, 0, 0, 0⟩) ∧ Post w w' gc mb B (.slice (some ⟨gl, 0, none⟩) s.L.length c) vw ⟨setSt s.L i 2, s.W, s.A⟩ := by
  have HF3 := Aside0.mk hf
  clear hf
  have HC := Aside0.mk hC
  have HB := Aside0.mk (Below.refl w.heap.size w)
  obtain ⟨Aw, cw, hvw, hcw, -⟩ := hC.rowW.slice
  subst hvw
  have hnw : s.W.length < 9223372036854775807 := by omega
  have X3 : Aside0 (∀ W, Cl W gc mb B (.slice (some ⟨gl, 0, none⟩) s.L.length c) (.slice Aw s.W.length cw) s → W.cell? ⟨gl, i * 5 + 3, none⟩ = some (.int .u8 1)) := ⟨fun W h => by rw [h.x3 hi, HF3.out]⟩
  clear hC
  go_enter Try.func32, Try.ntmps32
  go_upto_region 1 with (first
    | ((with_reducible refine gate_dst (N := 4) rfl ?_); refine box_event ?hg (N := 4) ?hd (cs := #[.int .u8 ak, .int .i64 an, .int .i64 aa, .int .i64 ab, .int .u64 at_]) (t := 31) ?hr ?_; (case hd => rfl); (case hg => rfl); (case hr => first | (go_simp; done) | (go_simp; rfl)); intro ga hg w1_a hbox hb; have GGa := Aside0.mk (show w.heap.size ≤ ga from by rw [hg]; exact below_size (by repeat (first | (with_reducible first | exact HB.out | apply below_alloc | apply pw_below_drewN | apply below_drew1) | exact HB.out))); have BKa := Aside0.mk hbox; clear hbox hg; have n0_ := Aside0.mk (below_step (by repeat (first | (with_reducible first | exact HB.out | apply below_alloc | apply pw_below_drewN | apply below_drew1) | exact HB.out)) hb); clear HB; have HB := n0_; clear n0_ hb)
    | ((with_reducible refine gate_dst (N := 5) rfl ?_); refine box_event ?hg (N := 5) ?hd (cs := #[.pointer (some ⟨gl, i * 5, none⟩)]) (t := 61) ?hr ?_; (case hd => rfl); (case hg => rfl); (case hr => first | (go_simp; done) | (go_simp; rfl)); intro gk hg w1_k hbox hb; have GGk := Aside0.mk (show w.heap.size ≤ gk from by rw [hg]; exact below_size (by repeat (first | (with_reducible first | exact HB.out | apply below_alloc | apply pw_below_drewN | apply below_drew1) | exact HB.out))); have BKk := Aside0.mk hbox; clear hbox hg; have n0_ := Aside0.mk (below_step (by repeat (first | (with_reducible first | exact HB.out | apply below_alloc | apply pw_below_drewN | apply below_drew1) | exact HB.out)) hb); (first | have n1_ := Aside0.mk (blk_below BKa.out hb) | have n1_ := Aside0.mk (blk_below (blk_drewN BKa.out _) hb) | have n1_ := Aside0.mk (blk_below (blk_drew BKa.out) hb) | have n1_ := Aside0.mk (blk_below (blk_alloc BKa.out _) hb) | have n1_ := Aside0.mk (blk_below (by first | exact BKa.out | ((with_reducible repeat (first | refine blk_drewN ?_ _ | refine blk_drew ?_ | refine blk_alloc ?_ _)); exact BKa.out)) hb)); clear HB BKa; have HB := n0_; have BKa := n1_; clear n0_ n1_ hb))
  have HC1 := Aside0.mk (HC.out.below HB.out)
  have c1 := HC1.out.c1
  obtain ⟨cur, q1, q2, -⟩ := HC1.out.cells hi
  have HT : Aside0 (Tells 40 #[.pointer (some ⟨gk, 0, none⟩)] (isStart s.L[i].f0) [(gk, .cells #[.pointer (some ⟨gl, i * 5, none⟩)] 61 (0, 0)), (gl, .cells cur 50 (0, 0))]) := ⟨ready1.tells gk gl (i * 5) cur s.L[i].f0 q2⟩
  have HS : Aside0 (Sees [(gk, .cells #[.pointer (some ⟨gl, i * 5, none⟩)] 61 (0, 0)), (gl, .cells cur 50 (0, 0))] w1_k) := ⟨fun p hp => by
    rcases List.mem_cons.1 hp with rfl | hp
    · exact BKk.out
    · rw [List.mem_singleton] at hp; subst hp; exact q1⟩
  have HQ : Aside0 (Kd.C k27 w1_k Aw s.W.length s.W) := ⟨by obtain ⟨A', c', e, _, hq⟩ := HC1.out.rowW.slice; injection e with e1 _ _; rw [e1]; exact hq⟩
  clear q1 q2
  go_upto_region 2 with (go_at_call 27; with_reducible refine (IndexFunc.calls Aw cw s.W 40 #[.pointer (some ⟨gk, 0, none⟩)] (isStart s.L[i].f0) [(gk, .cells #[.pointer (some ⟨gl, i * 5, none⟩)] 61 (0, 0)), (gl, .cells cur 50 (0, 0))] _ HQ.out hcw hnw enters40 HT.out HS.out).mono ?_; rintro e w2 ⟨rfl, hb⟩; have HC2 := Aside0.mk (HC1.out.below hb); have BKk2 := Aside0.mk (blk_below BKk.out hb); have HB2 := Aside0.mk (HB.out.trans (Below.mono hb HB.out.size)); clear hb; have z3 : w2.frozen? ⟨gl, i * 5 + 3, none⟩ = false := HC2.out.zL 3; have x3 : w2.cell? ⟨gl, i * 5 + 3, none⟩ = some (.int .u8 1) := X3.out _ HC2.out; have p2 : w2.cell? ⟨gk, 0, none⟩ = some (.pointer (some ⟨gl, i * 5, none⟩)) := (blk_cell BKk2.out 0).trans rfl; have c12 : w2.cell? ⟨gc, 1, none⟩ = some (.slice Aw s.W.length cw) := HC2.out.c1)
  go_upto_region 7 with fail
  have HC4 := Aside0.mk (HC2.out.setSt i hi 2)
  have hne : ∀ k, k ≠ gl → (w2.setCell ⟨gl, i * 5 + 3, none⟩ (.int .u8 2)).heap[k]? = w2.heap[k]? := fun k hk => heap_setCell_other w2 _ k _ hk
  have BKk4 := Aside0.mk ((hne gk (fun e => by obtain ⟨cur, q, _⟩ := HC2.out.rowL.owned (k := gl) rfl; have h := BKk2.out; rw [e, q] at h; injection h with h; injection h with _ h; cases h)).trans BKk2.out)
  have B4 : Aside0 (Below B w (w2.setCell ⟨gl, i * 5 + 3, none⟩ (.int .u8 2))) := ⟨(Below.mono HB2.out HC.out.base).setCell (show B ≤ gl from HC.out.glB) _⟩
  have F4 : Aside0 (∀ k, k < w.heap.size → k ≠ gl → (w2.setCell ⟨gl, i * 5 + 3, none⟩ (.int .u8 2)).heap[k]? = w2.heap[k]?) := ⟨fun k _ hk2 => hne k hk2⟩
  clear hne x3 z3 p2
  generalize World.setCell w2 _ _ = w4 at HC4 BKk4 B4 F4 ⊢
  have p4 : w4.cell? ⟨gk, 0, none⟩ = some (.pointer (some ⟨gl, i * 5, none⟩)) := (blk_cell BKk4.out 0).trans rfl
  have hiS : i < (setSt s.L i 2).length := by rw [setSt, List.length_set]; exact hi
  obtain ⟨cur4, q1, q2, y0, -⟩ := HC4.out.cells hiS
  have e0 : ((setSt s.L i 2)[i]'hiS).f0 = s.L[i].f0 := setAt0 hi _ (by show (at50 s.L i).f0 = _; rw [at50_eq hi]) hiS
  have x0 : w4.cell? ⟨gl, i * 5, none⟩ = some (.int .u64 s.L[i].f0) := by rw [← e0]; exact y0
  clear q1 q2 e0 y0
  go_wp2
  go_ret
  have hs4 : w.heap.size ≤ w4.heap.size := B4.out.size
  have b5 : ∀ o, Below w4.heap.size w4 (w4.alloc o) := fun o => below_alloc (Below.refl w4.heap.size w4) o
  exact ⟨_, rfl, ⟨w4.heap.size, rfl, hs4, blk_new w4 _⟩, _, _, HC4.out.below (b5 _), .refl _ _, .refl _ _, B4.out.trans (Below.mono (b5 _) (Nat.le_trans HC.out.base hs4)), fun k hk a b c d => ((b5 _).block k (by omega)).trans ((F4.out k hk (fun e => c (by rw [e]; rfl))).trans (HB2.out.block k hk))⟩

set_option maxHeartbeats 8000000 in
set_option maxRecDepth 100000 in
theorem ready.not1 (w : World) (gc mb B gl c : Nat) (vw : Value) (s : CS) (hC : Cl w gc mb B (.slice (some ⟨gl, 0, none⟩) s.L.length c) vw s) (hn : s.W.length ≤ 1000000) (hn2 : s.L.length ≤ 1000000) (ak an aa ab at_ : Int) (i : Nat) (hi : i < s.L.length) (hf : s.L[i].f3 ≠ 1) (hf3 : s.L[i].f3 ≠ 3) : Calls Try.prog 32 #[.pointer (some ⟨gc, 0, none⟩), .agg #[.int .u8 ak, .int .i64 an, .int .i64 aa, .int .i64 ab, .int .u64 at_], .pointer (some ⟨gl, i * 5, none⟩)] w fun e' w' => e' = .returned (.slice none 0 0) ∧ Post w w' gc mb B (.slice (some ⟨gl, 0, none⟩) s.L.length c) vw s := by
  have h1 : (s.L[i].f3 == 3) = false := beq_false_of_ne hf3
  have h2 : (s.L[i].f3 != 1) = true := by simp [hf]
  have HC := Aside0.mk hC
  have HB := Aside0.mk (Below.refl w.heap.size w)
  obtain ⟨Aw, cw, hvw, hcw, -⟩ := hC.rowW.slice
  subst hvw
  have hnw : s.W.length < 9223372036854775807 := by omega
  clear hC
  go_enter Try.func32, Try.ntmps32
  go_upto_region 1 with (first
    | ((with_reducible refine gate_dst (N := 4) rfl ?_); refine box_event ?hg (N := 4) ?hd (cs := #[.int .u8 ak, .int .i64 an, .int .i64 aa, .int .i64 ab, .int .u64 at_]) (t := 31) ?hr ?_; (case hd => rfl); (case hg => rfl); (case hr => first | (go_simp; done) | (go_simp; rfl)); intro ga hg w1_a hbox hb; have GGa := Aside0.mk (show w.heap.size ≤ ga from by rw [hg]; exact below_size (by repeat (first | (with_reducible first | exact HB.out | apply below_alloc | apply pw_below_drewN | apply below_drew1) | exact HB.out))); have BKa := Aside0.mk hbox; clear hbox hg; have n0_ := Aside0.mk (below_step (by repeat (first | (with_reducible first | exact HB.out | apply below_alloc | apply pw_below_drewN | apply below_drew1) | exact HB.out)) hb); clear HB; have HB := n0_; clear n0_ hb)
    | ((with_reducible refine gate_dst (N := 5) rfl ?_); refine box_event ?hg (N := 5) ?hd (cs := #[.pointer (some ⟨gl, i * 5, none⟩)]) (t := 61) ?hr ?_; (case hd => rfl); (case hg => rfl); (case hr => first | (go_simp; done) | (go_simp; rfl)); intro gk hg w1_k hbox hb; have GGk := Aside0.mk (show w.heap.size ≤ gk from by rw [hg]; exact below_size (by repeat (first | (with_reducible first | exact HB.out | apply below_alloc | apply pw_below_drewN | apply below_drew1) | exact HB.out))); have BKk := Aside0.mk hbox; clear hbox hg; have n0_ := Aside0.mk (below_step (by repeat (first | (with_reducible first | exact HB.out | apply below_alloc | apply pw_below_drewN | apply below_drew1) | exact HB.out)) hb); (first | have n1_ := Aside0.mk (blk_below BKa.out hb) | have n1_ := Aside0.mk (blk_below (blk_drewN BKa.out _) hb) | have n1_ := Aside0.mk (blk_below (blk_drew BKa.out) hb) | have n1_ := Aside0.mk (blk_below (blk_alloc BKa.out _) hb) | have n1_ := Aside0.mk (blk_below (by first | exact BKa.out | ((with_reducible repeat (first | refine blk_drewN ?_ _ | refine blk_drew ?_ | refine blk_alloc ?_ _)); exact BKa.out)) hb)); clear HB BKa; have HB := n0_; have BKa := n1_; clear n0_ n1_ hb))
  have HC1 := Aside0.mk (HC.out.below HB.out)
  have c1 := HC1.out.c1
  obtain ⟨cur, q1, q2, -⟩ := HC1.out.cells hi
  have HT : Aside0 (Tells 40 #[.pointer (some ⟨gk, 0, none⟩)] (isStart s.L[i].f0) [(gk, .cells #[.pointer (some ⟨gl, i * 5, none⟩)] 61 (0, 0)), (gl, .cells cur 50 (0, 0))]) := ⟨ready1.tells gk gl (i * 5) cur s.L[i].f0 q2⟩
  have HS : Aside0 (Sees [(gk, .cells #[.pointer (some ⟨gl, i * 5, none⟩)] 61 (0, 0)), (gl, .cells cur 50 (0, 0))] w1_k) := ⟨fun p hp => by
    rcases List.mem_cons.1 hp with rfl | hp
    · exact BKk.out
    · rw [List.mem_singleton] at hp; subst hp; exact q1⟩
  have HQ : Aside0 (Kd.C k27 w1_k Aw s.W.length s.W) := ⟨by obtain ⟨A', c', e, _, hq⟩ := HC1.out.rowW.slice; injection e with e1 _ _; rw [e1]; exact hq⟩
  clear q1 q2
  go_wp2_with (go_at_call 27; with_reducible refine (IndexFunc.calls Aw cw s.W 40 #[.pointer (some ⟨gk, 0, none⟩)] (isStart s.L[i].f0) [(gk, .cells #[.pointer (some ⟨gl, i * 5, none⟩)] 61 (0, 0)), (gl, .cells cur 50 (0, 0))] _ HQ.out hcw hnw enters40 HT.out HS.out).mono ?_; rintro e w2 ⟨rfl, hb⟩; have HC2 := Aside0.mk (HC1.out.below hb); have BKk2 := Aside0.mk (blk_below BKk.out hb); have HB2 := Aside0.mk (HB.out.trans (Below.mono hb HB.out.size)); clear hb; have z3 : w2.frozen? ⟨gl, i * 5 + 3, none⟩ = false := HC2.out.zL 3; have x3 : w2.cell? ⟨gl, i * 5 + 3, none⟩ = some (.int .u8 s.L[i].f3) := HC2.out.x3 hi; have p2 : w2.cell? ⟨gk, 0, none⟩ = some (.pointer (some ⟨gl, i * 5, none⟩)) := (blk_cell BKk2.out 0).trans rfl; have c12 : w2.cell? ⟨gc, 1, none⟩ = some (.slice Aw s.W.length cw) := HC2.out.c1)
  go_ret
  exact ⟨rfl, Post.of HC.out HB2.out⟩

set_option maxHeartbeats 8000000 in
set_option maxRecDepth 100000 in
theorem ready.not2 (w : World) (gc mb B gl c : Nat) (vw : Value) (s : CS) (hC : Cl w gc mb B (.slice (some ⟨gl, 0, none⟩) s.L.length c) vw s) (hn : s.W.length ≤ 1000000) (hn2 : s.L.length ≤ 1000000) (ak an aa ab at_ : Int) (i : Nat) (hi : i < s.L.length) (hf : s.L[i].f3 = 3) (hw : ¬ firstAt (isStart s.L[i].f0) s.W < s.W.length) : Calls Try.prog 32 #[.pointer (some ⟨gc, 0, none⟩), .agg #[.int .u8 ak, .int .i64 an, .int .i64 aa, .int .i64 ab, .int .u64 at_], .pointer (some ⟨gl, i * 5, none⟩)] w fun e' w' => e' = .returned (.slice none 0 0) ∧ Post w w' gc mb B (.slice (some ⟨gl, 0, none⟩) s.L.length c) vw s := by
  have HF3 := Aside0.mk hf
  have hI : firstI (isStart s.L[i].f0) s.W = -1 := by unfold firstI; rw [if_neg hw]
  clear hf hw
  have HC := Aside0.mk hC
  have HB := Aside0.mk (Below.refl w.heap.size w)
  obtain ⟨Aw, cw, hvw, hcw, -⟩ := hC.rowW.slice
  subst hvw
  have hnw : s.W.length < 9223372036854775807 := by omega
  have X3 : Aside0 (∀ W, Cl W gc mb B (.slice (some ⟨gl, 0, none⟩) s.L.length c) (.slice Aw s.W.length cw) s → W.cell? ⟨gl, i * 5 + 3, none⟩ = some (.int .u8 3)) := ⟨fun W h => by rw [h.x3 hi, HF3.out]⟩
  clear hC
  go_enter Try.func32, Try.ntmps32
  go_upto_region 1 with (first
    | ((with_reducible refine gate_dst (N := 4) rfl ?_); refine box_event ?hg (N := 4) ?hd (cs := #[.int .u8 ak, .int .i64 an, .int .i64 aa, .int .i64 ab, .int .u64 at_]) (t := 31) ?hr ?_; (case hd => rfl); (case hg => rfl); (case hr => first | (go_simp; done) | (go_simp; rfl)); intro ga hg w1_a hbox hb; have GGa := Aside0.mk (show w.heap.size ≤ ga from by rw [hg]; exact below_size (by repeat (first | (with_reducible first | exact HB.out | apply below_alloc | apply pw_below_drewN | apply below_drew1) | exact HB.out))); have BKa := Aside0.mk hbox; clear hbox hg; have n0_ := Aside0.mk (below_step (by repeat (first | (with_reducible first | exact HB.out | apply below_alloc | apply pw_below_drewN | apply below_drew1) | exact HB.out)) hb); clear HB; have HB := n0_; clear n0_ hb)
    | ((with_reducible refine gate_dst (N := 5) rfl ?_); refine box_event ?hg (N := 5) ?hd (cs := #[.pointer (some ⟨gl, i * 5, none⟩)]) (t := 61) ?hr ?_; (case hd => rfl); (case hg => rfl); (case hr => first | (go_simp; done) | (go_simp; rfl)); intro gk hg w1_k hbox hb; have GGk := Aside0.mk (show w.heap.size ≤ gk from by rw [hg]; exact below_size (by repeat (first | (with_reducible first | exact HB.out | apply below_alloc | apply pw_below_drewN | apply below_drew1) | exact HB.out))); have BKk := Aside0.mk hbox; clear hbox hg; have n0_ := Aside0.mk (below_step (by repeat (first | (with_reducible first | exact HB.out | apply below_alloc | apply pw_below_drewN | apply below_drew1) | exact HB.out)) hb); (first | have n1_ := Aside0.mk (blk_below BKa.out hb) | have n1_ := Aside0.mk (blk_below (blk_drewN BKa.out _) hb) | have n1_ := Aside0.mk (blk_below (blk_drew BKa.out) hb) | have n1_ := Aside0.mk (blk_below (blk_alloc BKa.out _) hb) | have n1_ := Aside0.mk (blk_below (by first | exact BKa.out | ((with_reducible repeat (first | refine blk_drewN ?_ _ | refine blk_drew ?_ | refine blk_alloc ?_ _)); exact BKa.out)) hb)); clear HB BKa; have HB := n0_; have BKa := n1_; clear n0_ n1_ hb))
  have HC1 := Aside0.mk (HC.out.below HB.out)
  have c1 := HC1.out.c1
  obtain ⟨cur, q1, q2, -⟩ := HC1.out.cells hi
  have HT : Aside0 (Tells 40 #[.pointer (some ⟨gk, 0, none⟩)] (isStart s.L[i].f0) [(gk, .cells #[.pointer (some ⟨gl, i * 5, none⟩)] 61 (0, 0)), (gl, .cells cur 50 (0, 0))]) := ⟨ready1.tells gk gl (i * 5) cur s.L[i].f0 q2⟩
  have HS : Aside0 (Sees [(gk, .cells #[.pointer (some ⟨gl, i * 5, none⟩)] 61 (0, 0)), (gl, .cells cur 50 (0, 0))] w1_k) := ⟨fun p hp => by
    rcases List.mem_cons.1 hp with rfl | hp
    · exact BKk.out
    · rw [List.mem_singleton] at hp; subst hp; exact q1⟩
  have HQ : Aside0 (Kd.C k27 w1_k Aw s.W.length s.W) := ⟨by obtain ⟨A', c', e, _, hq⟩ := HC1.out.rowW.slice; injection e with e1 _ _; rw [e1]; exact hq⟩
  clear q1 q2
  go_wp2_with (go_at_call 27; with_reducible refine (IndexFunc.calls Aw cw s.W 40 #[.pointer (some ⟨gk, 0, none⟩)] (isStart s.L[i].f0) [(gk, .cells #[.pointer (some ⟨gl, i * 5, none⟩)] 61 (0, 0)), (gl, .cells cur 50 (0, 0))] _ HQ.out hcw hnw enters40 HT.out HS.out).mono ?_; rw [hI]; rintro e w2 ⟨rfl, hb⟩; have HC2 := Aside0.mk (HC1.out.below hb); have BKk2 := Aside0.mk (blk_below BKk.out hb); have HB2 := Aside0.mk (HB.out.trans (Below.mono hb HB.out.size)); clear hb; have z3 : w2.frozen? ⟨gl, i * 5 + 3, none⟩ = false := HC2.out.zL 3; have x3 : w2.cell? ⟨gl, i * 5 + 3, none⟩ = some (.int .u8 3) := X3.out _ HC2.out; have p2 : w2.cell? ⟨gk, 0, none⟩ = some (.pointer (some ⟨gl, i * 5, none⟩)) := (blk_cell BKk2.out 0).trans rfl; have c12 : w2.cell? ⟨gc, 1, none⟩ = some (.slice Aw s.W.length cw) := HC2.out.c1)
  go_ret
  exact ⟨rfl, Post.of HC.out HB2.out⟩

set_option maxHeartbeats 8000000 in
set_option maxRecDepth 100000 in
theorem ready.start (w : World) (gc mb B gl c : Nat) (vw : Value) (s : CS) (hC : Cl w gc mb B (.slice (some ⟨gl, 0, none⟩) s.L.length c) vw s) (hn : s.W.length ≤ 1000000) (hn2 : s.L.length ≤ 1000000) (ak an aa ab at_ : Int) (i : Nat) (hi : i < s.L.length) (hf : s.L[i].f3 = 3) (hw : firstAt (isStart s.L[i].f0) s.W < s.W.length) : Calls Try.prog 32 #[.pointer (some ⟨gc, 0, none⟩), .agg #[.int .u8 ak, .int .i64 an, .int .i64 aa, .int .i64 ab, .int .u64 at_], .pointer (some ⟨gl, i * 5, none⟩)] w fun e' w' => ∃ v, e' = .returned v ∧ Evs w' w.heap.size v (some ⟨12, 0, s.L[i].f0, 0, 0, 0, 0⟩) ∧ Post w w' gc mb B (.slice (some ⟨gl, 0, none⟩) s.L.length c) vw ⟨setSt s.L i 2, s.W.eraseIdx (firstAt (isStart s.L[i].f0) s.W), s.A⟩ := by
  have HF3 := Aside0.mk hf
  obtain ⟨f, hfe⟩ : ∃ f, f = firstAt (isStart s.L[i].f0) s.W := ⟨_, rfl⟩
  have hI : firstI (isStart s.L[i].f0) s.W = (f : Int) := by unfold firstI; rw [if_pos hw, hfe]
  have hfl : f < s.W.length := by rw [hfe]; exact hw
  rw [← hfe]
  have z1 : decide (0 ≤ (f : Int)) = true := decide_eq_true (by omega)
  have z2 : wrap64 ((f : Int) + 1) = (f : Int) + 1 := wrap_ok (by omega) (by omega)
  clear hf hw hfe
  have HC := Aside0.mk hC
  have HB := Aside0.mk (Below.refl w.heap.size w)
  obtain ⟨Aw, cw, hvw, hcw, -⟩ := hC.rowW.slice
  subst hvw
  have hnw : s.W.length < 9223372036854775807 := by omega
  have X3 : Aside0 (∀ W, Cl W gc mb B (.slice (some ⟨gl, 0, none⟩) s.L.length c) (.slice Aw s.W.length cw) s → W.cell? ⟨gl, i * 5 + 3, none⟩ = some (.int .u8 3)) := ⟨fun W h => by rw [h.x3 hi, HF3.out]⟩
  clear hC
  go_enter Try.func32, Try.ntmps32
  go_upto_region 1 with (first
    | ((with_reducible refine gate_dst (N := 4) rfl ?_); refine box_event ?hg (N := 4) ?hd (cs := #[.int .u8 ak, .int .i64 an, .int .i64 aa, .int .i64 ab, .int .u64 at_]) (t := 31) ?hr ?_; (case hd => rfl); (case hg => rfl); (case hr => first | (go_simp; done) | (go_simp; rfl)); intro ga hg w1_a hbox hb; have GGa := Aside0.mk (show w.heap.size ≤ ga from by rw [hg]; exact below_size (by repeat (first | (with_reducible first | exact HB.out | apply below_alloc | apply pw_below_drewN | apply below_drew1) | exact HB.out))); have BKa := Aside0.mk hbox; clear hbox hg; have n0_ := Aside0.mk (below_step (by repeat (first | (with_reducible first | exact HB.out | apply below_alloc | apply pw_below_drewN | apply below_drew1) | exact HB.out)) hb); clear HB; have HB := n0_; clear n0_ hb)
    | ((with_reducible refine gate_dst (N := 5) rfl ?_); refine box_event ?hg (N := 5) ?hd (cs := #[.pointer (some ⟨gl, i * 5, none⟩)]) (t := 61) ?hr ?_; (case hd => rfl); (case hg => rfl); (case hr => first | (go_simp; done) | (go_simp; rfl)); intro gk hg w1_k hbox hb; have GGk := Aside0.mk (show w.heap.size ≤ gk from by rw [hg]; exact below_size (by repeat (first | (with_reducible first | exact HB.out | apply below_alloc | apply pw_below_drewN | apply below_drew1) | exact HB.out))); have BKk := Aside0.mk hbox; clear hbox hg; have n0_ := Aside0.mk (below_step (by repeat (first | (with_reducible first | exact HB.out | apply below_alloc | apply pw_below_drewN | apply below_drew1) | exact HB.out)) hb); (first | have n1_ := Aside0.mk (blk_below BKa.out hb) | have n1_ := Aside0.mk (blk_below (blk_drewN BKa.out _) hb) | have n1_ := Aside0.mk (blk_below (blk_drew BKa.out) hb) | have n1_ := Aside0.mk (blk_below (blk_alloc BKa.out _) hb) | have n1_ := Aside0.mk (blk_below (by first | exact BKa.out | ((with_reducible repeat (first | refine blk_drewN ?_ _ | refine blk_drew ?_ | refine blk_alloc ?_ _)); exact BKa.out)) hb)); clear HB BKa; have HB := n0_; have BKa := n1_; clear n0_ n1_ hb))
  have HC1 := Aside0.mk (HC.out.below HB.out)
  have c1 := HC1.out.c1
  obtain ⟨cur, q1, q2, -⟩ := HC1.out.cells hi
  have HT : Aside0 (Tells 40 #[.pointer (some ⟨gk, 0, none⟩)] (isStart s.L[i].f0) [(gk, .cells #[.pointer (some ⟨gl, i * 5, none⟩)] 61 (0, 0)), (gl, .cells cur 50 (0, 0))]) := ⟨ready1.tells gk gl (i * 5) cur s.L[i].f0 q2⟩
  have HS : Aside0 (Sees [(gk, .cells #[.pointer (some ⟨gl, i * 5, none⟩)] 61 (0, 0)), (gl, .cells cur 50 (0, 0))] w1_k) := ⟨fun p hp => by
    rcases List.mem_cons.1 hp with rfl | hp
    · exact BKk.out
    · rw [List.mem_singleton] at hp; subst hp; exact q1⟩
  have HQ : Aside0 (Kd.C k27 w1_k Aw s.W.length s.W) := ⟨by obtain ⟨A', c', e, _, hq⟩ := HC1.out.rowW.slice; injection e with e1 _ _; rw [e1]; exact hq⟩
  clear q1 q2
  go_upto_region 2 with (go_at_call 27; with_reducible refine (IndexFunc.calls Aw cw s.W 40 #[.pointer (some ⟨gk, 0, none⟩)] (isStart s.L[i].f0) [(gk, .cells #[.pointer (some ⟨gl, i * 5, none⟩)] 61 (0, 0)), (gl, .cells cur 50 (0, 0))] _ HQ.out hcw hnw enters40 HT.out HS.out).mono ?_; rw [hI]; rintro e w2 ⟨rfl, hb⟩; have HC2 := Aside0.mk (HC1.out.below hb); have BKk2 := Aside0.mk (blk_below BKk.out hb); have HB2 := Aside0.mk (HB.out.trans (Below.mono hb HB.out.size)); clear hb; have z3 : w2.frozen? ⟨gl, i * 5 + 3, none⟩ = false := HC2.out.zL 3; have x3 : w2.cell? ⟨gl, i * 5 + 3, none⟩ = some (.int .u8 3) := X3.out _ HC2.out; have p2 : w2.cell? ⟨gk, 0, none⟩ = some (.pointer (some ⟨gl, i * 5, none⟩)) := (blk_cell BKk2.out 0).trans rfl; have c12 : w2.cell? ⟨gc, 1, none⟩ = some (.slice Aw s.W.length cw) := HC2.out.c1)
  obtain ⟨gw, ew⟩ : ∃ gw, Aw = some ⟨gw, 0, none⟩ := by
    obtain ⟨g, cap, cur, h1, _⟩ := HC2.out.rowW.form (by omega)
    injection h1 with h1 _ _
    exact ⟨g, h1⟩
  subst ew
  have HR2 := Aside0.mk HC2.out.rowW
  have HBW := Aside0.mk HC2.out.base
  have GL := Aside0.mk HC2.out.lt
  have GCW := Aside0.mk (show gc ≠ gw from fun e => HC2.out.gcW (by rw [e]; rfl))
  have HG2 := Aside0.mk HC2.out.1
  go_upto_region 6 with (go_at_call 41; with_reducible refine (Delete.calls B gw cw f s.W _ HR2.out hfl HBW.out).mono ?_; rintro e w3 ⟨rfl, hr, hb, hk⟩; have R3 := Aside0.mk hr; have D3 := Aside0.mk hb; have K3 := Aside0.mk hk; clear hr hb hk; have G3 := Aside0.mk ((K3.out gc GL.out GCW.out).trans HG2.out); have c9 : w3.cell? ⟨gc, 1, none⟩ = some (.slice (some ⟨gw, 0, none⟩) s.W.length cw) := (blk_cell G3.out 1).trans rfl; have z9 : w3.frozen? ⟨gc, 1, none⟩ = false := blk_frozen G3.out 1)
  have hL3 : Row50 w3 B (.slice (some ⟨gl, 0, none⟩) s.L.length c) s.L := HC2.out.rowL.moved fun k hk => by
    obtain ⟨cur, q1, _⟩ := HC2.out.rowL.owned hk
    exact K3.out k (blk_lt q1) (fun e => HC2.out.LW hk (by rw [e]; rfl))
  have hM3 : MapIs w3 mb s.A := HC2.out.mapIs.kept (K3.out mb HC2.out.mapIs.lt (fun e => HC2.out.mbW (by rw [e]; rfl)))
  have HC5 := Aside0.mk (Cl.putW G3.out hL3 R3.out hM3 HC.out.2.2.2.2.1 HC.out.2.2.2.2.2 HC.out.gcL (R3.out.ne G3.out (by decide)) HC.out.gcmb)
  have B5 : Aside0 (Below B w (w3.setCell ⟨gc, 1, none⟩ (.slice (some ⟨gw, 0, none⟩) (s.W.length - 1) cw))) := ⟨((Below.mono HB2.out HC.out.base).trans D3.out).setCell (show B ≤ gc from HC.out.2.2.2.2.1) _⟩
  have K5 : Aside0 (∀ k, k < w2.heap.size → k ≠ gc → k ≠ gw → (w3.setCell ⟨gc, 1, none⟩ (.slice (some ⟨gw, 0, none⟩) (s.W.length - 1) cw)).heap[k]? = w2.heap[k]?) := ⟨fun k hk a d => (heap_setCell_other w3 _ k _ a).trans (K3.out k hk d)⟩
  have BK5 := Aside0.mk ((K5.out gk (blk_lt BKk2.out) (fun e => by have h := BKk2.out; rw [e, HG2.out] at h; injection h with h; injection h with _ h; cases h) (fun e => (HR2.out.ne BKk2.out (by decide)) (by rw [e]; rfl))).trans BKk2.out)
  have FS5 : Aside0 (w2.heap.size ≤ (w3.setCell ⟨gc, 1, none⟩ (.slice (some ⟨gw, 0, none⟩) (s.W.length - 1) cw)).heap.size) := ⟨by have := D3.out.size; simpa [World.setCell] using this⟩
  clear c9 z9 hL3 hM3 x3 z3 p2 c12
  generalize World.setCell w3 _ _ = w5 at HC5 B5 K5 BK5 FS5 ⊢
  have p2 : w5.cell? ⟨gk, 0, none⟩ = some (.pointer (some ⟨gl, i * 5, none⟩)) := (blk_cell BK5.out 0).trans rfl
  have x3 : w5.cell? ⟨gl, i * 5 + 3, none⟩ = some (.int .u8 s.L[i].f3) := HC5.out.x3 hi
  have z3 : w5.frozen? ⟨gl, i * 5 + 3, none⟩ = false := HC5.out.zL 3
  go_upto_region 7 with fail
  have HC4 := Aside0.mk (HC5.out.setSt i hi 2)
  have hne : ∀ k, k ≠ gl → (w5.setCell ⟨gl, i * 5 + 3, none⟩ (.int .u8 2)).heap[k]? = w5.heap[k]? := fun k hk => heap_setCell_other w5 _ k _ hk
  have BKk4 := Aside0.mk ((hne gk (fun e => by obtain ⟨cur, q, _⟩ := HC5.out.rowL.owned (k := gl) rfl; have h := BK5.out; rw [e, q] at h; injection h with h; injection h with _ h; cases h)).trans BK5.out)
  have B4 : Aside0 (Below B w (w5.setCell ⟨gl, i * 5 + 3, none⟩ (.int .u8 2))) := ⟨B5.out.setCell (show B ≤ gl from HC.out.glB) _⟩
  have F4 : Aside0 (∀ k, k < w.heap.size → k ≠ gl → (w5.setCell ⟨gl, i * 5 + 3, none⟩ (.int .u8 2)).heap[k]? = w5.heap[k]?) := ⟨fun k _ hk2 => hne k hk2⟩
  clear hne x3 z3 p2
  generalize World.setCell w5 _ _ = w4 at HC4 BKk4 B4 F4 ⊢
  have p4 : w4.cell? ⟨gk, 0, none⟩ = some (.pointer (some ⟨gl, i * 5, none⟩)) := (blk_cell BKk4.out 0).trans rfl
  have hiS : i < (setSt s.L i 2).length := by rw [setSt, List.length_set]; exact hi
  obtain ⟨cur4, q1, q2, y0, -⟩ := HC4.out.cells hiS
  have e0 : ((setSt s.L i 2)[i]'hiS).f0 = s.L[i].f0 := setAt0 hi _ (by show (at50 s.L i).f0 = _; rw [at50_eq hi]) hiS
  have x0 : w4.cell? ⟨gl, i * 5, none⟩ = some (.int .u64 s.L[i].f0) := by rw [← e0]; exact y0
  clear q1 q2 e0 y0
  go_wp2
  go_ret
  have hs4 : w.heap.size ≤ w4.heap.size := B4.out.size
  have b5 : ∀ o, Below w4.heap.size w4 (w4.alloc o) := fun o => below_alloc (Below.refl w4.heap.size w4) o
  exact ⟨_, rfl, ⟨w4.heap.size, rfl, hs4, blk_new w4 _⟩, _, _, HC4.out.below (b5 _), .refl _ _, .inl rfl, B4.out.trans (Below.mono (b5 _) (Nat.le_trans HC.out.base hs4)), fun k hk a b c d => ((b5 _).block k (by omega)).trans ((F4.out k hk (fun e => c (by rw [e]; rfl))).trans ((K5.out k (Nat.lt_of_lt_of_le hk HB2.out.size) a (fun e => d (by rw [e]; rfl))).trans (HB2.out.block k hk)))⟩
end
end Go.Proofs.Ytfhopjigdkjnoaa.GA
