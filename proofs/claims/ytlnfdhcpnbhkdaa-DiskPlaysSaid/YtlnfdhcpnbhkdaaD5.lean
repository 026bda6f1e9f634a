/- Blocks in memory: loads, stores and copies of 64 bytes. Blocks in memory: loads, stores and copies of 64 bytes. No condition. -/
import Derived.Test.YtlnfdhcpnbhkdaaD3
import Derived.Laws.CopyOwn
import Derived.ChangeKeysEq
import Derived.Deep.RegionHeld3
import Derived.Deep.MidRow
import Derived.Great.BuildSlice
import Derived.Great.Walk
namespace Go.Proofs.Ytlnfdhcpnbhkdaa.GA
section
open Go.RowKit Go.Proofs.YtlnfdhcpnbhkdaaW.PrintWords Go.Proofs.YtlnfdhcpnbhkdaaW.PrintLast Go.Proofs.YtlnfdhcpnbhkdaaW.PrintMore
set_option linter.unusedVariables false
set_option linter.unusedSimpArgs false


/-- the cells of a write that is not held -/
def askC (i : Int) (b : List Int) : Array Value := (.int .i64 i :: encs (Value.int .u8) b).toArray
theorem askC_size (i : Int) (b : List Int) (hb : b.length = 64) : (askC i b).size = 65 := by unfold askC; rw [List.size_toArray, List.length_cons, encs_length, hb]
theorem fill_step {place : Nat → Option (Nat × Nat)} {cells : Array Value} {i off size : Nat} {v : Value} {rest : List (Nat × Value)} (hp : place i = some (off, size)) (hs : v.cells.size = size) (hf : off + size ≤ cells.size) :
    Instr.fill place cells ((i, v) :: rest) = Instr.fill place ((v.cells.toList.zipIdx 0).foldl (fun cs (x : Value × Nat) => cs.setIfInBounds (off + x.2) x.1) cells) rest := by
  have e : v.cells.zipIdx.foldl (fun cs (x : Value × Nat) => cs.setIfInBounds (off + x.2) x.1) cells = (v.cells.toList.zipIdx 0).foldl (fun cs (x : Value × Nat) => cs.setIfInBounds (off + x.2) x.1) cells := by
    rw [← Array.foldl_toList, Array.toList_zipIdx]
  rw [Instr.fill, hp]
  simp only [hs]
  rw [if_neg (by simp; omega), ← e]
theorem ask_built (i : Int) (b : List Int) (hb : b.length = 64) : Try.prog.built 65 [(0, .int .i64 i), (1, .agg (bcells b))] = some (askC i b) := by
  have hsz : (Try.prog.info? 65).map (fun it => it.zero.map (·.cells.size)) = some (some 65) := by kernel_rfl
  cases hit : Try.prog.info? 65 with
  | none => rw [hit] at hsz; cases hsz
  | some it =>
    cases hz : it.zero with
    | none => rw [hit] at hsz; simp [hz] at hsz
    | some z =>
      have hz65 : z.cells.size = 65 := by rw [hit] at hsz; simpa [hz] using hsz
      unfold Program.built
      rw [hit, Try.underlying65]
      simp only [hz]
      have hp : ∀ fs, Try.prog.underlying 65 = some (.struct fs) → fs.toList.mapM (fun f => (Try.prog.info? f.type).map fun i => (f.offset, i.size)) = some [(0, 1), (1, 64)] := fun fs hf => by
        rw [Try.underlying65] at hf
        injection hf with hf
        injection hf with hf
        subst hf
        kernel_rfl
      rw [hp _ Try.underlying65]
      simp only
      have hc : (Value.agg (bcells b)).cells = bcells b := rfl
      rw [fill_step (off := 0) (size := 1) (by rfl) (by rfl) (by omega), fill_step (off := 1) (size := 64) (by rfl) (by rw [hc, bcells_size, hb]) (by rw [(Great.foldl_set 0 _ 0 z.cells).1]; omega), Instr.fill]
      congr 1
      apply Array.ext_getElem?
      intro k
      have h1 := (Great.foldl_set 1 (Value.agg (bcells b)).cells.toList 0 ((((Value.int .i64 i).cells.toList.zipIdx 0).foldl (fun cs (x : Value × Nat) => cs.setIfInBounds (0 + x.2) x.1) z.cells))).2 k
      have h2 := (Great.foldl_set 0 (Value.int .i64 i).cells.toList 0 z.cells).2 k
      have h3 := (Great.foldl_set 0 (Value.int .i64 i).cells.toList 0 z.cells).1
      rw [h1, h2, h3, hz65, hc]
      have hl : (bcells b).toList.length = 64 := by rw [Array.length_toList, bcells_size, hb]
      have hl1 : (Value.int .i64 i).cells.toList.length = 1 := rfl
      rw [hl, hl1]
      unfold askC
      have hr : (Value.int .i64 i :: encs (Value.int .u8) b).toArray[k]? = (Value.int .i64 i :: encs (Value.int .u8) b)[k]? := by simp
      rw [hr]
      clear h1 h2 h3 hr
      by_cases hk0 : k = 0
      · subst hk0
        rw [if_neg (by omega), if_pos (by omega)]
        rfl
      · obtain ⟨k, rfl⟩ := Nat.exists_eq_succ_of_ne_zero hk0
        rw [List.getElem?_cons_succ]
        by_cases hk : k < 64
        · rw [if_pos (by omega), show k.succ - (1 + 0) = k by omega]
          rfl
        · rw [if_neg (by omega), if_neg (by omega), Array.getElem?_eq_none (by omega), List.getElem?_eq_none (by rw [encs_length]; omega)]
theorem askSlice_run (W : World) (i : Int) (b : List Int) (hb : b.length = 64) : (Instr.buildSlice 58 1 #[(0, .agg (askC i b))]).run Try.prog W = .ok (.slice (some ⟨W.heap.size, 0, none⟩) 1 1) (W.alloc (.cells (askC i b) 65)) := by
  have hsz : (Try.prog.info? 65).map (fun it => (it.size, it.zero.map (·.cells.size))) = some (65, some 65) := by kernel_rfl
  cases hit : Try.prog.info? 65 with
  | none => rw [hit] at hsz; cases hsz
  | some it =>
    cases hz : it.zero with
    | none => rw [hit] at hsz; simp [hz] at hsz
    | some z =>
      have h65 : it.size = 65 := by rw [hit] at hsz; simp [hz] at hsz; exact hsz.1
      refine run_buildSlice W 58 65 1 _ (askC i b) it z Try.underlying58 hit hz (by rw [h65]; decide) (by rw [h65]; decide) ?_
      rw [h65]
      have h := Great.fill_whole (s := 65) (by decide) [Value.agg (askC i b)] ((Array.range (1 * 65)).map (z.cells[· % z.cells.size]!)) (fun v hv => by rw [List.mem_singleton.1 hv]; exact askC_size i b hb) (by simp)
      have e : ([Value.agg (askC i b)].flatMap fun v => v.cells.toList).toArray = askC i b := by
        simp only [List.flatMap_cons, List.flatMap_nil, List.append_nil]
        rfl
      rw [e] at h
      exact h
end
section
open Go.RowKit Go.Proofs.YtlnfdhcpnbhkdaaW.PrintWords Go.Proofs.YtlnfdhcpnbhkdaaW.PrintLast Go.Proofs.YtlnfdhcpnbhkdaaW.PrintMore
set_option linter.unusedVariables false
set_option linter.unusedSimpArgs false


theorem infoAsk : (Try.prog.info? 65).map (fun i => (i.zero, i.size, i.bytes)) = some (some (.agg (askC 0 zero64)), 65, 72) := by kernel_rfl
theorem ask_run {o : Oper} {a : Act} (t1 t2 : Tmp) (i : Int) (b : List Int) (hb : b.length = 64) (ho : o.op = .build 65 #[(0, .tmp t1), (1, .tmp t2)]) (h1 : a.eval (.tmp t1) = .int .i64 i) (h2 : a.eval (.tmp t2) = .agg (bcells b)) (w : World) :
    (execOp a.eval o).run Try.prog w = .ok (.value (.agg (askC i b))) w := by
  unfold execOp
  have hm : #[((0 : Nat), Operand.tmp t1), (1, .tmp t2)].map (fun (i, x) => (i, a.eval x)) = #[(0, .int .i64 i), (1, .agg (bcells b))] := by
    rw [← h1, ← h2]
    simp [Act.eval]
  simp only [ho, hm, Sem.run_bind, run_build w 65 #[(0, .int .i64 i), (1, .agg (bcells b))] (askC i b) (ask_built i b hb), Result.andThen_ok, Sem.run_pure]
theorem askSlice_ev {ops : Array Oper} {Q : Exit → Act → World → Prop} {oi : Oper} {N : Option Tmp} {a : Act} {W : World} {K : Act → World → Prop} {i : Int} {b : List Int} {t : Tmp} (hw : Region.wanted oi (yielded ops a.tmps) = true) (hN : oi.dst = N) (hop : oi.op = .buildSlice 58 1 #[(0, .tmp t)]) (hx : a.eval (.tmp t) = .agg (askC i b)) (hb : b.length = 64)
    (h : K (a.put N (.slice (some ⟨W.heap.size, 0, none⟩) 1 1)) (W.alloc (.cells (askC i b) 65))) : if Region.wanted oi (yielded ops a.tmps) = true then Oper.wp Try.prog oi a W K Q else K (a.put N undef) W := by
  refine value_ hw hN (v := .slice (some ⟨W.heap.size, 0, none⟩) 1 1) (w1 := W.alloc (.cells (askC i b) 65)) ?_ h
  unfold execOp
  have hm : #[((0 : Nat), Operand.tmp t)].map (fun (i, x) => (i, a.eval x)) = #[(0, .agg (askC i b))] := by
    rw [← hx]
    simp [Act.eval]
  simp only [hop, hm, Sem.run_bind, askSlice_run W i b hb, Result.andThen_ok, Sem.run_pure]
theorem below_size' {B : Nat} {w w4 : World} {gd ga gh n : Nat} {bt : Value} {s : DS} (r : Rep B w gd ga gh n bt s) (hb : Below B w w4) : B ≤ w4.drew.heap.size := by
  have h1 : ga < w.heap.size := blk_lt r.a
  have h2 := r.ba
  have h3 : w.heap.size ≤ w4.heap.size := hb.size
  show B ≤ w4.heap.size
  omega

set_option maxHeartbeats 8000000 in
set_option maxRecDepth 100000 in
theorem Write1.calls (B : Nat) (w : World) (gd ga gh n : Nat) (bt : Value) (s : DS) (r : Rep B w gd ga gh n bt s) (gb gp gi : Nat) (b : List Int) (hb : b.length = 64) (i : Nat) (hi : i < n)
    (hkb : w.heap[gb]? = some (.cells (bcells b) 29 (0, 0))) (hkp : w.heap[gp]? = some (.cells #[.pointer (some ⟨gd, 0, none⟩)] 23 (0, 0))) (hki : w.heap[gi]? = some (.cells #[.int .i64 (i : Int)] 3 (0, 0))) (hab : ga ≠ gb) (hl : (s.btw.length + 1) * 72 ≤ 140737488355328) :
    Calls Try.prog 29 #[.pointer (some ⟨gb, 0, none⟩), .pointer (some ⟨gp, 0, none⟩), .pointer (some ⟨gi, 0, none⟩)] w fun e' w' => e' = .returned (.tuple #[]) ∧ ∃ bt', Rep B w' gd ga gh n bt' { s with asked := splice s.asked (i * 64) b, btw := s.btw ++ [((i : Int), b)] } ∧ Below B w w' ∧ Fr w w' := by
  have RR := Aside0.mk r
  have LB := Aside0.mk hb
  have HI := Aside0.mk hi
  have HL := Aside0.mk hl
  have AB := Aside0.mk hab
  have kb := Aside0.mk hkb
  have kp := Aside0.mk hkp
  have ki := Aside0.mk hki
  have p0 : w.cell? ⟨gp, 0, none⟩ = some (.pointer (some ⟨gd, 0, none⟩)) := (blk_cell hkp 0).trans rfl
  have d0 : w.cell? ⟨gd, 0, none⟩ = some (.slice (some ⟨ga, 0, none⟩) n n) := (blk_cell r.d 0).trans rfl
  have i0c : w.cell? ⟨gi, 0, none⟩ = some (.int .i64 (i : Int)) := (blk_cell hki 0).trans rfl
  have i0 : (0 : Int) ≤ (i : Int) := Int.natCast_nonneg i
  have i1 : (i : Int) < (n : Int) := by omega
  clear hb hi hl hab hkb hkp hki r
  go_enter Try.func29, Try.ntmps29
  go_wp2
  refine start_ (n := 8) (S := fun w' => w'.cell? ⟨gp, 0, none⟩ = some (.pointer (some ⟨gd, 0, none⟩)) ∧ w'.cell? ⟨gd, 0, none⟩ = some (.slice (some ⟨ga, 0, none⟩) n n) ∧ w'.cell? ⟨gi, 0, none⟩ = some (.int .i64 (i : Int)) ∧ w'.heap[gb]? = some (.cells (bcells b) 29 (0, 0))) (ds := [7]) #[false, false, false, false, false, false, false, false] (by kernel_rfl) rfl rfl ⟨p0, d0, i0c, kb.out⟩ (fun hHeld => ?_)
  refine take_ (i := 0) (N := some 3) (v := ?_) (a' := ?_) #[true, false, false, false, false, false, false, false] rfl rfl (by kernel_rfl) (fun _ _ _ h => h) (Or.inl ⟨by rfl, ?_⟩) hHeld ?_ ?_
  rotate_left
  · rintro w' ⟨s0, s1, s2, s3⟩
    go_simp
    with_reducible rfl
  rotate_left
  · simp only [Act.put, List.setIfInBounds_toArray, List.set_cons_zero, List.set_cons_succ, i64_w, i32_w]
    rfl
  refine pure_ (i := 1) (N := some 4) (v := ?_) (a' := ?_) #[true, true, false, false, false, false, false, false] rfl rfl (by kernel_rfl) (fun _ _ _ h => h) (Or.inl ⟨by rfl, ?_⟩) ?_ ?_
  rotate_left
  · intro w'
    go_simp
    with_reducible rfl
  rotate_left
  · simp only [Act.put, List.setIfInBounds_toArray, List.set_cons_zero, List.set_cons_succ, i64_w, i32_w]
    rfl
  refine pure_ (i := 2) (N := some 5) (v := ?_) (a' := ?_) #[true, true, true, false, false, false, false, false] rfl rfl (by kernel_rfl) (fun _ _ _ h => h) (Or.inl ⟨by rfl, ?_⟩) ?_ ?_
  rotate_left
  · intro w'
    go_simp
    with_reducible rfl
  rotate_left
  · simp only [Act.put, List.setIfInBounds_toArray, List.set_cons_zero, List.set_cons_succ, i64_w, i32_w]
    rfl
  refine take_ (i := 3) (N := some 6) (v := ?_) (a' := ?_) #[true, true, true, true, false, false, false, false] rfl rfl (by kernel_rfl) (fun _ _ _ h => h) (Or.inl ⟨by rfl, ?_⟩) hHeld ?_ ?_
  rotate_left
  · rintro w' ⟨s0, s1, s2, s3⟩
    go_simp
    with_reducible rfl
  rotate_left
  · simp only [Act.put, List.setIfInBounds_toArray, List.set_cons_zero, List.set_cons_succ, i64_w, i32_w]
    rfl
  refine take_ (i := 4) (N := some 7) (v := ?_) (a' := ?_) #[true, true, true, true, true, false, false, false] rfl rfl (by kernel_rfl) (fun _ _ _ h => h) (Or.inl ⟨by rfl, ?_⟩) hHeld ?_ ?_
  rotate_left
  · rintro w' ⟨s0, s1, s2, s3⟩
    go_simp
    with_reducible rfl
  rotate_left
  · simp only [Act.put, List.setIfInBounds_toArray, List.set_cons_zero, List.set_cons_succ, i64_w, i32_w]
    rfl
  refine take_ (i := 5) (N := some 8) (v := ?_) (a' := ?_) #[true, true, true, true, true, true, false, false] rfl rfl (by kernel_rfl) (fun _ _ _ h => h) (Or.inl ⟨by rfl, ?_⟩) hHeld ?_ ?_
  rotate_left
  · rintro w' ⟨s0, s1, s2, s3⟩
    refine bl.load_run 0 gb (bcells b) ?_ ?_ w' s3 (seal_size b LB.out)
    · rfl
    · rfl
  rotate_left
  · simp only [Act.put, List.setIfInBounds_toArray, List.set_cons_zero, List.set_cons_succ, i64_w, i32_w]
    rfl
  refine pure_ (i := 6) (N := some 9) (v := ?_) (a' := ?_) #[true, true, true, true, true, true, true, false] rfl rfl (by kernel_rfl) (fun _ _ _ h => h) (Or.inl ⟨by rfl, ?_⟩) ?_ ?_
  rotate_left
  · intro w'
    go_simp
    with_reducible rfl
  rotate_left
  · simp only [Act.put, List.setIfInBounds_toArray, List.set_cons_zero, List.set_cons_succ, i64_w, i32_w]
    rfl
  refine last_ (i := 7) (N := none) #[true, true, true, true, true, true, true, true] rfl rfl (by kernel_rfl) (by decide) (fun K hK => ?_)
  refine store_blk_ev (by rfl) rfl 9 8 rfl ga (i * 64) rfl b LB.out rfl s.asked 29 RR.out.a (by rw [RR.out.la]; have := HI.out; omega) B (show Below B w w.drew from below_drew1 (Below.refl B w)) RR.out.ba ?_
  intro w4 h1 h2 h3; have BKa := Aside0.mk h1; have OA := Aside0.mk (show ∀ k, k ≠ ga → w4.heap[k]? = w.heap[k]? from h2.out); have HB := Aside0.mk h3; clear h1 h2 h3
  refine hK.out _ _ ?_
  clear hK K
  refine done_ (by kernel_rfl) ?_

  clear p0 d0 i0c
  have npa : gp ≠ ga := fun e => by have h1 := kp.out; rw [e, RR.out.a] at h1; injection h1 with h1; injection h1 with _ h2 _; exact absurd h2 (by decide)
  have nia : gi ≠ ga := fun e => by have h1 := ki.out; rw [e, RR.out.a] at h1; injection h1 with h1; injection h1 with _ h2 _; exact absurd h2 (by decide)
  have Bp := Aside0.mk ((OA.out gp npa).trans kp.out)
  have Bi := Aside0.mk ((OA.out gi nia).trans ki.out)
  have Bb := Aside0.mk ((OA.out gb (fun e => AB.out e.symm)).trans kb.out)
  have Bd := Aside0.mk ((OA.out gd (fun e => RR.out.dne.1 e.symm)).trans RR.out.d)
  have Bh := Aside0.mk ((OA.out gh (fun e => RR.out.ne e.symm)).trans RR.out.h)
  have HO := Aside0.mk (show AskOwn B w4.drew bt s.btw from RR.out.b.move (fun k hk => OA.out k (RR.out.b.ne RR.out.a (by decide) hk)))
  go_wp2
  refine start_ (n := 13) (S := fun w' => w'.cell? ⟨gp, 0, none⟩ = some (.pointer (some ⟨gd, 0, none⟩)) ∧ w'.cell? ⟨gd, 2, none⟩ = some (bt) ∧ w'.cell? ⟨gi, 0, none⟩ = some (.int .i64 (i : Int)) ∧ w'.heap[gb]? = some (.cells (bcells b) 29 (0, 0))) (ds := [12]) #[false, false, false, false, false, false, false, false, false, false, false, false, false] (by kernel_rfl) rfl rfl ⟨(blk_cell Bp.out 0).trans rfl, (blk_cell Bd.out 2).trans rfl, (blk_cell Bi.out 0).trans rfl, Bb.out⟩ (fun hHeld => ?_)
  refine take_ (i := 0) (N := some 10) (v := ?_) (a' := ?_) #[true, false, false, false, false, false, false, false, false, false, false, false, false] rfl rfl (by kernel_rfl) (fun _ _ _ h => h) (Or.inl ⟨by rfl, ?_⟩) hHeld ?_ ?_
  rotate_left
  · rintro w' ⟨s0, s1, s2, s3⟩
    go_simp
    with_reducible rfl
  rotate_left
  · simp only [Act.put, List.setIfInBounds_toArray, List.set_cons_zero, List.set_cons_succ, i64_w, i32_w]
    rfl
  refine take_ (i := 1) (N := some 11) (v := ?_) (a' := ?_) #[true, true, false, false, false, false, false, false, false, false, false, false, false] rfl rfl (by kernel_rfl) (fun _ _ _ h => h) (Or.inl ⟨by rfl, ?_⟩) hHeld ?_ ?_
  rotate_left
  · rintro w' ⟨s0, s1, s2, s3⟩
    go_simp
    with_reducible rfl
  rotate_left
  · simp only [Act.put, List.setIfInBounds_toArray, List.set_cons_zero, List.set_cons_succ, i64_w, i32_w]
    rfl
  refine pure_ (i := 2) (N := some 12) (v := ?_) (a' := ?_) #[true, true, true, false, false, false, false, false, false, false, false, false, false] rfl rfl (by kernel_rfl) (fun _ _ _ h => h) (Or.inl ⟨by rfl, ?_⟩) ?_ ?_
  rotate_left
  · intro w'
    go_simp
    with_reducible rfl
  rotate_left
  · simp only [Act.put, List.setIfInBounds_toArray, List.set_cons_zero, List.set_cons_succ, i64_w, i32_w]
    rfl
  refine pure_ (i := 3) (N := some 13) (v := ?_) (a' := ?_) #[true, true, true, true, false, false, false, false, false, false, false, false, false] rfl rfl (by kernel_rfl) (fun _ _ _ h => h) (Or.inl ⟨by rfl, ?_⟩) ?_ ?_
  rotate_left
  · intro w'
    go_simp
    with_reducible rfl
  rotate_left
  · simp only [Act.put, List.setIfInBounds_toArray, List.set_cons_zero, List.set_cons_succ, i64_w, i32_w]
    rfl
  refine take_ (i := 4) (N := some 14) (v := ?_) (a' := ?_) #[true, true, true, true, true, false, false, false, false, false, false, false, false] rfl rfl (by kernel_rfl) (fun _ _ _ h => h) (Or.inl ⟨by rfl, ?_⟩) hHeld ?_ ?_
  rotate_left
  · rintro w' ⟨s0, s1, s2, s3⟩
    go_simp
    with_reducible rfl
  rotate_left
  · simp only [Act.put, List.setIfInBounds_toArray, List.set_cons_zero, List.set_cons_succ, i64_w, i32_w]
    rfl
  refine take_ (i := 5) (N := some 15) (v := ?_) (a' := ?_) #[true, true, true, true, true, true, false, false, false, false, false, false, false] rfl rfl (by kernel_rfl) (fun _ _ _ h => h) (Or.inl ⟨by rfl, ?_⟩) hHeld ?_ ?_
  rotate_left
  · rintro w' ⟨s0, s1, s2, s3⟩
    go_simp
    with_reducible rfl
  rotate_left
  · simp only [Act.put, List.setIfInBounds_toArray, List.set_cons_zero, List.set_cons_succ, i64_w, i32_w]
    rfl
  refine take_ (i := 6) (N := some 16) (v := ?_) (a' := ?_) #[true, true, true, true, true, true, true, false, false, false, false, false, false] rfl rfl (by kernel_rfl) (fun _ _ _ h => h) (Or.inl ⟨by rfl, ?_⟩) hHeld ?_ ?_
  rotate_left
  · rintro w' ⟨s0, s1, s2, s3⟩
    refine bl.load_run 0 gb (bcells b) ?_ ?_ w' s3 (seal_size b LB.out)
    · rfl
    · rfl
  rotate_left
  · simp only [Act.put, List.setIfInBounds_toArray, List.set_cons_zero, List.set_cons_succ, i64_w, i32_w]
    rfl
  refine pure_ (i := 7) (N := some 17) (v := ?_) (a' := ?_) #[true, true, true, true, true, true, true, true, false, false, false, false, false] rfl rfl (by kernel_rfl) (fun _ _ _ h => h) (Or.inl ⟨by rfl, ?_⟩) ?_ ?_
  rotate_left
  · intro w'
    refine ask_run 15 16 (i : Int) b LB.out ?_ ?_ ?_ w'
    · rfl
    · rfl
    · rfl
  rotate_left
  · simp only [Act.put, List.setIfInBounds_toArray, List.set_cons_zero, List.set_cons_succ, i64_w, i32_w]
    rfl
  refine one_ (i := 8) (N := some 18) #[true, true, true, true, true, true, true, true, true, false, false, false, false] rfl rfl (by kernel_rfl) (by decide) (fun K hK => ?_)
  refine askSlice_ev (by rfl) rfl rfl rfl LB.out ?_
  refine hK.out _ _ ⟨(blk_cell (blk_alloc (show w4.drew.heap[_]? = _ from Bp.out) _) 0).trans rfl, (blk_cell (blk_alloc (show w4.drew.heap[_]? = _ from Bd.out) _) 2).trans rfl, (blk_cell (blk_alloc (show w4.drew.heap[_]? = _ from Bi.out) _) 0).trans rfl, (blk_alloc (show w4.drew.heap[_]? = _ from Bb.out) _)⟩ (fun hHeld => ?_)
  clear hK K
  refine norm_ (a' := ?_) ?_ ?_
  rotate_left
  · show Act.put _ (some 18) _ = _
    simp only [Act.put, List.setIfInBounds_toArray, List.set_cons_zero, List.set_cons_succ, i64_w, i32_w]
    rfl
  refine one_ (i := 9) (N := some 19) #[true, true, true, true, true, true, true, true, true, true, false, false, false] rfl rfl (by kernel_rfl) (by decide) (fun K hK => ?_)
  refine Kd.R_append_step kAsk (w0 := w) B (by rfl) (.tmp 14) (.tmp 18) 58 65 (.agg (askC 0 zero64)) 72 rfl Try.underlying58 infoAsk rfl (by decide) (by decide) bt s.btw ((i : Int), b) (.int .i64 (i : Int) :: encs (Value.int .u8) b) (fun _ => True) (fun _ => False) rfl rfl ⟨rfl, LB.out⟩ (fun _ hk => hk.elim) (fun _ _ => trivial) HO.out (below_drew1 HB.out) (below_size' RR.out HB.out) HL.out ?_
  intro v1 w5 ho hb hg hat; obtain ⟨Aq, cq, eq⟩ := Kd.R_slice ho; subst eq
  have Cp := Aside0.mk (blk_grown (g := gp) (show w4.drew.heap[gp]? = _ from Bp.out) hg (Kd.R_ne HO.out (show w4.drew.heap[gp]? = _ from Bp.out) (by decide)))
  have Ci := Aside0.mk (blk_grown (g := gi) (show w4.drew.heap[gi]? = _ from Bi.out) hg (Kd.R_ne HO.out (show w4.drew.heap[gi]? = _ from Bi.out) (by decide)))
  have Cd := Aside0.mk (blk_grown (g := gd) (show w4.drew.heap[gd]? = _ from Bd.out) hg (Kd.R_ne HO.out (show w4.drew.heap[gd]? = _ from Bd.out) (by decide)))
  have Cb := Aside0.mk (blk_grown (g := gb) (show w4.drew.heap[gb]? = _ from Bb.out) hg (Kd.R_ne HO.out (show w4.drew.heap[gb]? = _ from Bb.out) (by decide)))
  have HO5 := Aside0.mk ho; have HB5 := Aside0.mk hb; have HG5 := Aside0.mk hg; clear ho hb hg hat
  have x2 : w5.cell? ⟨gd, 2, none⟩ = some (bt) := (blk_cell Cd.out 2).trans rfl; have z2 := blk_frozen Cd.out 2
  refine hK.out _ _ ⟨(blk_cell Cp.out 0).trans rfl, x2, (blk_cell Ci.out 0).trans rfl, Cb.out⟩ (fun hHeld => ?_)
  clear hK K
  refine norm_ (a' := ?_) ?_ ?_
  rotate_left
  · show Act.put _ (some 19) _ = _
    simp only [Act.put, List.setIfInBounds_toArray, List.set_cons_zero, List.set_cons_succ, i64_w, i32_w]
    rfl
  refine pure_ (i := 10) (N := some 20) (v := ?_) (a' := ?_) #[true, true, true, true, true, true, true, true, true, true, true, false, false] rfl rfl (by kernel_rfl) (fun _ _ _ h => h) (Or.inl ⟨by rfl, ?_⟩) ?_ ?_
  rotate_left
  · intro w'
    go_simp
    with_reducible rfl
  rotate_left
  · simp only [Act.put, List.setIfInBounds_toArray, List.set_cons_zero, List.set_cons_succ, i64_w, i32_w]
    rfl
  refine pure_ (i := 11) (N := some 21) (v := ?_) (a' := ?_) #[true, true, true, true, true, true, true, true, true, true, true, true, false] rfl rfl (by kernel_rfl) (fun _ _ _ h => h) (Or.inl ⟨by rfl, ?_⟩) ?_ ?_
  rotate_left
  · intro w'
    go_simp
    with_reducible rfl
  rotate_left
  · simp only [Act.put, List.setIfInBounds_toArray, List.set_cons_zero, List.set_cons_succ, i64_w, i32_w]
    rfl
  refine last_ (i := 12) (N := none) #[true, true, true, true, true, true, true, true, true, true, true, true, true] rfl rfl (by kernel_rfl) (by decide) (fun K hK => ?_)
  refine skip_ (w1 := ?_) (by rfl) rfl ?_ ?_
  rotate_left
  · go_simp
    rfl
  refine hK.out _ _ ?_
  clear hK K
  refine done_ (by kernel_rfl) ?_

  go_wp2
  have hgo := HG5.out
  have HO6 := Aside0.mk (show AskOwn B w5 (.slice Aq (s.btw.length + 1) cq) (s.btw ++ [((i : Int), b)]) from by have h := HO5.out; rw [List.length_append] at h; exact h)
  have Bda := Aside0.mk (show w4.drew.heap[ga]? = _ from BKa.out)
  have Bdh := Aside0.mk (show w4.drew.heap[gh]? = _ from Bh.out)
  have Ca := Aside0.mk (blk_grown (g := ga) Bda.out hgo (Kd.R_ne HO.out Bda.out (by decide)))
  have Ch := Aside0.mk (blk_grown (g := gh) Bdh.out hgo (Kd.R_ne HO.out Bdh.out (by decide)))
  refine Great.bodyPost_end0 rfl rfl ⟨rfl, _, ⟨blk_put Cd.out 2 _ (drow_bt _ _ _ _ _ _ _ _ _), (heap_setCell_other _ _ ga _ (show ga ≠ gd from RR.out.dne.1)).trans Ca.out, (heap_setCell_other _ _ gh _ (show gh ≠ gd from RR.out.dne.2)).trans Ch.out, ?_, RR.out.bd, RR.out.ba, RR.out.bh, RR.out.ne, ?_, RR.out.lh, RR.out.n0, ?_, RR.out.al0, RR.out.al1, RR.out.st0⟩, HB5.out.setCell (show B ≤ gd from RR.out.bd) _, ?_⟩
  · exact AskOwn.move HO6.out (fun k hk => heap_setCell_other _ _ k _ (show k ≠ gd from AskOwn.ne HO6.out Cd.out (by decide) hk))
  · exact (length_splice _ _ _ (by rw [LB.out, RR.out.la]; have := HI.out; omega)).trans RR.out.la
  · intro x hx
    rcases List.mem_append.1 hx with h | h
    · exact RR.out.ok x h
    · rw [List.mem_singleton.1 h]
      exact ⟨i0, i1, LB.out⟩
  · refine (Fr.but RR.out.a (.inr (.inl rfl)) OA.out).trans (Fr.trans (w1 := w5) ?_ (Fr.but Cd.out (.inl rfl) (fun k hk => heap_setCell_other _ _ k _ (show k ≠ gd from hk))))
    intro k cs t hk h1 h2 h3
    exact blk_grown (g := k) (show w4.drew.heap[k]? = _ from hk) hgo (Kd.R_ne HO.out (show w4.drew.heap[k]? = _ from hk) (fun e => h3 e.symm))
end
end Go.Proofs.Ytlnfdhcpnbhkdaa.GA
