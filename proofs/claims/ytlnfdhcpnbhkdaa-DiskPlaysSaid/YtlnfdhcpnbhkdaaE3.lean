/- Blocks in memory: loads, stores and copies of 64 bytes. No condition. -/
import Derived.Test.YtlnfdhcpnbhkdaaD14
import Derived.Laws.CopyOwn
import Derived.ChangeKeysEq
import Derived.Deep.RegionHeld3
import Derived.Deep.MidRow
import Derived.Great.Walk
namespace Go.Proofs.Ytlnfdhcpnbhkdaa.GA.E
open Go.RowKit Go.Proofs.YtlnfdhcpnbhkdaaW.PrintWords Go.Proofs.YtlnfdhcpnbhkdaaW.PrintLast Go.Proofs.YtlnfdhcpnbhkdaaW.PrintMore
set_option linter.unusedVariables false
set_option linter.unusedSimpArgs false

/-- what a disk is in memory -/
structure Rep (B : Nat) (w : World) (gd ga gh n ca ch : Nat) (bt : Value) (s : DS) : Prop where
  d : w.heap[gd]? = some (.cells (drow (.slice (some ⟨ga, 0, none⟩) n ca) (some ⟨gh, 0, none⟩) n ch bt s.al s.st s.ni) 60 (0, 0))
  a : w.heap[ga]? = some (.cells (bcells s.asked) 29 (0, 0))
  h : w.heap[gh]? = some (.cells (bcells s.held) 29 (0, 0))
  b : AskOwn B w bt s.btw
  bd : B ≤ gd
  ba : B ≤ ga
  bh : B ≤ gh
  ne : ga ≠ gh
  la : n * 64 ≤ s.asked.length
  lh : n * 64 ≤ s.held.length
  n0 : 0 < n
  ok : ∀ x ∈ s.btw, 0 ≤ x.1 ∧ x.1 < n ∧ x.2.length = 64
  al0 : 0 ≤ s.al
  al1 : s.al < 9223372036854775808
  st0 : 0 ≤ s.st
theorem Rep.dne {B : Nat} {w : World} {gd ga gh n ca ch : Nat} {bt : Value} {s : DS} (r : Rep B w gd ga gh n ca ch bt s) : ga ≠ gd ∧ gh ≠ gd := by
  constructor
  · intro e
    have h1 := r.a
    rw [e, r.d] at h1
    injection h1 with h1
    injection h1 with _ h2 _
    exact absurd h2 (by decide)
  · intro e
    have h1 := r.h
    rw [e, r.d] at h1
    injection h1 with h1
    injection h1 with _ h2 _
    exact absurd h2 (by decide)
/-- what isn't this disk's stays -/
def Fz (gd ga gh : Nat) (bt : Value) (w w' : World) : Prop := ∀ (k : Nat) (o : Obj), w.heap[k]? = some o → k ≠ gd → k ≠ ga → k ≠ gh → bt.ownBlock ≠ some k → w'.heap[k]? = some o
theorem Fz.refl (gd ga gh : Nat) (bt : Value) (w : World) : Fz gd ga gh bt w w := fun _ _ h _ _ _ _ => h
theorem Fz.trans {gd ga gh : Nat} {bt : Value} {w w1 w2 : World} (h1 : Fz gd ga gh bt w w1) (h2 : Fz gd ga gh bt w1 w2) : Fz gd ga gh bt w w2 := fun k o h a b c d => h2 k o (h1 k o h a b c d) a b c d
theorem Fz.below {gd ga gh : Nat} {bt : Value} {w w' : World} (h : Below w.heap.size w w') : Fz gd ga gh bt w w' := fun k o hk _ _ _ _ => blk_below hk h
theorem Fz.d {gd ga gh : Nat} {bt : Value} {w w' : World} (ho : ∀ k, k ≠ gd → w'.heap[k]? = w.heap[k]?) : Fz gd ga gh bt w w' := fun k o h a _ _ _ => (ho k a).trans h
theorem Fz.a {gd ga gh : Nat} {bt : Value} {w w' : World} (ho : ∀ k, k ≠ ga → w'.heap[k]? = w.heap[k]?) : Fz gd ga gh bt w w' := fun k o h _ b _ _ => (ho k b).trans h
theorem Fz.h {gd ga gh : Nat} {bt : Value} {w w' : World} (ho : ∀ k, k ≠ gh → w'.heap[k]? = w.heap[k]?) : Fz gd ga gh bt w w' := fun k o h _ _ c _ => (ho k c).trans h
/-- the disk's own row is another one, all else stays -/
theorem Rep.row {B : Nat} {w w' : World} {gd ga gh n ca ch : Nat} {bt : Value} {s : DS} (r : Rep B w gd ga gh n ca ch bt s) (al st : Int) (ni : Bool) (h0 : 0 ≤ al) (h1 : al < 9223372036854775808) (h2 : 0 ≤ st) (hd : w'.heap[gd]? = some (.cells (drow (.slice (some ⟨ga, 0, none⟩) n ca) (some ⟨gh, 0, none⟩) n ch bt al st ni) 60 (0, 0))) (ho : ∀ k, k ≠ gd → w'.heap[k]? = w.heap[k]?) : Rep B w' gd ga gh n ca ch bt { s with al := al, st := st, ni := ni } where
  d := hd
  a := (ho ga r.dne.1).trans r.a
  h := (ho gh r.dne.2).trans r.h
  b := r.b.move (fun k hk => ho k (r.b.ne r.d (by decide) hk))
  bd := r.bd
  ba := r.ba
  bh := r.bh
  ne := r.ne
  la := r.la
  lh := r.lh
  n0 := r.n0
  ok := r.ok
  al0 := h0
  al1 := h1
  st0 := h2
theorem Rep.below {B : Nat} {w w' : World} {gd ga gh n ca ch : Nat} {bt : Value} {s : DS} (r : Rep B w gd ga gh n ca ch bt s) (hb : Below w.heap.size w w') : Rep B w' gd ga gh n ca ch bt s where
  d := blk_below r.d hb
  a := blk_below r.a hb
  h := blk_below r.h hb
  b := Kd.R_below r.b hb
  bd := r.bd
  ba := r.ba
  bh := r.bh
  ne := r.ne
  la := r.la
  lh := r.lh
  n0 := r.n0
  ok := r.ok
  al0 := r.al0
  al1 := r.al1
  st0 := r.st0
theorem blkAt_len (F : List Int) (i n : Nat) (hl : n * 64 ≤ F.length) (hi : i < n) : (blkAt F i).length = 64 := by
  unfold blkAt
  rw [List.length_take, List.length_drop]
  omega
theorem range_blk {w : World} {g n : Nat} {t : TypeId} {F : List Int} (hb : w.heap[g]? = some (.cells (bcells F) t (0, 0))) (i : Nat) (hl : n * 64 ≤ F.length) (hi : i < n) : w.rangeAt g (i * 64) (encs (Value.int .u8) (blkAt F i)) := range_bc hb (i * 64) _ fun j hj => by
  rw [blkAt_len F i n hl hi] at hj
  unfold blkAt
  rw [List.getElem?_take_of_lt hj, List.getElem?_drop]
theorem below_size' {B : Nat} {w w4 : World} {gd ga gh n ca ch : Nat} {bt : Value} {s : DS} (r : Rep B w gd ga gh n ca ch bt s) (hb : Below B w w4) : B ≤ w4.drew.heap.size := by
  have h1 : ga < w.heap.size := blk_lt r.a
  have h2 := r.ba
  have h3 : w.heap.size ≤ w4.heap.size := hb.size
  show B ≤ w4.heap.size
  omega

set_option maxHeartbeats 8000000 in
set_option maxRecDepth 100000 in
theorem Write1.calls (B : Nat) (w : World) (gd ga gh n ca ch : Nat) (bt : Value) (s : DS) (r : Rep B w gd ga gh n ca ch bt s) (gb gp gi : Nat) (b : List Int) (hb : b.length = 64) (i : Nat) (hi : i < n)
    (hkb : w.heap[gb]? = some (.cells (bcells b) 29 (0, 0))) (hkp : w.heap[gp]? = some (.cells #[.pointer (some ⟨gd, 0, none⟩)] 23 (0, 0))) (hki : w.heap[gi]? = some (.cells #[.int .i64 (i : Int)] 3 (0, 0))) (hab : ga ≠ gb) (hl : (s.btw.length + 1) * 72 ≤ 140737488355328) :
    Calls Try.prog 29 #[.pointer (some ⟨gb, 0, none⟩), .pointer (some ⟨gp, 0, none⟩), .pointer (some ⟨gi, 0, none⟩)] w fun e' w' => e' = .returned (.tuple #[]) ∧ ∃ bt', Rep B w' gd ga gh n ca ch bt' { s with asked := splice s.asked (i * 64) b, btw := s.btw ++ [((i : Int), b)] } ∧ Below B w w' ∧ Fz gd ga gh bt w w' := by
  have RR := Aside0.mk r
  have LB := Aside0.mk hb
  have HI := Aside0.mk hi
  have HL := Aside0.mk hl
  have AB := Aside0.mk hab
  have kb := Aside0.mk hkb
  have kp := Aside0.mk hkp
  have ki := Aside0.mk hki
  have p0 : w.cell? ⟨gp, 0, none⟩ = some (.pointer (some ⟨gd, 0, none⟩)) := (blk_cell hkp 0).trans rfl
  have d0 : w.cell? ⟨gd, 0, none⟩ = some (.slice (some ⟨ga, 0, none⟩) n ca) := (blk_cell r.d 0).trans rfl
  have i0c : w.cell? ⟨gi, 0, none⟩ = some (.int .i64 (i : Int)) := (blk_cell hki 0).trans rfl
  have i0 : (0 : Int) ≤ (i : Int) := Int.natCast_nonneg i
  have i1 : (i : Int) < (n : Int) := by omega
  clear hb hi hl hab hkb hkp hki r
  go_enter Try.func29, Try.ntmps29
  go_wp2
  refine start_ (n := 8) (S := fun w' => w'.cell? ⟨gp, 0, none⟩ = some (.pointer (some ⟨gd, 0, none⟩)) ∧ w'.cell? ⟨gd, 0, none⟩ = some (.slice (some ⟨ga, 0, none⟩) n ca) ∧ w'.cell? ⟨gi, 0, none⟩ = some (.int .i64 (i : Int)) ∧ w'.heap[gb]? = some (.cells (bcells b) 29 (0, 0))) (ds := [7]) #[false, false, false, false, false, false, false, false] (by kernel_rfl) rfl rfl ⟨p0, d0, i0c, kb.out⟩ (fun hHeld => ?_)
  refine take_ (i := 0) (N := some 3) (v := ?_) (a' := ?_) #[true, false, false, false, false, false, false, false] rfl rfl (by kernel_rfl) (fun _ _ _ h => h) (Or.inl ⟨by rfl, ?_⟩) hHeld ?_ ?_
  rotate_left
  · rintro w' ⟨s0, s1, s2, s3⟩
    go_simp
    with_reducible rfl
  rotate_left
  · simp only [Act.put, List.setIfInBounds_toArray, List.set_cons_zero, List.set_cons_succ, i64_w, i32_w]
    rfl
  refine pure_ (i := 1) (N := some 4) (v := ?_) (a' := ?_) #[true, true, false, false, false, false, false, false] rfl rfl (by kernel_rfl) (fun _ _ _ h => h) (Or.inl ⟨by rfl, ?_⟩) ?_ ?_
  rotate_left
  · intro w'
    go_simp
    with_reducible rfl
  rotate_left
  · simp only [Act.put, List.setIfInBounds_toArray, List.set_cons_zero, List.set_cons_succ, i64_w, i32_w]
    rfl
  refine pure_ (i := 2) (N := some 5) (v := ?_) (a' := ?_) #[true, true, true, false, false, false, false, false] rfl rfl (by kernel_rfl) (fun _ _ _ h => h) (Or.inl ⟨by rfl, ?_⟩) ?_ ?_
  rotate_left
  · intro w'
    go_simp
    with_reducible rfl
  rotate_left
  · simp only [Act.put, List.setIfInBounds_toArray, List.set_cons_zero, List.set_cons_succ, i64_w, i32_w]
    rfl
  refine take_ (i := 3) (N := some 6) (v := ?_) (a' := ?_) #[true, true, true, true, false, false, false, false] rfl rfl (by kernel_rfl) (fun _ _ _ h => h) (Or.inl ⟨by rfl, ?_⟩) hHeld ?_ ?_
  rotate_left
  · rintro w' ⟨s0, s1, s2, s3⟩
    go_simp
    with_reducible rfl
  rotate_left
  · simp only [Act.put, List.setIfInBounds_toArray, List.set_cons_zero, List.set_cons_succ, i64_w, i32_w]
    rfl
  refine take_ (i := 4) (N := some 7) (v := ?_) (a' := ?_) #[true, true, true, true, true, false, false, false] rfl rfl (by kernel_rfl) (fun _ _ _ h => h) (Or.inl ⟨by rfl, ?_⟩) hHeld ?_ ?_
  rotate_left
  · rintro w' ⟨s0, s1, s2, s3⟩
    go_simp
    with_reducible rfl
  rotate_left
  · simp only [Act.put, List.setIfInBounds_toArray, List.set_cons_zero, List.set_cons_succ, i64_w, i32_w]
    rfl
  refine take_ (i := 5) (N := some 8) (v := ?_) (a' := ?_) #[true, true, true, true, true, true, false, false] rfl rfl (by kernel_rfl) (fun _ _ _ h => h) (Or.inl ⟨by rfl, ?_⟩) hHeld ?_ ?_
  rotate_left
  · rintro w' ⟨s0, s1, s2, s3⟩
    refine bl.load_run 0 gb (bcells b) ?_ ?_ w' s3 (seal_size b LB.out)
    · rfl
    · rfl
  rotate_left
  · simp only [Act.put, List.setIfInBounds_toArray, List.set_cons_zero, List.set_cons_succ, i64_w, i32_w]
    rfl
  refine pure_ (i := 6) (N := some 9) (v := ?_) (a' := ?_) #[true, true, true, true, true, true, true, false] rfl rfl (by kernel_rfl) (fun _ _ _ h => h) (Or.inl ⟨by rfl, ?_⟩) ?_ ?_
  rotate_left
  · intro w'
    go_simp
    with_reducible rfl
  rotate_left
  · simp only [Act.put, List.setIfInBounds_toArray, List.set_cons_zero, List.set_cons_succ, i64_w, i32_w]
    rfl
  refine last_ (i := 7) (N := none) #[true, true, true, true, true, true, true, true] rfl rfl (by kernel_rfl) (by decide) (fun K hK => ?_)
  refine store_blk_ev (by rfl) rfl 9 8 rfl ga (i * 64) rfl b LB.out rfl s.asked 29 RR.out.a (by have h := RR.out.la; have := HI.out; omega) B (show Below B w w.drew from below_drew1 (Below.refl B w)) RR.out.ba ?_
  intro w4 h1 h2 h3; have BKa := Aside0.mk h1; have OA := Aside0.mk (show ∀ k, k ≠ ga → w4.heap[k]? = w.heap[k]? from h2.out); have HB := Aside0.mk h3; clear h1 h2 h3
  refine hK.out _ _ ?_
  clear hK K
  refine done_ (by kernel_rfl) ?_

  clear p0 d0 i0c
  have npa : gp ≠ ga := fun e => by have h1 := kp.out; rw [e, RR.out.a] at h1; injection h1 with h1; injection h1 with _ h2 _; exact absurd h2 (by decide)
  have nia : gi ≠ ga := fun e => by have h1 := ki.out; rw [e, RR.out.a] at h1; injection h1 with h1; injection h1 with _ h2 _; exact absurd h2 (by decide)
  have Bp := Aside0.mk ((OA.out gp npa).trans kp.out)
  have Bi := Aside0.mk ((OA.out gi nia).trans ki.out)
  have Bb := Aside0.mk ((OA.out gb (fun e => AB.out e.symm)).trans kb.out)
  have Bd := Aside0.mk ((OA.out gd (fun e => RR.out.dne.1 e.symm)).trans RR.out.d)
  have Bh := Aside0.mk ((OA.out gh (fun e => RR.out.ne e.symm)).trans RR.out.h)
  have HO := Aside0.mk (show AskOwn B w4.drew bt s.btw from RR.out.b.move (fun k hk => OA.out k (RR.out.b.ne RR.out.a (by decide) hk)))
  go_wp2
  refine start_ (n := 13) (S := fun w' => w'.cell? ⟨gp, 0, none⟩ = some (.pointer (some ⟨gd, 0, none⟩)) ∧ w'.cell? ⟨gd, 2, none⟩ = some (bt) ∧ w'.cell? ⟨gi, 0, none⟩ = some (.int .i64 (i : Int)) ∧ w'.heap[gb]? = some (.cells (bcells b) 29 (0, 0))) (ds := [12]) #[false, false, false, false, false, false, false, false, false, false, false, false, false] (by kernel_rfl) rfl rfl ⟨(blk_cell Bp.out 0).trans rfl, (blk_cell Bd.out 2).trans rfl, (blk_cell Bi.out 0).trans rfl, Bb.out⟩ (fun hHeld => ?_)
  refine take_ (i := 0) (N := some 10) (v := ?_) (a' := ?_) #[true, false, false, false, false, false, false, false, false, false, false, false, false] rfl rfl (by kernel_rfl) (fun _ _ _ h => h) (Or.inl ⟨by rfl, ?_⟩) hHeld ?_ ?_
  rotate_left
  · rintro w' ⟨s0, s1, s2, s3⟩
    go_simp
    with_reducible rfl
  rotate_left
  · simp only [Act.put, List.setIfInBounds_toArray, List.set_cons_zero, List.set_cons_succ, i64_w, i32_w]
    rfl
  refine take_ (i := 1) (N := some 11) (v := ?_) (a' := ?_) #[true, true, false, false, false, false, false, false, false, false, false, false, false] rfl rfl (by kernel_rfl) (fun _ _ _ h => h) (Or.inl ⟨by rfl, ?_⟩) hHeld ?_ ?_
  rotate_left
  · rintro w' ⟨s0, s1, s2, s3⟩
    go_simp
    with_reducible rfl
  rotate_left
  · simp only [Act.put, List.setIfInBounds_toArray, List.set_cons_zero, List.set_cons_succ, i64_w, i32_w]
    rfl
  refine pure_ (i := 2) (N := some 12) (v := ?_) (a' := ?_) #[true, true, true, false, false, false, false, false, false, false, false, false, false] rfl rfl (by kernel_rfl) (fun _ _ _ h => h) (Or.inl ⟨by rfl, ?_⟩) ?_ ?_
  rotate_left
  · intro w'
    go_simp
    with_reducible rfl
  rotate_left
  · simp only [Act.put, List.setIfInBounds_toArray, List.set_cons_zero, List.set_cons_succ, i64_w, i32_w]
    rfl
  refine pure_ (i := 3) (N := some 13) (v := ?_) (a' := ?_) #[true, true, true, true, false, false, false, false, false, false, false, false, false] rfl rfl (by kernel_rfl) (fun _ _ _ h => h) (Or.inl ⟨by rfl, ?_⟩) ?_ ?_
  rotate_left
  · intro w'
    go_simp
    with_reducible rfl
  rotate_left
  · simp only [Act.put, List.setIfInBounds_toArray, List.set_cons_zero, List.set_cons_succ, i64_w, i32_w]
    rfl
  refine take_ (i := 4) (N := some 14) (v := ?_) (a' := ?_) #[true, true, true, true, true, false, false, false, false, false, false, false, false] rfl rfl (by kernel_rfl) (fun _ _ _ h => h) (Or.inl ⟨by rfl, ?_⟩) hHeld ?_ ?_
  rotate_left
  · rintro w' ⟨s0, s1, s2, s3⟩
    go_simp
    with_reducible rfl
  rotate_left
  · simp only [Act.put, List.setIfInBounds_toArray, List.set_cons_zero, List.set_cons_succ, i64_w, i32_w]
    rfl
  refine take_ (i := 5) (N := some 15) (v := ?_) (a' := ?_) #[true, true, true, true, true, true, false, false, false, false, false, false, false] rfl rfl (by kernel_rfl) (fun _ _ _ h => h) (Or.inl ⟨by rfl, ?_⟩) hHeld ?_ ?_
  rotate_left
  · rintro w' ⟨s0, s1, s2, s3⟩
    go_simp
    with_reducible rfl
  rotate_left
  · simp only [Act.put, List.setIfInBounds_toArray, List.set_cons_zero, List.set_cons_succ, i64_w, i32_w]
    rfl
  refine take_ (i := 6) (N := some 16) (v := ?_) (a' := ?_) #[true, true, true, true, true, true, true, false, false, false, false, false, false] rfl rfl (by kernel_rfl) (fun _ _ _ h => h) (Or.inl ⟨by rfl, ?_⟩) hHeld ?_ ?_
  rotate_left
  · rintro w' ⟨s0, s1, s2, s3⟩
    refine bl.load_run 0 gb (bcells b) ?_ ?_ w' s3 (seal_size b LB.out)
    · rfl
    · rfl
  rotate_left
  · simp only [Act.put, List.setIfInBounds_toArray, List.set_cons_zero, List.set_cons_succ, i64_w, i32_w]
    rfl
  refine pure_ (i := 7) (N := some 17) (v := ?_) (a' := ?_) #[true, true, true, true, true, true, true, true, false, false, false, false, false] rfl rfl (by kernel_rfl) (fun _ _ _ h => h) (Or.inl ⟨by rfl, ?_⟩) ?_ ?_
  rotate_left
  · intro w'
    refine ask_run 15 16 (i : Int) b LB.out ?_ ?_ ?_ w'
    · rfl
    · rfl
    · rfl
  rotate_left
  · simp only [Act.put, List.setIfInBounds_toArray, List.set_cons_zero, List.set_cons_succ, i64_w, i32_w]
    rfl
  refine one_ (i := 8) (N := some 18) #[true, true, true, true, true, true, true, true, true, false, false, false, false] rfl rfl (by kernel_rfl) (by decide) (fun K hK => ?_)
  refine askSlice_ev (by rfl) rfl rfl rfl LB.out ?_
  refine hK.out _ _ ⟨(blk_cell (blk_alloc (show w4.drew.heap[_]? = _ from Bp.out) _) 0).trans rfl, (blk_cell (blk_alloc (show w4.drew.heap[_]? = _ from Bd.out) _) 2).trans rfl, (blk_cell (blk_alloc (show w4.drew.heap[_]? = _ from Bi.out) _) 0).trans rfl, (blk_alloc (show w4.drew.heap[_]? = _ from Bb.out) _)⟩ (fun hHeld => ?_)
  clear hK K
  refine norm_ (a' := ?_) ?_ ?_
  rotate_left
  · show Act.put _ (some 18) _ = _
    simp only [Act.put, List.setIfInBounds_toArray, List.set_cons_zero, List.set_cons_succ, i64_w, i32_w]
    rfl
  refine one_ (i := 9) (N := some 19) #[true, true, true, true, true, true, true, true, true, true, false, false, false] rfl rfl (by kernel_rfl) (by decide) (fun K hK => ?_)
  refine Kd.R_append_step kAsk (w0 := w) B (by rfl) (.tmp 14) (.tmp 18) 58 65 (.agg (askC 0 zero64)) 72 rfl Try.underlying58 infoAsk rfl (by decide) (by decide) bt s.btw ((i : Int), b) (.int .i64 (i : Int) :: encs (Value.int .u8) b) (fun _ => True) (fun _ => False) rfl rfl ⟨rfl, LB.out⟩ (fun _ hk => hk.elim) (fun _ _ => trivial) HO.out (below_drew1 HB.out) (below_size' RR.out HB.out) HL.out ?_
  intro v1 w5 ho hb hg hat; obtain ⟨Aq, cq, eq⟩ := Kd.R_slice ho; subst eq
  have Cp := Aside0.mk (blk_grown (g := gp) (show w4.drew.heap[gp]? = _ from Bp.out) hg (Kd.R_ne HO.out (show w4.drew.heap[gp]? = _ from Bp.out) (by decide)))
  have Ci := Aside0.mk (blk_grown (g := gi) (show w4.drew.heap[gi]? = _ from Bi.out) hg (Kd.R_ne HO.out (show w4.drew.heap[gi]? = _ from Bi.out) (by decide)))
  have Cd := Aside0.mk (blk_grown (g := gd) (show w4.drew.heap[gd]? = _ from Bd.out) hg (Kd.R_ne HO.out (show w4.drew.heap[gd]? = _ from Bd.out) (by decide)))
  have Cb := Aside0.mk (blk_grown (g := gb) (show w4.drew.heap[gb]? = _ from Bb.out) hg (Kd.R_ne HO.out (show w4.drew.heap[gb]? = _ from Bb.out) (by decide)))
  have HO5 := Aside0.mk ho; have HB5 := Aside0.mk hb; have HG5 := Aside0.mk hg; clear ho hb hg hat
  have x2 : w5.cell? ⟨gd, 2, none⟩ = some (bt) := (blk_cell Cd.out 2).trans rfl; have z2 := blk_frozen Cd.out 2
  refine hK.out _ _ ⟨(blk_cell Cp.out 0).trans rfl, x2, (blk_cell Ci.out 0).trans rfl, Cb.out⟩ (fun hHeld => ?_)
  clear hK K
  refine norm_ (a' := ?_) ?_ ?_
  rotate_left
  · show Act.put _ (some 19) _ = _
    simp only [Act.put, List.setIfInBounds_toArray, List.set_cons_zero, List.set_cons_succ, i64_w, i32_w]
    rfl
  refine pure_ (i := 10) (N := some 20) (v := ?_) (a' := ?_) #[true, true, true, true, true, true, true, true, true, true, true, false, false] rfl rfl (by kernel_rfl) (fun _ _ _ h => h) (Or.inl ⟨by rfl, ?_⟩) ?_ ?_
  rotate_left
  · intro w'
    go_simp
    with_reducible rfl
  rotate_left
  · simp only [Act.put, List.setIfInBounds_toArray, List.set_cons_zero, List.set_cons_succ, i64_w, i32_w]
    rfl
  refine pure_ (i := 11) (N := some 21) (v := ?_) (a' := ?_) #[true, true, true, true, true, true, true, true, true, true, true, true, false] rfl rfl (by kernel_rfl) (fun _ _ _ h => h) (Or.inl ⟨by rfl, ?_⟩) ?_ ?_
  rotate_left
  · intro w'
    go_simp
    with_reducible rfl
  rotate_left
  · simp only [Act.put, List.setIfInBounds_toArray, List.set_cons_zero, List.set_cons_succ, i64_w, i32_w]
    rfl
  refine last_ (i := 12) (N := none) #[true, true, true, true, true, true, true, true, true, true, true, true, true] rfl rfl (by kernel_rfl) (by decide) (fun K hK => ?_)
  refine skip_ (w1 := ?_) (by rfl) rfl ?_ ?_
  rotate_left
  · go_simp
    rfl
  refine hK.out _ _ ?_
  clear hK K
  refine done_ (by kernel_rfl) ?_

  go_wp2
  have hgo := HG5.out
  have HO6 := Aside0.mk (show AskOwn B w5 (.slice Aq (s.btw.length + 1) cq) (s.btw ++ [((i : Int), b)]) from by have h := HO5.out; rw [List.length_append] at h; exact h)
  have Bda := Aside0.mk (show w4.drew.heap[ga]? = _ from BKa.out)
  have Bdh := Aside0.mk (show w4.drew.heap[gh]? = _ from Bh.out)
  have Ca := Aside0.mk (blk_grown (g := ga) Bda.out hgo (Kd.R_ne HO.out Bda.out (by decide)))
  have Ch := Aside0.mk (blk_grown (g := gh) Bdh.out hgo (Kd.R_ne HO.out Bdh.out (by decide)))
  refine Great.bodyPost_end0 rfl rfl ⟨rfl, _, ⟨blk_put Cd.out 2 _ (drow_bt _ _ _ _ _ _ _ _ _), (heap_setCell_other _ _ ga _ (show ga ≠ gd from RR.out.dne.1)).trans Ca.out, (heap_setCell_other _ _ gh _ (show gh ≠ gd from RR.out.dne.2)).trans Ch.out, ?_, RR.out.bd, RR.out.ba, RR.out.bh, RR.out.ne, ?_, RR.out.lh, RR.out.n0, ?_, RR.out.al0, RR.out.al1, RR.out.st0⟩, HB5.out.setCell (show B ≤ gd from RR.out.bd) _, ?_⟩
  · exact AskOwn.move HO6.out (fun k hk => heap_setCell_other _ _ k _ (show k ≠ gd from AskOwn.ne HO6.out Cd.out (by decide) hk))
  · show n * 64 ≤ (splice s.asked (i * 64) b).length
    rw [length_splice _ _ _ (by rw [LB.out]; have h := RR.out.la; have := HI.out; omega)]
    exact RR.out.la
  · intro x hx
    rcases List.mem_append.1 hx with h | h
    · exact RR.out.ok x h
    · rw [List.mem_singleton.1 h]
      exact ⟨i0, i1, LB.out⟩
  · refine (Fz.a OA.out).trans (Fz.trans (w1 := w5) ?_ (Fz.d (fun k hk => heap_setCell_other _ _ k _ (show k ≠ gd from hk))))
    intro k ob hk h1 h2 h3 h4
    exact blk_grown (g := k) (show w4.drew.heap[k]? = _ from hk) hgo (fun e => h4 e.symm)
end Go.Proofs.Ytlnfdhcpnbhkdaa.GA.E
