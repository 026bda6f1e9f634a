/- A thing let go. No condition. -/
import Derived.Test.YtgfekeicgcnjfaaA8
import Derived.Laws.CopyOwn
import Derived.Laws.CopyRow
import Derived.ChangeKeysEq
import Derived.Deep.RegionHeld3
import Derived.Deep.MidRow
import Derived.Shelf.Abstract
import Derived.Lib.Overlaps
import Derived.Lib.AppendZerosOnto
import Derived.Shelf.Spec.SlicesInsertGrow
import Derived.Maps.OwnSet
import Derived.WalkSpells
namespace Go.Proofs.Ytgfekeicgcnjfaa.GA
open Go.RowKit Go.Shelf Go.Proofs.YtgfekeicgcnjfaaW.PrintWords Go.Proofs.YtgfekeicgcnjfaaW.PrintLast Go.Proofs.YtgfekeicgcnjfaaW.PrintMore
set_option linter.unusedVariables false
set_option linter.unusedSimpArgs false

theorem exec_delete {P : Program} {o : Oper} {a : Act} {w w1 : World} (d x : Operand) (ts : Array TypeId) (hop : o.op = .call { callee := .builtin .delete, args := #[d, x], argTypes := ts }) {m k : Value} (hd : a.eval d = m) (hx : a.eval x = k) (hr : (Builtin.delete_ ts o.type #[m, k]).run P w = .ok (.tuple #[]) w1) : (execOp a.eval o).run P w = .ok (.value (.tuple #[])) w1 := by
  unfold execOp
  simp [hop, resolve, invoke, builtin, hd, hx, hr, Result.andThen]

theorem Whl.put1 {w : World} {gt B : Nat} {a v v' m q : Value} {ys : List S71} (hh : w.heap[gt]? = some (.cells #[a, v, m, q] 56 (0, 0))) (hR : TRow w B v' ys) (hB : B ≤ gt) :
    (w.setCell ⟨gt, 1, none⟩ v').heap[gt]? = some (.cells #[a, v', m, q] 56 (0, 0)) ∧ TRow (w.setCell ⟨gt, 1, none⟩ v') B v' ys ∧ (∀ k, k ≠ gt → (w.setCell ⟨gt, 1, none⟩ v').heap[k]? = w.heap[k]?) ∧ (∀ w0, Below B w0 w → Below B w0 (w.setCell ⟨gt, 1, none⟩ v')) ∧ (w.setCell ⟨gt, 1, none⟩ v').heap.size = w.heap.size := by
  rw [setCell_eq_setRow w gt 1 _ 56 (0, 0) v' hh]
  refine ⟨setRow_heap w gt _ _ 56 (0, 0) hh, hR.moved (fun k hk => setRow_other w gt k _ (fun e => ?_)), fun k hk => setRow_other w gt k _ hk, fun w0 hb => below_setRow hb hB _, size_setRow _ _ _⟩
  subst e
  obtain ⟨c2, h2⟩ := own_typed hR k hk
  rw [hh] at h2
  injection h2 with h2
  injection h2 with _ h2
  cases h2
theorem Whl.gm {w : World} {gt mb B : Nat} {most : Int} {v : Value} {xs : List S71} {ord : Int} (h : Whl w gt mb B most v xs ord) : mb ≠ gt := by
  intro e
  subst e
  obtain ⟨es, c, hb, _⟩ := h.mapIs
  rw [h.1] at hb
  cases hb
theorem TRow.not_map {w : World} {B mb : Nat} {v : Value} {xs zs : List S71} (h : TRow w B v xs) (hm : MapIs w mb zs) : some mb ≠ v.ownBlock := by
  intro e
  obtain ⟨es, c, hb, _⟩ := hm
  obtain ⟨c2, h2⟩ := own_typed h mb e.symm
  rw [hb] at h2
  cases h2
theorem TRow.not_gt {w : World} {B gt : Nat} {v : Value} {xs : List S71} {cs : Array Value} (h : TRow w B v xs) (hh : w.heap[gt]? = some (.cells cs 56 (0, 0))) : some gt ≠ v.ownBlock := by
  intro e
  obtain ⟨c2, h2⟩ := own_typed h gt e.symm
  rw [hh] at h2
  injection h2 with h2
  injection h2 with _ h2
  cases h2
/-- where a row lies behind a turn -/
def At (w : World) (v v' : Value) : Prop := v'.ownBlock = v.ownBlock ∨ ∃ k, v'.ownBlock = some k ∧ w.heap.size ≤ k

theorem Fw.trans_of {w w1 w' : World} {gt mb : Nat} {v : Value} (h : Below w.heap.size w w1) (k : Fw w1 w' gt mb v) : Fw w w' gt mb v := fun j hj h1 h2 h3 => (k j (Nat.lt_of_lt_of_le hj h.size) h1 h2 h3).trans (h.block j hj)
theorem At.of {w w1 : World} {v v' : Value} (h : Below w.heap.size w w1) (k : At w1 v v') : At w v v' := by
  rcases k with k | ⟨j, h1, h2⟩
  · exact .inl k
  · exact .inr ⟨j, h1, Nat.le_trans h.size h2⟩

set_option maxHeartbeats 8000000 in
set_option maxRecDepth 100000 in
theorem drop.calls (gt mb B : Nat) (most : Int) (v : Value) (xs : List S71) (ord : Int) (hw : Wp xs ord) (x : S71) (hx : x ∈ xs) (w : World) (hT : Whl w gt mb B most v xs ord) : Calls Try.prog 32 #[.pointer (some ⟨gt, 0, none⟩), .agg #[.string x.f0, .int .u64 x.f1, .int .u64 x.f2]] w fun e w' => ∃ v', e = .returned (.tuple #[]) ∧ Whl w' gt mb B most v' (out xs x) ord ∧ Below B w w' ∧ Fw w w' gt mb v ∧ At w v v' := by
  have HB := Aside0.mk (Below.refl w.heap.size w)
  have HT := Aside0.mk hT
  clear hT
  have HBB := Aside0.mk HT.out.base
  have HX := Aside0.mk hx
  have HW := Aside0.mk hw
  have HK := Aside0.mk (hw.find hx).1
  have hlt := (hw.find hx).2.1
  have hsm : xs.length ≤ 4611686018427387904 := by have := HT.out.small; omega
  have ar5 : wrap64 ((ix xs x : Int) + 1) = (ix xs x : Int) + 1 := by have := HT.out.small; unfold wrap64; omega
  clear hx hw
  go_enter Try.func32, Try.ntmps32
  go_upto_region 1 with (first | ((with_reducible refine gate_dst (N := 3) rfl ?_); refine box_event ?hg (N := 3) ?hd (cs := #[.string x.f0, .int .u64 x.f1, .int .u64 x.f2]) (t := 71) ?hr ?_; (case hd => rfl); (case hg => rfl); (case hr => first | (go_simp; done) | (go_simp; rfl)); intro gb hg w1_b hbox hb; have GGb := Aside0.mk (show w.heap.size ≤ gb from by rw [hg]; exact below_size (by repeat (first | (with_reducible first | exact HB.out | apply below_alloc | apply pw_below_drewN | apply below_drew1) | exact HB.out))); have BKb := Aside0.mk hbox; clear hbox hg; have n0_ := Aside0.mk (below_step (by repeat (first | (with_reducible first | exact HB.out | apply below_alloc | apply pw_below_drewN | apply below_drew1) | exact HB.out)) hb); clear HB; have HB := n0_; clear n0_ hb))
  have HT0 := HT
  have HT1 := Aside0.mk (HT0.out.below HB.out)
  clear HT
  have HT := HT1
  clear HT1
  obtain ⟨g, cap, cur, hv, hBg, hh, hcap, hmx, hcs, htk⟩ := HT.out.row.form (by omega)
  subst hv
  have HCC : Aside0 (∀ W, Below w1_b.heap.size w1_b W → Kd.C k71 W (some ⟨g, 0, none⟩) xs.length xs) := ⟨fun W hW => by
    obtain ⟨A, c, e, _, hC⟩ := (HT.out.below hW).slice
    injection e with e1 _ _
    rw [e1]
    exact hC⟩
  have HALL : Aside0 (∀ W, Below w1_b.heap.size w1_b W → W.cell? ⟨gt, 1, none⟩ = some (.slice (some ⟨g, 0, none⟩) xs.length cap) ∧ W.cell? ⟨gb, 0, none⟩ = some (.string x.f0) ∧ W.cell? ⟨gb, 1, none⟩ = some (.int .u64 x.f1) ∧ W.cell? ⟨gb, 2, none⟩ = some (.int .u64 x.f2)) := ⟨fun w' hW => ⟨(HT.out.below hW).c1, (blk_cell (blk_below BKb.out hW) 0).trans rfl, (blk_cell (blk_below BKb.out hW) 1).trans rfl, (blk_cell (blk_below BKb.out hW) 2).trans rfl⟩⟩
  clear hh hcs htk hmx hBg
  refine start_ (n := 11) (S := fun w' => w'.cell? ⟨gt, 1, none⟩ = some (.slice (some ⟨g, 0, none⟩) xs.length cap) ∧ w'.cell? ⟨gb, 0, none⟩ = some (.string x.f0) ∧ w'.cell? ⟨gb, 1, none⟩ = some (.int .u64 x.f1) ∧ w'.cell? ⟨gb, 2, none⟩ = some (.int .u64 x.f2)) (ds := []) #[false, false, false, false, false, false, false, false, false, false, false] (by kernel_rfl) rfl rfl ⟨(HALL.out _ (below_drew1 (Below.refl w1_b.heap.size w1_b))).1, (HALL.out _ (below_drew1 (Below.refl w1_b.heap.size w1_b))).2.1, (HALL.out _ (below_drew1 (Below.refl w1_b.heap.size w1_b))).2.2.1, (HALL.out _ (below_drew1 (Below.refl w1_b.heap.size w1_b))).2.2.2⟩ (fun hHeld => ?_)
  refine pure_ (i := 0) (N := some 7) (v := ?_) (a' := ?_) #[true, false, false, false, false, false, false, false, false, false, false] rfl rfl (by kernel_rfl) (fun _ _ _ h => h) (Or.inl ⟨by rfl, ?_⟩) ?_ ?_
  rotate_left
  · intro w'
    go_simp
    with_reducible rfl
  rotate_left
  · simp only [Act.put, List.setIfInBounds_toArray, List.set_cons_zero, List.set_cons_succ, i64_w, i32_w]
    rfl
  refine pure_ (i := 1) (N := some 8) (v := ?_) (a' := ?_) #[true, true, false, false, false, false, false, false, false, false, false] rfl rfl (by kernel_rfl) (fun _ _ _ h => h) (Or.inl ⟨by rfl, ?_⟩) ?_ ?_
  rotate_left
  · intro w'
    go_simp
    with_reducible rfl
  rotate_left
  · simp only [Act.put, List.setIfInBounds_toArray, List.set_cons_zero, List.set_cons_succ, i64_w, i32_w]
    rfl
  refine pure_ (i := 2) (N := some 9) (v := ?_) (a' := ?_) #[true, true, true, false, false, false, false, false, false, false, false] rfl rfl (by kernel_rfl) (fun _ _ _ h => h) (Or.inl ⟨by rfl, ?_⟩) ?_ ?_
  rotate_left
  · intro w'
    go_simp
    with_reducible rfl
  rotate_left
  · simp only [Act.put, List.setIfInBounds_toArray, List.set_cons_zero, List.set_cons_succ, i64_w, i32_w]
    rfl
  refine take_ (i := 3) (N := some 10) (v := ?_) (a' := ?_) #[true, true, true, true, false, false, false, false, false, false, false] rfl rfl (by kernel_rfl) (fun _ _ _ h => h) (Or.inl ⟨by rfl, ?_⟩) hHeld ?_ ?_
  rotate_left
  · rintro w' ⟨s0, s1, s2, s3⟩
    go_simp
    with_reducible rfl
  rotate_left
  · simp only [Act.put, List.setIfInBounds_toArray, List.set_cons_zero, List.set_cons_succ, i64_w, i32_w]
    rfl
  refine take_ (i := 4) (N := some 11) (v := ?_) (a' := ?_) #[true, true, true, true, true, false, false, false, false, false, false] rfl rfl (by kernel_rfl) (fun _ _ _ h => h) (Or.inl ⟨by rfl, ?_⟩) hHeld ?_ ?_
  rotate_left
  · rintro w' ⟨s0, s1, s2, s3⟩
    go_simp
    with_reducible rfl
  rotate_left
  · simp only [Act.put, List.setIfInBounds_toArray, List.set_cons_zero, List.set_cons_succ, i64_w, i32_w]
    rfl
  refine one_ (i := 5) (N := some 12) #[true, true, true, true, true, true, false, false, false, false, false] rfl rfl (by kernel_rfl) (by decide) (fun K hK => ?_)
  refine goes_ Try.func33 (by kernel_rfl) rfl #[.slice (some ⟨g, 0, none⟩) xs.length cap, .agg #[.string x.f0, .int .u64 x.f1, .int .u64 x.f2], .func (.func 34) #[] #[]] (by rfl) rfl rfl (by simp only [List.map_toArray, List.map_cons, List.map_nil]; rfl) ?_
  with_reducible refine (search.calls (some ⟨g, 0, none⟩) cap xs x _ (HCC.out _ (below_drew1 (Below.refl _ _))) hcap hsm).mono ?_
  rw [HK.out]
  rintro e W2 ⟨rfl, hb⟩
  refine ⟨_, rfl, ?_⟩
  refine hK.out _ _ ⟨(HALL.out _ (below_step (below_drew1 (Below.refl w1_b.heap.size w1_b)) hb)).1, (HALL.out _ (below_step (below_drew1 (Below.refl w1_b.heap.size w1_b)) hb)).2.1, (HALL.out _ (below_step (below_drew1 (Below.refl w1_b.heap.size w1_b)) hb)).2.2.1, (HALL.out _ (below_step (below_drew1 (Below.refl w1_b.heap.size w1_b)) hb)).2.2.2⟩ (fun hHeld => ?_)
  clear hK K
  refine norm_ (a' := ?_) ?_ ?_
  rotate_left
  · show Act.put _ (some 12) _ = _
    simp only [Act.put, List.setIfInBounds_toArray, List.set_cons_zero, List.set_cons_succ, i64_w, i32_w]
    rfl
  refine pure_ (i := 6) (N := some 6) (v := ?_) (a' := ?_) #[true, true, true, true, true, true, true, false, false, false, false] rfl rfl (by kernel_rfl) (fun _ _ _ h => h) (Or.inl ⟨by rfl, ?_⟩) ?_ ?_
  rotate_left
  · intro w'
    go_simp
    with_reducible rfl
  rotate_left
  · simp only [Act.put, List.setIfInBounds_toArray, List.set_cons_zero, List.set_cons_succ, i64_w, i32_w]
    rfl
  refine pure_ (i := 7) (N := some 13) (v := ?_) (a' := ?_) #[true, true, true, true, true, true, true, true, false, false, false] rfl rfl (by kernel_rfl) (fun _ _ _ h => h) (Or.inl ⟨by rfl, ?_⟩) ?_ ?_
  rotate_left
  · intro w'
    go_simp
    with_reducible rfl
  rotate_left
  · simp only [Act.put, List.setIfInBounds_toArray, List.set_cons_zero, List.set_cons_succ, i64_w, i32_w]
    rfl
  refine pure_ (i := 8) (N := some 14) (v := ?_) (a' := ?_) #[true, true, true, true, true, true, true, true, true, false, false] rfl rfl (by kernel_rfl) (fun _ _ _ h => h) (Or.inl ⟨by rfl, ?_⟩) ?_ ?_
  rotate_left
  · intro w'
    go_simp
    with_reducible rfl
  rotate_left
  · simp only [Act.put, List.setIfInBounds_toArray, List.set_cons_zero, List.set_cons_succ, i64_w, i32_w]
    rfl
  refine pure_ (i := 9) (N := some 4) (v := ?_) (a' := ?_) #[true, true, true, true, true, true, true, true, true, true, false] rfl rfl (by kernel_rfl) (fun _ _ _ h => h) (Or.inl ⟨by rfl, ?_⟩) ?_ ?_
  rotate_left
  · intro w'
    go_simp
    with_reducible rfl
  rotate_left
  · simp only [Act.put, List.setIfInBounds_toArray, List.set_cons_zero, List.set_cons_succ, i64_w, i32_w]
    rfl
  refine pure_ (i := 10) (N := some 5) (v := ?_) (a' := ?_) #[true, true, true, true, true, true, true, true, true, true, true] rfl rfl (by kernel_rfl) (fun _ _ _ h => h) (Or.inl ⟨by rfl, ?_⟩) ?_ ?_
  rotate_left
  · intro w'
    go_simp
    with_reducible rfl
  rotate_left
  · simp only [Act.put, List.setIfInBounds_toArray, List.set_cons_zero, List.set_cons_succ, i64_w, i32_w]
    rfl
  refine done_ (by kernel_rfl) ?_

  have hb1 := below_step (below_drew1 (Below.refl w1_b.heap.size w1_b)) hb
  have HBK2 := Aside0.mk (blk_below BKb.out hb1)
  have HT2 := Aside0.mk (HT.out.below hb1)
  have HB2 := Aside0.mk (below_step HB.out hb1)
  clear HT HB BKb hb hb1 HCC HALL
  have HT := HT2
  have HB := HB2
  clear HT2 HB2
  obtain ⟨g', cap', cur, hv, hBg, hh, hn, hm, hs, ht⟩ := HT.out.row.form (by omega)
  injection hv with hv1 hv2 hv3
  injection hv1 with hv1
  injection hv1 with hv1
  subst hv1
  have c1 := HT.out.c1
  have HNE : Aside0 (gt ≠ g) := ⟨fun e => HT.out.row.not_gt HT.out.1 (by rw [e]; rfl)⟩
  have HNM : Aside0 (mb ≠ g) := ⟨fun e => HT.out.row.not_map HT.out.mapIs (by rw [e]; rfl)⟩
  have HNB : Aside0 (gb ≠ g ∧ gb ≠ gt ∧ gb ≠ mb ∧ gb < W2.heap.size) := ⟨by
    have hb2 := HBK2.out
    have hl0 := HT0.out.lt
    have hm0 := HT0.out.mapIs.lt
    have hG := GGb.out
    refine ⟨fun e => ?_, by omega, by omega, blk_lt hb2⟩
    obtain ⟨c2, h2⟩ := own_typed HT0.out.row g rfl
    have := blk_lt h2
    omega⟩
  have HTR := Aside0.mk HT.out.row
  have HT1 := Aside0.mk HT.out.1
  clear hh hs ht hm hBg hv2 hv3 hn
  go_upto_region 4 with (first | (go_at_call 42; with_reducible refine (Delete.calls B g cap (ix xs x) xs _ HTR.out hlt HT.out.base).mono ?_; rintro e W3 ⟨rfl, hr, hb, ho⟩; have hg := (ho gt HT.out.lt HNE.out).trans HT1.out; have q1 : W3.cell? ⟨gt, 1, none⟩ = some _ := (blk_cell hg 1).trans rfl; have q2 : W3.frozen? ⟨gt, 1, none⟩ = false := blk_frozen hg 1; have h7 := Aside0.mk hr; have h8 := Aside0.mk hb; have h9 := Aside0.mk ho; have h10 := Aside0.mk hg; clear hr hb ho hg))
  obtain ⟨p1, p2, p3, p4, p5⟩ := Whl.put1 h10.out h7.out HT.out.2.2.2.1
  have hbox : W3.heap[gb]? = some (.cells #[.string x.f0, .int .u64 x.f1, .int .u64 x.f2] 71 (0, 0)) := (h9.out gb HNB.out.2.2.2 HNB.out.1).trans HBK2.out
  have hmap : MapIs W3 mb xs := HT.out.mapIs.kept (h9.out mb HT.out.mapIs.lt HNM.out)
  clear q1 q2 c1
  obtain ⟨W4, hW4⟩ : ∃ W, W = W3.setCell ⟨gt, 1, none⟩ (.slice (some ⟨g, 0, none⟩) (xs.length - 1) cap) := ⟨_, rfl⟩
  rw [← hW4] at p1 p2 p3 p4 p5 ⊢
  have hbox4 := (p3 gb HNB.out.2.1).trans hbox
  have hmap4 : MapIs W4 mb xs := hmap.kept (p3 mb HT.out.gm)
  obtain ⟨es', c', hdel, hfin⟩ := (MapIs.kept (w' := W4.drew) hmap4 rfl).del HW.out.1 HX.out (HW.out.out_mem HX.out) 0
  have HDEL : Aside0 (∀ ty, (Builtin.delete_ #[54, 9] ty #[.map (some mb), .string x.f0]).run Try.prog W4.drew = .ok (.tuple #[]) (Go.ChangeMaps.setBlock W4.drew mb (.map es' c'))) := ⟨fun ty => by
    simpa [Builtin.delete_, key] using hdel⟩
  have z0 : W4.cell? ⟨gt, 2, none⟩ = some (.map (some mb)) := (blk_cell p1 2).trans rfl
  have z1 : W4.cell? ⟨gb, 0, none⟩ = some (.string x.f0) := (blk_cell hbox4 0).trans rfl
  have HP1 := Aside0.mk p1
  have HP2 := Aside0.mk p2
  have HP3 := Aside0.mk p3
  have HP4 := Aside0.mk p4
  have HP5 := Aside0.mk p5
  have HFIN := Aside0.mk hfin
  have HM4 := Aside0.mk hmap4
  clear p1 p2 p3 p4 p5 hbox hmap hbox4 hmap4 hdel hfin hW4
  refine start_ (n := 7) (S := fun w' => w'.cell? ⟨gt, 2, none⟩ = some (.map (some mb)) ∧ w'.cell? ⟨gb, 0, none⟩ = some (.string x.f0)) (ds := [6]) #[false, false, false, false, false, false, false] (by kernel_rfl) rfl rfl ⟨z0, z1⟩ (fun hHeld => ?_)
  refine pure_ (i := 0) (N := some 27) (v := ?_) (a' := ?_) #[true, false, false, false, false, false, false] rfl rfl (by kernel_rfl) (fun _ _ _ h => h) (Or.inl ⟨by rfl, ?_⟩) ?_ ?_
  rotate_left
  · intro w'
    go_simp
    with_reducible rfl
  rotate_left
  · simp only [Act.put, List.setIfInBounds_toArray, List.set_cons_zero, List.set_cons_succ, i64_w, i32_w]
    rfl
  refine pure_ (i := 1) (N := some 28) (v := ?_) (a' := ?_) #[true, true, false, false, false, false, false] rfl rfl (by kernel_rfl) (fun _ _ _ h => h) (Or.inl ⟨by rfl, ?_⟩) ?_ ?_
  rotate_left
  · intro w'
    go_simp
    with_reducible rfl
  rotate_left
  · simp only [Act.put, List.setIfInBounds_toArray, List.set_cons_zero, List.set_cons_succ, i64_w, i32_w]
    rfl
  refine pure_ (i := 2) (N := some 29) (v := ?_) (a' := ?_) #[true, true, true, false, false, false, false] rfl rfl (by kernel_rfl) (fun _ _ _ h => h) (Or.inl ⟨by rfl, ?_⟩) ?_ ?_
  rotate_left
  · intro w'
    go_simp
    with_reducible rfl
  rotate_left
  · simp only [Act.put, List.setIfInBounds_toArray, List.set_cons_zero, List.set_cons_succ, i64_w, i32_w]
    rfl
  refine pure_ (i := 4) (N := some 31) (v := ?_) (a' := ?_) #[true, true, true, false, true, false, false] rfl rfl (by kernel_rfl) (fun _ _ _ h => h) (Or.inl ⟨by rfl, ?_⟩) ?_ ?_
  rotate_left
  · intro w'
    go_simp
    with_reducible rfl
  rotate_left
  · simp only [Act.put, List.setIfInBounds_toArray, List.set_cons_zero, List.set_cons_succ, i64_w, i32_w]
    rfl
  refine take_ (i := 3) (N := some 30) (v := ?_) (a' := ?_) #[true, true, true, true, true, false, false] rfl rfl (by kernel_rfl) (fun _ _ _ h => h) (Or.inl ⟨by rfl, ?_⟩) hHeld ?_ ?_
  rotate_left
  · rintro w' ⟨s0, s1⟩
    go_simp
    with_reducible rfl
  rotate_left
  · simp only [Act.put, List.setIfInBounds_toArray, List.set_cons_zero, List.set_cons_succ, i64_w, i32_w]
    rfl
  refine take_ (i := 5) (N := some 32) (v := ?_) (a' := ?_) #[true, true, true, true, true, true, false] rfl rfl (by kernel_rfl) (fun _ _ _ h => h) (Or.inl ⟨by rfl, ?_⟩) hHeld ?_ ?_
  rotate_left
  · rintro w' ⟨s0, s1⟩
    go_simp
    with_reducible rfl
  rotate_left
  · simp only [Act.put, List.setIfInBounds_toArray, List.set_cons_zero, List.set_cons_succ, i64_w, i32_w]
    rfl
  refine last_ (i := 6) (N := none) #[true, true, true, true, true, true, true] rfl rfl (by kernel_rfl) (by decide) (fun K hK => ?_)
  refine value_ (N := none) (w1 := _) (v := .tuple #[]) (by rfl) rfl (exec_delete _ _ _ rfl rfl rfl (HDEL.out _)) ?_
  refine hK.out _ _ ?_
  clear hK K
  refine done_ (by kernel_rfl) ?_

  go_wp2
  refine bodyPost_end (v := .tuple #[]) (by simp [results, Try.f32]) rfl ?_
  have hml : mb < W4.drew.heap.size := HM4.out.lt
  have hbl := HB.out
  refine ⟨.slice (some ⟨g, 0, none⟩) (xs.length - 1) cap, rfl, ⟨(Go.Proofs.Ytgfekeicgcnjfaa.GA.setBlock_other W4.drew _ (Ne.symm HT.out.gm)).trans HP1.out, HP2.out.moved (fun k hk => Go.Proofs.Ytgfekeicgcnjfaa.GA.setBlock_other W4.drew _ (fun e => ?_)), HFIN.out _ (setBlock_same _ hml), HT.out.2.2.2.1, HT.out.2.2.2.2.1, ?_⟩, ?_, ?_, .inl rfl⟩
  · injection hk with hk
    exact HNM.out (e.symm.trans hk.symm)
  · have := HT.out.small
    rw [out_len HW.out HX.out]
    omega
  · exact below_setBlock (below_drew1 (HP4.out w (Below.trans (hbl.mono HBB.out) h8.out))) HT.out.2.2.2.2.1 _
  · intro k hk h1 h2 h3
    have hkg : k ≠ g := fun e => h3 (by rw [e]; rfl)
    have hk2 : k < W2.heap.size := Nat.lt_of_lt_of_le hk hbl.size
    exact (Go.Proofs.Ytgfekeicgcnjfaa.GA.setBlock_other W4.drew _ h2).trans ((HP3.out k h1).trans ((h9.out k hk2 hkg).trans (hbl.block k hk)))

set_option maxHeartbeats 8000000 in
set_option maxRecDepth 100000 in
theorem Stop.hit (gt mb B : Nat) (most : Int) (v : Value) (xs : List S71) (ord : Int) (hk : Wp xs ord) (k : ByteArray) (w : World) (hT : Whl w gt mb B most v xs ord) {x : S71} (hx : x ∈ xs) (hkx : x.f0 = k) : Calls Try.prog 16 #[.pointer (some ⟨gt, 0, none⟩), .string k] w fun e w' => ∃ v', e = .returned (.int .i64 0) ∧ Whl w' gt mb B most v' (out xs x) ord ∧ Below B w w' ∧ Fw w w' gt mb v ∧ At w v v' := by
  have HB := Aside0.mk (Below.refl w.heap.size w)
  have HT := Aside0.mk hT
  clear hT
  have HK := Aside0.mk hk
  have HX := Aside0.mk hx
  have HBB := Aside0.mk HT.out.base
  subst hkx
  clear hk hx
  go_enter Try.func16, Try.ntmps16
  go_upto_region 3 with (first | (go_at_call 31; with_reducible refine (noneW.calls gt mb B most v xs ord _ HT.out).mono ?_; rintro e w' ⟨rfl, hb⟩; have n9_ := Aside0.mk (Whl.below (by with_reducible exact HT.out) hb); have n8_ := Aside0.mk (below_step (by repeat (first | (with_reducible first | exact HB.out | apply below_alloc | apply pw_below_drewN | apply below_drew1) | exact HB.out)) hb); clear HT HB hb; have HT := n9_; have HB := n8_; clear n9_ n8_))
  have c2 := HT.out.c2
  obtain ⟨w0, hw0⟩ : ∃ u, u = w' := ⟨_, rfl⟩
  have hl : (Instr.lookup 54 (.map (some mb)) (.string x.f0) true).run Try.prog w' = .ok (.tuple #[.agg #[.string x.f0, .int .u64 x.f1, .int .u64 x.f2], .bool true]) w' := HT.out.mapIs.hit HK.out.1 HX.out
  clear hw0 w0
  go_wp2_with (first | (go_at_call 32; with_reducible refine (drop.calls gt mb B most v xs ord HK.out x HX.out _ (HT.out.below (below_alloc (Below.refl _ _) _))).mono ?_; rintro e w' ⟨v', rfl, ht, hb, hf, ha⟩; have h7 := Aside0.mk ht; have h8 := Aside0.mk hb; have h9 := Aside0.mk hf; have h10 := Aside0.mk ha; clear ht hb hf ha))
  go_ret
  have hb0 := below_alloc HB.out (.cells #[.string x.f0, .int .u64 x.f1, .int .u64 x.f2] 71)
  exact ⟨v', rfl, h7.out, Below.trans (hb0.mono HBB.out) h8.out, Fw.trans_of hb0 h9.out, At.of hb0 h10.out⟩

set_option maxHeartbeats 8000000 in
set_option maxRecDepth 100000 in
theorem Stop.miss (gt mb B : Nat) (most : Int) (v : Value) (xs : List S71) (ord : Int) (hk : Wp xs ord) (k : ByteArray) (w : World) (hT : Whl w gt mb B most v xs ord) (ho : okK k) (hx : ∀ x ∈ xs, x.f0 ≠ k) : Calls Try.prog 16 #[.pointer (some ⟨gt, 0, none⟩), .string k] w fun e w' => e = .returned (.int .i64 7) ∧ Below w.heap.size w w' := by
  have HB := Aside0.mk (Below.refl w.heap.size w)
  have HT := Aside0.mk hT
  clear hT
  have HK := Aside0.mk hk
  have HX := Aside0.mk hx
  have HBB := Aside0.mk HT.out.base
  have HO := Aside0.mk ho
  clear ho
  clear hk hx
  go_enter Try.func16, Try.ntmps16
  go_upto_region 3 with (first | (go_at_call 31; with_reducible refine (noneW.calls gt mb B most v xs ord _ HT.out).mono ?_; rintro e w' ⟨rfl, hb⟩; have n9_ := Aside0.mk (Whl.below (by with_reducible exact HT.out) hb); have n8_ := Aside0.mk (below_step (by repeat (first | (with_reducible first | exact HB.out | apply below_alloc | apply pw_below_drewN | apply below_drew1) | exact HB.out)) hb); clear HT HB hb; have HT := n9_; have HB := n8_; clear n9_ n8_))
  have c2 := HT.out.c2
  obtain ⟨w0, hw0⟩ : ∃ u, u = w' := ⟨_, rfl⟩
  have hl : (Instr.lookup 54 (.map (some mb)) (.string k) true).run Try.prog w' = .ok (.tuple #[.agg #[.string z71.f0, .int .u64 0, .int .u64 0], .bool false]) w' := HT.out.mapIs.miss HK.out.1 HO.out HX.out
  clear hw0 w0
  go_wp2
  go_ret
  exact ⟨rfl, by repeat (first | (with_reducible first | exact HB.out | apply below_alloc | apply pw_below_drewN | apply below_drew1) | exact HB.out)⟩

end Go.Proofs.Ytgfekeicgcnjfaa.GA
