/- Blocks in memory: loads, stores and copies of 64 bytes. No condition. -/
import Derived.Test.YtlnfdhcpnbhkdaaE6
import Derived.Laws.CopyOwn
import Derived.ChangeKeysEq
import Derived.Deep.RegionHeld3
import Derived.Deep.MidRow
import Derived.Great.Walk
namespace Go.Proofs.Ytlnfdhcpnbhkdaa.GA.E
open Go.RowKit Go.Proofs.YtlnfdhcpnbhkdaaW.PrintWords Go.Proofs.YtlnfdhcpnbhkdaaW.PrintLast Go.Proofs.YtlnfdhcpnbhkdaaW.PrintMore
set_option linter.unusedVariables false
set_option linter.unusedSimpArgs false

theorem Rep.heldTo {B : Nat} {w w' : World} {gd ga gh n ca ch : Nat} {bt : Value} {s : DS} (r : Rep B w gd ga gh n ca ch bt s) (H : List Int) (hl : n * 64 ≤ H.length) (hh : w'.heap[gh]? = some (.cells (bcells H) 29 (0, 0))) (ho : ∀ k, k ≠ gh → w'.heap[k]? = w.heap[k]?) : Rep B w' gd ga gh n ca ch bt { s with held := H } where
  d := (ho gd (fun e => r.dne.2 e.symm)).trans r.d
  a := (ho ga r.ne).trans r.a
  h := hh
  b := r.b.move (fun k hk => ho k (r.b.ne r.h (by decide) hk))
  bd := r.bd
  ba := r.ba
  bh := r.bh
  ne := r.ne
  la := r.la
  lh := hl
  n0 := r.n0
  ok := r.ok
  al0 := r.al0
  al1 := r.al1
  st0 := r.st0
theorem Rep.askedTo {B : Nat} {w w' : World} {gd ga gh n ca ch : Nat} {bt : Value} {s : DS} (r : Rep B w gd ga gh n ca ch bt s) (A : List Int) (hl : n * 64 ≤ A.length) (hh : w'.heap[ga]? = some (.cells (bcells A) 29 (0, 0))) (ho : ∀ k, k ≠ ga → w'.heap[k]? = w.heap[k]?) : Rep B w' gd ga gh n ca ch bt { s with asked := A } where
  d := (ho gd (fun e => r.dne.1 e.symm)).trans r.d
  a := hh
  h := (ho gh (fun e => r.ne e.symm)).trans r.h
  b := r.b.move (fun k hk => ho k (r.b.ne r.a (by decide) hk))
  bd := r.bd
  ba := r.ba
  bh := r.bh
  ne := r.ne
  la := hl
  lh := r.lh
  n0 := r.n0
  ok := r.ok
  al0 := r.al0
  al1 := r.al1
  st0 := r.st0
theorem Rep.none {B : Nat} {w w' : World} {gd ga gh n ca ch : Nat} {bt : Value} {s : DS} (r : Rep B w gd ga gh n ca ch bt s) (al : Int) (ni : Bool) (h0 : 0 ≤ al) (h1 : al < 9223372036854775808) (hd : w'.heap[gd]? = some (.cells (drow (.slice (some ⟨ga, 0, none⟩) n ca) (some ⟨gh, 0, none⟩) n ch (.slice none 0 0) al s.st ni) 60 (0, 0))) (ho : ∀ k, k ≠ gd → w'.heap[k]? = w.heap[k]?) : Rep B w' gd ga gh n ca ch (.slice none 0 0) { s with btw := [], al := al, ni := ni } where
  d := hd
  a := (ho ga r.dne.1).trans r.a
  h := (ho gh r.dne.2).trans r.h
  b := Kd.R_nil _ _ _ _ _
  bd := r.bd
  ba := r.ba
  bh := r.bh
  ne := r.ne
  la := r.la
  lh := r.lh
  n0 := r.n0
  ok := fun x hx => absurd hx (by simp)
  al0 := h0
  al1 := h1
  st0 := r.st0


set_option maxHeartbeats 16000000 in
set_option maxRecDepth 100000 in
theorem Flush1.calls (w : World) (B gd ga gh n ca ch : Nat) (bt : Value) (s : DS) (r : Rep B w gd ga gh n ca ch bt s) (gp : Nat) (hkp : w.heap[gp]? = some (.cells #[.pointer (some ⟨gd, 0, none⟩)] 23 (0, 0))) (hlb : s.btw.length ≤ 4611686018427387904) :
    Calls Try.prog 30 #[.pointer (some ⟨gp, 0, none⟩)] w fun e' w' => e' = .returned (.tuple #[]) ∧ Rep B w' gd ga gh n ca ch (.slice none 0 0) { s with held := flushTo s.asked s.held s.btw s.btw.length, btw := [] } ∧ Below B w w' ∧ Fz gd ga gh bt w w' := by
  have HLB := Aside0.mk hlb
  have RLA := Aside0.mk r.la
  obtain ⟨Aq, cq, eq⟩ := Kd.R_slice r.b
  subst eq
  have hg := r.d
  have x2 : w.cell? ⟨gd, 2, none⟩ = some (.slice Aq s.btw.length cq) := (blk_cell hg 2).trans rfl
  have xp : w.cell? ⟨gp, 0, none⟩ = some (.pointer (some ⟨gd, 0, none⟩)) := (blk_cell hkp 0).trans rfl
  have RR := Aside0.mk r
  have BKp := Aside0.mk hkp
  have NGp : Aside0 (gp ≠ gd ∧ gp ≠ ga ∧ gp ≠ gh ∧ (Value.slice Aq s.btw.length cq).ownBlock ≠ some gp) := ⟨blk_ne BKp.out RR.out.d (by decide), blk_ne BKp.out RR.out.a (by decide), blk_ne BKp.out RR.out.h (by decide), fun e => RR.out.b.ne BKp.out (by decide) e rfl⟩
  have HX := Aside0.mk (Below.refl B w)
  have FR := Aside0.mk (Fz.refl gd ga gh (.slice Aq s.btw.length cq) w)
  clear r hkp hlb
  go_enter Try.func30, Try.ntmps30
  go_wp2
  clear x2 xp hg
  go_loopw [8] (fun v8 w' => ∃ k : Nat, k ≤ s.btw.length ∧ v8 = .int .i64 k ∧ Aside0 (Rep B w' gd ga gh n ca ch (.slice Aq s.btw.length cq) { s with held := flushTo s.asked s.held s.btw k }) ∧ Aside0 (Below B w w') ∧ Aside0 (Fz gd ga gh (.slice Aq s.btw.length cq) w w')) (fun v8 _ => s.btw.length - (intOf v8).toNat)
  case atStart => exact ⟨0, Nat.zero_le _, rfl, RR, HX, FR⟩
  case round =>
    clear RR HX FR
    obtain ⟨k, hk, rfl, RR, HX, FR⟩ := hrel
    have Bp := Aside0.mk (FR.out gp _ BKp.out NGp.out.1 NGp.out.2.1 NGp.out.2.2.1 NGp.out.2.2.2)
    by_cases hlt : k < s.btw.length
    · have k1 : (0 : Int) ≤ (k : Int) := Int.natCast_nonneg k
      have k2 : (k : Int) < (s.btw.length : Int) := by omega
      have k3 : wrap64 ((k : Int) + 1) = (k : Int) + 1 := by
        have h1 : s.btw.length ≤ 4611686018427387904 := HLB.out
        unfold wrap64; omega
      obtain ⟨x, hx⟩ : ∃ x, s.btw[k]? = some x := ⟨_, List.getElem?_eq_getElem hlt⟩
      obtain ⟨gq, c', eA, hb64, hrg, cur, hcur⟩ := AskOwn.at RR.out.b k x hx
      have hok := RR.out.ok x (List.mem_of_getElem? hx)
      obtain ⟨xi, xb⟩ := x
      obtain ⟨j, rfl⟩ := Int.eq_ofNat_of_zero_le hok.1
      injection eA with eA _ ec
      subst eA
      subst ec
      have LB := Aside0.mk (show xb.length = 64 from hb64)
      have RG := Aside0.mk (show wr.rangeAt gq (k * 65) (.int .i64 (j : Int) :: encs (Value.int .u8) xb) from hrg)
      have HJ := Aside0.mk (show j < n from by have := hok.2.1; simp only at this; omega)
      have HG := Aside0.mk (show s.btw.getD k (0, []) = ((j : Int), xb) from by rw [List.getD_eq_getElem?_getD, hx]; rfl)
      have LK := Aside0.mk (blkAt_len s.asked j n RLA.out HJ.out)
      have EC := Aside0.mk (show flushTo s.asked s.held s.btw (k + 1) = splice (flushTo s.asked s.held s.btw k) (j * 64) (blkAt s.asked j) from by rw [flushTo, HG.out]; rfl)
      have j0 : (0 : Int) ≤ (j : Int) := Int.natCast_nonneg j
      have j1 : (j : Int) < (n : Int) := by have := HJ.out; omega
      have HB := Aside0.mk (Below.refl wr.heap.size wr)
      clear hx hb64 hrg hcur hok cur
      go_wp2_with (first
        | ((with_reducible refine gate_dst (N := 11) rfl ?_); refine wpList_load_ask rfl (.tmp 10) rfl gq (k * 65) rfl (j : Int) xb LB.out RG.out ?_)
        | ((with_reducible refine gate_dst (N := 2) rfl ?_); refine box_event ?hg (N := 2) ?hd (cs := askC 0 zero64) (t := 65) ?hr ?_; (case hd => rfl); (case hg => rfl); (case hr => exact alloc65_run rfl _); intro gz hg w1z hbox hb; have Gz := Aside0.mk (show wr.heap.size ≤ gz from by rw [hg]; exact below_size (by repeat (first | (with_reducible first | exact HB.out | apply below_alloc | apply pw_below_drewN | apply below_drew1) | exact HB.out))); have BKz := Aside0.mk hbox; clear hbox hg; have n0_ := Aside0.mk (below_step (by repeat (first | (with_reducible first | exact HB.out | apply below_alloc | apply pw_below_drewN | apply below_drew1) | exact HB.out)) hb); clear HB; have HB := n0_; clear n0_ hb)
        | (refine wpList_store_row rfl 65 (.tmp 2) (.tmp 11) rfl gz (askC (j : Int) xb) rfl (by rfl) 65 (askC 0 zero64) (by (with_reducible repeat (first | refine blk_drewN ?_ _ | refine blk_drew ?_ | refine blk_alloc ?_ _)); exact BKz.out) (ask_size' (j : Int) xb LB.out) (by rw [askC_size _ _ LB.out]; rfl) (askC_all _ _) ?_; have n0 := Aside0.mk (below_setRow (show Below wr.heap.size wr _ from by repeat (first | (with_reducible first | exact HB.out | apply below_alloc | apply pw_below_drewN | apply below_drew1) | exact HB.out)) (show wr.heap.size ≤ gz from Gz.out) (askC (j : Int) xb)); have n1 := Aside0.mk (setRow_heap _ _ _ (askC (j : Int) xb) _ _ (by (with_reducible repeat (first | refine blk_drewN ?_ _ | refine blk_drew ?_ | refine blk_alloc ?_ _)); exact BKz.out)); generalize World.setRow _ _ _ = w3 at n0 n1; clear HB BKz; have HB := n0; have BKz := n1; clear n0 n1))
      have HX3 := Aside0.mk (HX.out.trans (below_of_le RR.out.size HB.out))
      have FR3 := Aside0.mk (FR.out.trans (Fz.below HB.out))
      have R3 := Aside0.mk (RR.out.below HB.out)
      have B3 := Aside0.mk (blk_below Bp.out HB.out)
      have p0 : w3.cell? ⟨gp, 0, none⟩ = some (.pointer (some ⟨gd, 0, none⟩)) := (blk_cell B3.out 0).trans rfl
      have d0 : w3.cell? ⟨gd, 0, none⟩ = some (.slice (some ⟨ga, 0, none⟩) n ca) := (blk_cell R3.out.d 0).trans rfl
      have d1 : w3.cell? ⟨gd, 1, none⟩ = some (.slice (some ⟨gh, 0, none⟩) n ch) := (blk_cell R3.out.d 1).trans rfl
      have z0 : w3.cell? ⟨gz, 0, none⟩ = some (.int .i64 (j : Int)) := (blk_cell BKz.out 0).trans rfl
      clear RR HX FR HB Bp
      refine start_ (n := 16) (S := fun w' => w'.cell? ⟨gp, 0, none⟩ = some (.pointer (some ⟨gd, 0, none⟩)) ∧ w'.cell? ⟨gd, 1, none⟩ = some (.slice (some ⟨gh, 0, none⟩) n ch) ∧ w'.cell? ⟨gz, 0, none⟩ = some (.int .i64 (j : Int)) ∧ w'.cell? ⟨gd, 0, none⟩ = some (.slice (some ⟨ga, 0, none⟩) n ca) ∧ w'.heap[ga]? = some (.cells (bcells s.asked) 29 (0, 0))) (ds := [15]) #[false, false, false, false, false, false, false, false, false, false, false, false, false, false, false, false] (by kernel_rfl) rfl rfl ⟨p0, d1, z0, d0, R3.out.a⟩ (fun hHeld => ?_)
      refine pure_ (i := 4) (N := some 16) (v := ?_) (a' := ?_) #[false, false, false, false, true, false, false, false, false, false, false, false, false, false, false, false] rfl rfl (by kernel_rfl) (fun _ _ _ h => h) (Or.inl ⟨by rfl, ?_⟩) ?_ ?_
      rotate_left
      · intro w'
        go_simp
        with_reducible rfl
      rotate_left
      · simp only [Act.put, List.setIfInBounds_toArray, List.set_cons_zero, List.set_cons_succ, i64_w, i32_w]
        rfl
      refine pure_ (i := 10) (N := some 22) (v := ?_) (a' := ?_) #[false, false, false, false, true, false, false, false, false, false, true, false, false, false, false, false] rfl rfl (by kernel_rfl) (fun _ _ _ h => h) (Or.inl ⟨by rfl, ?_⟩) ?_ ?_
      rotate_left
      · intro w'
        go_simp
        with_reducible rfl
      rotate_left
      · simp only [Act.put, List.setIfInBounds_toArray, List.set_cons_zero, List.set_cons_succ, i64_w, i32_w]
        rfl
      refine take_ (i := 0) (N := some 12) (v := ?_) (a' := ?_) #[true, false, false, false, true, false, false, false, false, false, true, false, false, false, false, false] rfl rfl (by kernel_rfl) (fun _ _ _ h => h) (Or.inl ⟨by rfl, ?_⟩) hHeld ?_ ?_
      rotate_left
      · rintro w' ⟨s0, s1, s2, s3, s4⟩
        go_simp
        with_reducible rfl
      rotate_left
      · simp only [Act.put, List.setIfInBounds_toArray, List.set_cons_zero, List.set_cons_succ, i64_w, i32_w]
        rfl
      refine pure_ (i := 1) (N := some 13) (v := ?_) (a' := ?_) #[true, true, false, false, true, false, false, false, false, false, true, false, false, false, false, false] rfl rfl (by kernel_rfl) (fun _ _ _ h => h) (Or.inl ⟨by rfl, ?_⟩) ?_ ?_
      rotate_left
      · intro w'
        go_simp
        with_reducible rfl
      rotate_left
      · simp only [Act.put, List.setIfInBounds_toArray, List.set_cons_zero, List.set_cons_succ, i64_w, i32_w]
        rfl
      refine pure_ (i := 2) (N := some 14) (v := ?_) (a' := ?_) #[true, true, true, false, true, false, false, false, false, false, true, false, false, false, false, false] rfl rfl (by kernel_rfl) (fun _ _ _ h => h) (Or.inl ⟨by rfl, ?_⟩) ?_ ?_
      rotate_left
      · intro w'
        go_simp
        with_reducible rfl
      rotate_left
      · simp only [Act.put, List.setIfInBounds_toArray, List.set_cons_zero, List.set_cons_succ, i64_w, i32_w]
        rfl
      refine take_ (i := 3) (N := some 15) (v := ?_) (a' := ?_) #[true, true, true, true, true, false, false, false, false, false, true, false, false, false, false, false] rfl rfl (by kernel_rfl) (fun _ _ _ h => h) (Or.inl ⟨by rfl, ?_⟩) hHeld ?_ ?_
      rotate_left
      · rintro w' ⟨s0, s1, s2, s3, s4⟩
        go_simp
        with_reducible rfl
      rotate_left
      · simp only [Act.put, List.setIfInBounds_toArray, List.set_cons_zero, List.set_cons_succ, i64_w, i32_w]
        rfl
      refine take_ (i := 5) (N := some 17) (v := ?_) (a' := ?_) #[true, true, true, true, true, true, false, false, false, false, true, false, false, false, false, false] rfl rfl (by kernel_rfl) (fun _ _ _ h => h) (Or.inl ⟨by rfl, ?_⟩) hHeld ?_ ?_
      rotate_left
      · rintro w' ⟨s0, s1, s2, s3, s4⟩
        go_simp
        with_reducible rfl
      rotate_left
      · simp only [Act.put, List.setIfInBounds_toArray, List.set_cons_zero, List.set_cons_succ, i64_w, i32_w]
        rfl
      refine take_ (i := 6) (N := some 18) (v := ?_) (a' := ?_) #[true, true, true, true, true, true, true, false, false, false, true, false, false, false, false, false] rfl rfl (by kernel_rfl) (fun _ _ _ h => h) (Or.inl ⟨by rfl, ?_⟩) hHeld ?_ ?_
      rotate_left
      · rintro w' ⟨s0, s1, s2, s3, s4⟩
        go_simp
        with_reducible rfl
      rotate_left
      · simp only [Act.put, List.setIfInBounds_toArray, List.set_cons_zero, List.set_cons_succ, i64_w, i32_w]
        rfl
      refine pure_ (i := 7) (N := some 19) (v := ?_) (a' := ?_) #[true, true, true, true, true, true, true, true, false, false, true, false, false, false, false, false] rfl rfl (by kernel_rfl) (fun _ _ _ h => h) (Or.inl ⟨by rfl, ?_⟩) ?_ ?_
      rotate_left
      · intro w'
        go_simp
        with_reducible rfl
      rotate_left
      · simp only [Act.put, List.setIfInBounds_toArray, List.set_cons_zero, List.set_cons_succ, i64_w, i32_w]
        rfl
      refine pure_ (i := 8) (N := some 20) (v := ?_) (a' := ?_) #[true, true, true, true, true, true, true, true, true, false, true, false, false, false, false, false] rfl rfl (by kernel_rfl) (fun _ _ _ h => h) (Or.inl ⟨by rfl, ?_⟩) ?_ ?_
      rotate_left
      · intro w'
        go_simp
        with_reducible rfl
      rotate_left
      · simp only [Act.put, List.setIfInBounds_toArray, List.set_cons_zero, List.set_cons_succ, i64_w, i32_w]
        rfl
      refine take_ (i := 9) (N := some 21) (v := ?_) (a' := ?_) #[true, true, true, true, true, true, true, true, true, true, true, false, false, false, false, false] rfl rfl (by kernel_rfl) (fun _ _ _ h => h) (Or.inl ⟨by rfl, ?_⟩) hHeld ?_ ?_
      rotate_left
      · rintro w' ⟨s0, s1, s2, s3, s4⟩
        go_simp
        with_reducible rfl
      rotate_left
      · simp only [Act.put, List.setIfInBounds_toArray, List.set_cons_zero, List.set_cons_succ, i64_w, i32_w]
        rfl
      refine take_ (i := 11) (N := some 23) (v := ?_) (a' := ?_) #[true, true, true, true, true, true, true, true, true, true, true, true, false, false, false, false] rfl rfl (by kernel_rfl) (fun _ _ _ h => h) (Or.inl ⟨by rfl, ?_⟩) hHeld ?_ ?_
      rotate_left
      · rintro w' ⟨s0, s1, s2, s3, s4⟩
        go_simp
        with_reducible rfl
      rotate_left
      · simp only [Act.put, List.setIfInBounds_toArray, List.set_cons_zero, List.set_cons_succ, i64_w, i32_w]
        rfl
      refine pure_ (i := 12) (N := some 24) (v := ?_) (a' := ?_) #[true, true, true, true, true, true, true, true, true, true, true, true, true, false, false, false] rfl rfl (by kernel_rfl) (fun _ _ _ h => h) (Or.inl ⟨by rfl, ?_⟩) ?_ ?_
      rotate_left
      · intro w'
        go_simp
        with_reducible rfl
      rotate_left
      · simp only [Act.put, List.setIfInBounds_toArray, List.set_cons_zero, List.set_cons_succ, i64_w, i32_w]
        rfl
      refine take_ (i := 13) (N := some 25) (v := ?_) (a' := ?_) #[true, true, true, true, true, true, true, true, true, true, true, true, true, true, false, false] rfl rfl (by kernel_rfl) (fun _ _ _ h => h) (Or.inl ⟨by rfl, ?_⟩) hHeld ?_ ?_
      rotate_left
      · rintro w' ⟨s0, s1, s2, s3, s4⟩
        refine mid.load_run 24 ga (j * 64) (blkAt s.asked j) LK.out ?_ ?_ w' (range_blk (n := n) s4 j RLA.out HJ.out)
        · rfl
        · rfl
      rotate_left
      · simp only [Act.put, List.setIfInBounds_toArray, List.set_cons_zero, List.set_cons_succ, i64_w, i32_w]
        rfl
      refine pure_ (i := 14) (N := some 26) (v := ?_) (a' := ?_) #[true, true, true, true, true, true, true, true, true, true, true, true, true, true, true, false] rfl rfl (by kernel_rfl) (fun _ _ _ h => h) (Or.inl ⟨by rfl, ?_⟩) ?_ ?_
      rotate_left
      · intro w'
        go_simp
        with_reducible rfl
      rotate_left
      · simp only [Act.put, List.setIfInBounds_toArray, List.set_cons_zero, List.set_cons_succ, i64_w, i32_w]
        rfl
      refine last_ (i := 15) (N := none) #[true, true, true, true, true, true, true, true, true, true, true, true, true, true, true, true] rfl rfl (by kernel_rfl) (by decide) (fun K hK => ?_)
      refine store_blk_ev (by rfl) rfl 26 25 rfl gh (j * 64) rfl (blkAt s.asked j) LK.out rfl (flushTo s.asked s.held s.btw k) 29 R3.out.h (by have h := R3.out.lh; have := HJ.out; show j * 64 + 64 ≤ (flushTo s.asked s.held s.btw k).length; have h2 : n * 64 ≤ (flushTo s.asked s.held s.btw k).length := h; omega) B (below_drew1 HX3.out) R3.out.bh ?_
      intro w4 h1 h2 h3; have BH := Aside0.mk h1; have OH := Aside0.mk (show ∀ k, k ≠ gh → w4.heap[k]? = w3.heap[k]? from h2.out); have HX4 := Aside0.mk h3; clear h1 h2 h3
      refine hK.out _ _ ?_
      clear hK K
      refine done_ (by kernel_rfl) ?_

      clear p0 d0 d1 z0
      go_wp2
      have r4 := R3.out.heldTo (splice (flushTo s.asked s.held s.btw k) (j * 64) (blkAt s.asked j)) (by rw [length_splice _ _ _ (by rw [LK.out]; have h : n * 64 ≤ (flushTo s.asked s.held s.btw k).length := R3.out.lh; have := HJ.out; omega)]; exact R3.out.lh) BH.out OH.out
      rw [← EC.out] at r4
      exact ⟨⟨k + 1, hlt, by first | rfl | (rw [Int.natCast_add]; rfl) | (rw [k3, Int.natCast_add]; rfl), Aside0.mk r4, Aside0.mk HX4.out, Aside0.mk (FR3.out.trans (Fz.h OH.out))⟩, by (try rw [k3]); show s.btw.length - ((k : Int) + 1).toNat < s.btw.length - ((k : Int)).toNat; omega⟩
    · have hin : k = s.btw.length := by omega
      subst hin
      have dl : decide ((s.btw.length : Int) < (s.btw.length : Int)) = false := decide_eq_false (by omega)
      have p0 : wr.cell? ⟨gp, 0, none⟩ = some (.pointer (some ⟨gd, 0, none⟩)) := (blk_cell Bp.out 0).trans rfl
      have x2 : wr.cell? ⟨gd, 2, none⟩ = some (.slice Aq s.btw.length cq) := (blk_cell RR.out.d 2).trans rfl
      have z2 := blk_frozen RR.out.d 2
      go_wp2
      have hd := blk_put RR.out.d 2 (.slice none 0 0) (drow_bt _ _ _ _ _ _ _ _ _)
      have ho : ∀ k, k ≠ gd → (wr.setCell ⟨gd, 2, none⟩ (.slice none 0 0)).heap[k]? = wr.heap[k]? := fun k hk => heap_setCell_other _ _ k _ hk
      exact Great.bodyPost_end0 rfl rfl ⟨rfl, RR.out.none s.al s.ni RR.out.al0 RR.out.al1 hd ho, HX.out.setCell (show B ≤ gd from RR.out.bd) _, FR.out.trans (Fz.d ho)⟩


theorem Flush.step (w : World) (B gd ga gh n ca ch : Nat) (bt : Value) (s : DS) (r : Rep B w gd ga gh n ca ch bt s) (hni : s.ni = false) (hal : s.al ≠ 1) (hst : s.st < 4611686018427387904) (gp : Nat) (kp : w.heap[gp]? = some (.cells #[.pointer (some ⟨gd, 0, none⟩)] 23 (0, 0))) (hlb : s.btw.length ≤ 4611686018427387904) :
    Calls Try.prog 28 #[.pointer (some ⟨gd, 0, none⟩), .int .i64 0, .func (.func 30) #[] #[.pointer (some ⟨gp, 0, none⟩)]] w fun e' w' => e' = .returned (.int .i64 0) ∧ Rep B w' gd ga gh n ca ch (.slice none 0 0) (s.flush (nextAl s.al)) ∧ Below B w w' ∧ Fz gd ga gh bt w w' := by
  have key : ∀ al' : Int, 0 ≤ al' → al' < 9223372036854775808 → ∀ w1 : World, w1.heap[gd]? = some (.cells (drow (.slice (some ⟨ga, 0, none⟩) n ca) (some ⟨gh, 0, none⟩) n ch bt al' (s.st + 1) false) 60 (0, 0)) → (∀ k, k ≠ gd → w1.heap[k]? = w.heap[k]?) → Below B w w1 →
      Calls Try.prog 30 #[.pointer (some ⟨gp, 0, none⟩)] w1 fun e' w' => e' = .returned (.tuple #[]) ∧ Rep B w' gd ga gh n ca ch (.slice none 0 0) (s.flush al') ∧ Below B w w' ∧ Fz gd ga gh bt w w' := by
    intro al' h0 h1 w1 hd ho hB
    have hs0 := r.st0
    have r1 := r.row al' (s.st + 1) false h0 h1 (by omega) hd ho
    refine (Flush1.calls w1 B gd ga gh n ca ch bt _ r1 gp ((ho gp (ne_ty kp r.d (by decide))).trans kp) hlb).mono ?_
    rintro e' w' ⟨rfl, r2, b2, f2⟩
    exact ⟨rfl, r2, hB.trans b2, (Fz.d ho).trans f2⟩
  have hd := r.d
  rw [hni] at hd
  have hi1 : (0 : Int) < (n : Int) := by have := r.n0; omega
  by_cases c : s.al ≤ 0
  · have e : nextAl s.al = 0 := by unfold nextAl; rw [if_pos (by omega)]
    rw [e]
    exact step.low B w gd _ _ n ch bt s.al s.st hd r.n0 0 (Int.le_refl 0) hi1 c r.al0 r.al1 r.st0 hst 30 _ Try.func30 (by kernel_rfl) (by kernel_rfl) _ r.bd _ (key 0 (by decide) (by decide))
  · have e : nextAl s.al = s.al - 1 := by unfold nextAl; rw [if_neg (by omega)]
    rw [e]
    have := r.al1
    exact step.high B w gd _ _ n ch bt s.al s.st hd r.n0 0 (Int.le_refl 0) hi1 (by omega) r.al0 r.al1 r.st0 hst 30 _ Try.func30 (by kernel_rfl) (by kernel_rfl) _ r.bd _ (key (s.al - 1) (by omega) (by omega))

set_option maxHeartbeats 8000000 in
set_option maxRecDepth 100000 in
theorem Flush.ok (w : World) (B gd ga gh n ca ch : Nat) (bt : Value) (s : DS) (r : Rep B w gd ga gh n ca ch bt s) (hni : s.ni = false) (hal : s.al ≠ 1) (hst : s.st < 4611686018427387904) (hl : s.btw.length ≤ 4611686018427387904) :
    Calls Try.prog 11 #[.pointer (some ⟨gd, 0, none⟩)] w fun e' w' => e' = .returned (.int .i64 0) ∧ Rep B w' gd ga gh n ca ch (.slice none 0 0) (s.flush (nextAl s.al)) ∧ Below B w w' ∧ Fz gd ga gh bt w w' := by
  have HB := Aside0.mk (Below.refl w.heap.size w)
  have RR := Aside0.mk r
  have NI := Aside0.mk hni
  have AL := Aside0.mk hal
  have ST := Aside0.mk hst
  have HL := Aside0.mk hl
  go_enter Try.func11, Try.ntmps11
  go_wp2_with (first
    | ((with_reducible refine gate_dst (N := 1) rfl ?_); refine box_event ?hg (N := 1) ?hd (cs := #[.pointer (some ⟨gd, 0, none⟩)]) (t := 23) ?hr ?_; (case hd => rfl); (case hg => rfl); (case hr => first | (go_simp; done) | (go_simp; rfl)); intro gp hg w1p hbox hb; have Gp := Aside0.mk (show w.heap.size ≤ gp from by rw [hg]; exact below_size (by repeat (first | (with_reducible first | exact HB.out | apply below_alloc | apply pw_below_drewN | apply below_drew1) | exact HB.out))); have BKp := Aside0.mk hbox; clear hbox hg; have n0_ := Aside0.mk (below_step (by repeat (first | (with_reducible first | exact HB.out | apply below_alloc | apply pw_below_drewN | apply below_drew1) | exact HB.out)) hb); clear HB; have HB := n0_; clear n0_ hb; have xp : w1p.cell? ⟨gp, 0, none⟩ = some (.pointer (some ⟨gd, 0, none⟩)) := (blk_cell BKp.out 0).trans rfl)
    | (go_at_call 28; with_reducible refine (Flush.step w1p B gd ga gh n ca ch bt s (RR.out.below (by repeat (first | (with_reducible first | exact HB.out | apply below_alloc | apply pw_below_drewN | apply below_drew1) | exact HB.out))) NI.out AL.out ST.out gp BKp.out HL.out).mono ?_; rintro e' w' ⟨rfl, hq⟩))
  go_ret
  obtain ⟨r2, b2, f2⟩ := hq
  exact ⟨rfl, r2, Below.trans (below_of_le RR.out.size HB.out) b2, (Fz.below HB.out).trans f2⟩
end Go.Proofs.Ytlnfdhcpnbhkdaa.GA.E
