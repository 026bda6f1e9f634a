/- A thing set. No condition. -/
import Derived.Test.YtgfekeicgcnjfaaB9
import Derived.Test.YtgfekeicgcnjfaaA10
import Derived.Laws.CopyOwn
import Derived.Laws.CopyRow
import Derived.ChangeKeysEq
import Derived.Deep.RegionHeld3
import Derived.Deep.MidRow
import Derived.Shelf.Abstract
import Derived.Lib.Overlaps
import Derived.Lib.AppendZerosOnto
import Derived.Shelf.Spec.SlicesInsertGrow
import Derived.Maps.OwnSet
import Derived.WalkSpells
namespace Go.Proofs.Ytgfekeicgcnjfaa.GA.I
open Go.RowKit Go.Shelf Go.Proofs.YtgfekeicgcnjfaaW.PrintWords Go.Proofs.YtgfekeicgcnjfaaW.PrintLast Go.Proofs.YtgfekeicgcnjfaaW.PrintMore
set_option linter.unusedVariables false
set_option linter.unusedSimpArgs false

def r0 : Array Bool := #[false, false, false, false, false, false, false, false, false, false, false, false, false, false, false]
def r1 : Array Bool := #[true, false, false, false, false, false, false, false, false, false, false, false, false, false, false]
def r2 : Array Bool := #[true, true, false, false, false, false, false, false, false, false, false, false, false, false, false]
def r3 : Array Bool := #[true, true, true, false, false, false, false, false, false, false, false, false, false, false, false]
def r4 : Array Bool := #[true, true, true, true, false, false, false, false, false, false, false, false, false, false, false]
def r5 : Array Bool := #[true, true, true, true, true, false, false, false, false, false, false, false, false, false, false]
def r6 : Array Bool := #[true, true, true, true, true, true, false, false, false, false, false, false, false, false, false]
def r7 : Array Bool := #[true, true, true, true, true, true, false, false, true, false, false, false, false, false, false]
def r8 : Array Bool := #[true, true, true, true, true, true, false, false, true, true, false, false, false, false, false]
def r9 : Array Bool := #[true, true, true, true, true, true, false, false, true, true, true, false, false, false, false]
def r10 : Array Bool := #[true, true, true, true, true, true, true, false, true, true, true, false, false, false, false]
def r11 : Array Bool := #[true, true, true, true, true, true, true, true, true, true, true, false, false, false, false]
def r12 : Array Bool := #[true, true, true, true, true, true, true, true, true, true, true, true, false, false, false]
def r13 : Array Bool := #[true, true, true, true, true, true, true, true, true, true, true, true, true, false, false]
def r14 : Array Bool := #[true, true, true, true, true, true, true, true, true, true, true, true, true, true, false]
def r15 : Array Bool := #[true, true, true, true, true, true, true, true, true, true, true, true, true, true, true]
def r16 : Array Bool := #[false, false, false, false, false, false, false, false, false, false, false]
def r17 : Array Bool := #[true, false, false, false, false, false, false, false, false, false, false]
def r18 : Array Bool := #[true, true, false, false, false, false, false, false, false, false, false]
def r19 : Array Bool := #[true, true, true, false, false, false, false, false, false, false, false]
def r20 : Array Bool := #[true, true, true, true, false, false, false, false, false, false, false]
def r21 : Array Bool := #[true, true, true, true, true, false, false, false, false, false, false]
def r22 : Array Bool := #[true, true, true, true, true, true, false, false, false, false, false]
def r23 : Array Bool := #[true, true, true, true, true, true, true, false, false, false, false]
def r24 : Array Bool := #[true, true, true, true, true, true, true, true, false, false, false]
def r25 : Array Bool := #[true, true, true, true, true, true, true, true, true, false, false]
def r26 : Array Bool := #[true, true, true, true, true, true, true, true, true, true, false]
def r27 : Array Bool := #[true, true, true, true, true, true, true, true, true, true, true]
def r28 : Array Bool := #[false, false, false, false, false, false, false, false, false, false, false, false, false, false, false, false, false, false, false, false, false]
def r29 : Array Bool := #[true, false, false, false, false, false, false, false, false, false, false, false, false, false, false, false, false, false, false, false, false]
def r30 : Array Bool := #[true, true, false, false, false, false, false, false, false, false, false, false, false, false, false, false, false, false, false, false, false]
def r31 : Array Bool := #[true, true, true, false, false, false, false, false, false, false, false, false, false, false, false, false, false, false, false, false, false]
def r32 : Array Bool := #[true, true, true, true, false, false, false, false, false, false, false, false, false, false, false, false, false, false, false, false, false]
def r33 : Array Bool := #[true, true, true, true, false, true, false, false, false, false, false, false, false, false, false, false, false, false, false, false, false]
def r34 : Array Bool := #[true, true, true, true, false, true, true, false, false, false, false, false, false, false, false, false, false, false, false, false, false]
def r35 : Array Bool := #[true, true, true, true, false, true, true, true, false, false, false, false, false, false, false, false, false, false, false, false, false]
def r36 : Array Bool := #[true, true, true, true, false, true, true, true, true, false, false, false, false, false, false, false, false, false, false, false, false]
def r37 : Array Bool := #[true, true, true, true, false, true, true, true, true, false, true, false, false, false, false, false, false, false, false, false, false]
def r38 : Array Bool := #[true, true, true, true, true, true, true, true, true, false, true, false, false, false, false, false, false, false, false, false, false]
def r39 : Array Bool := #[true, true, true, true, true, true, true, true, true, false, true, true, false, false, false, false, false, false, false, false, false]
def r40 : Array Bool := #[true, true, true, true, true, true, true, true, true, false, true, true, false, false, true, false, false, false, false, false, false]
def r41 : Array Bool := #[true, true, true, true, true, true, true, true, true, true, true, true, true, false, true, false, false, false, false, false, false]
def r42 : Array Bool := #[true, true, true, true, true, true, true, true, true, true, true, true, false, false, true, false, false, false, false, false, false]
def r43 : Array Bool := #[true, true, true, true, true, true, true, true, true, false, true, true, true, false, true, false, false, false, false, false, false]
def r44 : Array Bool := #[true, true, true, true, true, true, true, true, true, true, true, true, true, true, true, false, false, false, false, false, false]
def r45 : Array Bool := #[true, true, true, true, true, true, true, true, true, true, true, true, true, true, true, true, false, false, false, false, false]
def r46 : Array Bool := #[true, true, true, true, true, true, true, true, true, true, true, true, true, true, true, true, true, false, false, false, false]
def r47 : Array Bool := #[true, true, true, true, true, true, true, true, true, true, true, true, true, true, true, true, true, true, false, false, false]
def r48 : Array Bool := #[true, true, true, true, true, true, true, true, true, true, true, true, true, true, true, true, true, true, true, false, false]
def r49 : Array Bool := #[true, true, true, true, true, true, true, true, true, true, true, true, true, true, true, true, true, true, true, true, false]
def r50 : Array Bool := #[true, true, true, true, true, true, true, true, true, true, true, true, true, true, true, true, true, true, true, true, true]
def r51 : Array Bool := #[true, true, true, true, true, true, true, false, false, false, false, false, false, false, false]
def r52 : Array Bool := #[true, true, true, true, true, true, true, true, false, false, false, false, false, false, false]
def r53 : Array Bool := #[true, true, true, true, true, true, true, true, true, false, false, false, false, false, false]
def r54 : Array Bool := #[true, true, true, true, true, true, true, true, true, true, false, false, false, false, false]
theorem At.refl (w : World) (v : Value) : At w v v := .inl rfl
theorem Whl.put3 {w : World} {gt mb B : Nat} {most : Int} {v : Value} {xs : List S63} {ord : Int} (h : Whl w gt mb B most v xs ord) (q : Int) :
    Whl (w.setCell ⟨gt, 3, none⟩ (.int .u64 q)) gt mb B most v xs q ∧ (∀ k, k ≠ gt → (w.setCell ⟨gt, 3, none⟩ (.int .u64 q)).heap[k]? = w.heap[k]?) ∧ (∀ w0, Below B w0 w → Below B w0 (w.setCell ⟨gt, 3, none⟩ (.int .u64 q))) ∧ (w.setCell ⟨gt, 3, none⟩ (.int .u64 q)).heap.size = w.heap.size := by
  have hg := h.gm
  obtain ⟨h1, h2, h3, h4, h5⟩ := h
  rw [setCell_eq_setRow w gt 3 _ 61 (0, 0) (.int .u64 q) h1]
  refine ⟨⟨setRow_heap w gt _ _ 61 (0, 0) h1, h2.moved (fun k hk => setRow_other w gt k _ (fun e => ?_)), h3.kept (setRow_other w gt mb _ hg), h4, h5⟩, fun k hk => setRow_other w gt k _ hk, fun w0 hb => below_setRow hb h4 _, size_setRow _ _ _⟩
  subst e
  exact h2.not_gt h1 hk.symm
theorem Whl.drew {w : World} {gt mb B : Nat} {most : Int} {v : Value} {xs : List S63} {ord : Int} (h : Whl w gt mb B most v xs ord) : Whl w.drew gt mb B most v xs ord := h.below (below_drew1 (Below.refl _ _))

set_option maxHeartbeats 8000000 in
set_option maxRecDepth 100000 in
theorem Set.arg_hit (gt mb B : Nat) (most : Int) (v : Value) (xs : List S63) (ord : Int) (hk : Wp xs ord) (k : Int) (at_ : Int) (hat : 1099511627776 < at_) (w : World) (hT : Whl w gt mb B most v xs ord) {x : S63} (hx : x ∈ xs) (hkx : x.f0 = k) : Calls Try.prog 7 #[.pointer (some ⟨gt, 0, none⟩), .int .i64 k, .int .u64 at_] w fun e w' => e = .returned (.int .i64 2) ∧ Below w.heap.size w w' := by
  have hda : decide ((1099511627776 : Int) < at_) = true := decide_eq_true hat
  have HB := Aside0.mk (Below.refl w.heap.size w)
  have HT := Aside0.mk hT
  clear hT
  have HK := Aside0.mk hk
  have HX := Aside0.mk hx
  have HBB := Aside0.mk HT.out.base
  subst hkx
  clear hk hx
  go_enter Try.func7, Try.ntmps7
  go_upto_region 3 with (first | (go_at_call 26; with_reducible refine (noneW.calls gt mb B most v xs ord _ HT.out).mono ?_; rintro e w' ⟨rfl, hb⟩; have n9_ := Aside0.mk (Whl.below (by with_reducible exact HT.out) hb); have n8_ := Aside0.mk (below_step (by repeat (first | (with_reducible first | exact HB.out | apply below_alloc | apply pw_below_drewN | apply below_drew1) | exact HB.out)) hb); clear HT HB hb; have HT := n9_; have HB := n8_; clear n9_ n8_))
  have c2 := HT.out.c2
  obtain ⟨w0, hw0⟩ : ∃ u, u = w' := ⟨_, rfl⟩
  have hl : (Instr.lookup 58 (.map (some mb)) (.int .i64 x.f0) true).run Try.prog w' = .ok (.tuple #[.agg #[.int .i64 x.f0, .int .u64 x.f1, .int .u64 x.f2], .bool true]) w' := HT.out.mapIs.hit HK.out.1 HX.out
  clear hw0 w0
  go_wp2
  go_ret
  exact ⟨rfl, by repeat (first | (with_reducible first | exact HB.out | apply below_alloc | apply pw_below_drewN | apply below_drew1) | exact HB.out)⟩

set_option maxHeartbeats 8000000 in
set_option maxRecDepth 100000 in
theorem Set.arg_miss (gt mb B : Nat) (most : Int) (v : Value) (xs : List S63) (ord : Int) (hk : Wp xs ord) (k : Int) (at_ : Int) (hat : 1099511627776 < at_) (w : World) (hT : Whl w gt mb B most v xs ord) (ho : okK k) (hx : ∀ x ∈ xs, x.f0 ≠ k) : Calls Try.prog 7 #[.pointer (some ⟨gt, 0, none⟩), .int .i64 k, .int .u64 at_] w fun e w' => e = .returned (.int .i64 2) ∧ Below w.heap.size w w' := by
  have hda : decide ((1099511627776 : Int) < at_) = true := decide_eq_true hat
  have HB := Aside0.mk (Below.refl w.heap.size w)
  have HT := Aside0.mk hT
  clear hT
  have HK := Aside0.mk hk
  have HX := Aside0.mk hx
  have HBB := Aside0.mk HT.out.base
  have HO := Aside0.mk ho
  clear ho
  clear hk hx
  go_enter Try.func7, Try.ntmps7
  go_upto_region 3 with (first | (go_at_call 26; with_reducible refine (noneW.calls gt mb B most v xs ord _ HT.out).mono ?_; rintro e w' ⟨rfl, hb⟩; have n9_ := Aside0.mk (Whl.below (by with_reducible exact HT.out) hb); have n8_ := Aside0.mk (below_step (by repeat (first | (with_reducible first | exact HB.out | apply below_alloc | apply pw_below_drewN | apply below_drew1) | exact HB.out)) hb); clear HT HB hb; have HT := n9_; have HB := n8_; clear n9_ n8_))
  have c2 := HT.out.c2
  obtain ⟨w0, hw0⟩ : ∃ u, u = w' := ⟨_, rfl⟩
  have hl : (Instr.lookup 58 (.map (some mb)) (.int .i64 k) true).run Try.prog w' = .ok (.tuple #[.agg #[.int .i64 z63.f0, .int .u64 0, .int .u64 0], .bool false]) w' := HT.out.mapIs.miss HK.out.1 HO.out HX.out
  clear hw0 w0
  go_wp2
  go_ret
  exact ⟨rfl, by repeat (first | (with_reducible first | exact HB.out | apply below_alloc | apply pw_below_drewN | apply below_drew1) | exact HB.out)⟩

set_option maxHeartbeats 8000000 in
set_option maxRecDepth 100000 in
theorem Set.full (gt mb B : Nat) (most : Int) (v : Value) (xs : List S63) (ord : Int) (hk : Wp xs ord) (k : Int) (at_ : Int) (hat : at_ ≤ 1099511627776) (hfull : most ≤ (xs.length : Int)) (w : World) (hT : Whl w gt mb B most v xs ord) (ho : okK k) (hx : ∀ x ∈ xs, x.f0 ≠ k) : Calls Try.prog 7 #[.pointer (some ⟨gt, 0, none⟩), .int .i64 k, .int .u64 at_] w fun e w' => e = .returned (.int .i64 10) ∧ Below w.heap.size w w' := by
  have hda : decide ((1099511627776 : Int) < at_) = false := decide_eq_false (by omega)
  have hdf : decide (most ≤ (xs.length : Int)) = true := decide_eq_true hfull
  have HB := Aside0.mk (Below.refl w.heap.size w)
  have HT := Aside0.mk hT
  clear hT
  have HK := Aside0.mk hk
  have HX := Aside0.mk hx
  have HBB := Aside0.mk HT.out.base
  have HO := Aside0.mk ho
  clear ho
  clear hk hx
  go_enter Try.func7, Try.ntmps7
  go_upto_region 3 with (first | (go_at_call 26; with_reducible refine (noneW.calls gt mb B most v xs ord _ HT.out).mono ?_; rintro e w' ⟨rfl, hb⟩; have n9_ := Aside0.mk (Whl.below (by with_reducible exact HT.out) hb); have n8_ := Aside0.mk (below_step (by repeat (first | (with_reducible first | exact HB.out | apply below_alloc | apply pw_below_drewN | apply below_drew1) | exact HB.out)) hb); clear HT HB hb; have HT := n9_; have HB := n8_; clear n9_ n8_))
  have c2 := HT.out.c2
  obtain ⟨w0, hw0⟩ : ∃ u, u = w' := ⟨_, rfl⟩
  have hl : (Instr.lookup 58 (.map (some mb)) (.int .i64 k) true).run Try.prog w' = .ok (.tuple #[.agg #[.int .i64 z63.f0, .int .u64 0, .int .u64 0], .bool false]) w' := HT.out.mapIs.miss HK.out.1 HO.out HX.out
  clear hw0 w0
  go_upto_region 6 with (fail)
  obtain ⟨W1, hW1⟩ : ∃ W, W = w'.alloc (.cells #[.int .i64 z63.f0, .int .u64 0, .int .u64 0] 63) := ⟨_, rfl⟩
  rw [← hW1]
  have hb1 : Below w'.heap.size w' W1 := by rw [hW1]; exact below_alloc (Below.refl _ _) _
  have HT1 := Aside0.mk (HT.out.below hb1)
  have HB1 := Aside0.mk (below_step HB.out hb1)
  clear HT HB hl c2 hW1 hb1
  have HT := HT1
  have HB := HB1
  clear HT1 HB1
  obtain ⟨A, cc, rfl, hcc, hC⟩ := HT.out.slice
  have c0 := HT.out.c0
  have c1 := HT.out.c1
  clear hC
  refine start_ (n := 15) (S := fun w' => w'.cell? ⟨gt, 0, none⟩ = some (.int .i64 most) ∧ w'.cell? ⟨gt, 1, none⟩ = some (.slice A xs.length cc)) (ds := []) r0 (by kernel_rfl) rfl rfl ⟨c0, c1⟩ (fun hHeld => ?_)
  refine pure_ (i := 0) (N := some 27) (v := ?_) (a' := ?_) r1 rfl rfl (by kernel_rfl) (fun _ _ _ h => h) (Or.inl ⟨by rfl, ?_⟩) ?_ ?_
  rotate_left
  · intro w'
    go_simp
    with_reducible rfl
  rotate_left
  · simp only [Act.put, List.setIfInBounds_toArray, List.set_cons_zero, List.set_cons_succ, i64_w, i32_w]
    rfl
  refine pure_ (i := 1) (N := some 28) (v := ?_) (a' := ?_) r2 rfl rfl (by kernel_rfl) (fun _ _ _ h => h) (Or.inl ⟨by rfl, ?_⟩) ?_ ?_
  rotate_left
  · intro w'
    go_simp
    with_reducible rfl
  rotate_left
  · simp only [Act.put, List.setIfInBounds_toArray, List.set_cons_zero, List.set_cons_succ, i64_w, i32_w]
    rfl
  refine pure_ (i := 2) (N := some 29) (v := ?_) (a' := ?_) r3 rfl rfl (by kernel_rfl) (fun _ _ _ h => h) (Or.inl ⟨by rfl, ?_⟩) ?_ ?_
  rotate_left
  · intro w'
    go_simp
    with_reducible rfl
  rotate_left
  · simp only [Act.put, List.setIfInBounds_toArray, List.set_cons_zero, List.set_cons_succ, i64_w, i32_w]
    rfl
  refine pure_ (i := 3) (N := some 30) (v := ?_) (a' := ?_) r4 rfl rfl (by kernel_rfl) (fun _ _ _ h => h) (Or.inl ⟨by rfl, ?_⟩) ?_ ?_
  rotate_left
  · intro w'
    go_simp
    with_reducible rfl
  rotate_left
  · simp only [Act.put, List.setIfInBounds_toArray, List.set_cons_zero, List.set_cons_succ, i64_w, i32_w]
    rfl
  refine pure_ (i := 4) (N := some 31) (v := ?_) (a' := ?_) r5 rfl rfl (by kernel_rfl) (fun _ _ _ h => h) (Or.inl ⟨by rfl, ?_⟩) ?_ ?_
  rotate_left
  · intro w'
    go_simp
    with_reducible rfl
  rotate_left
  · simp only [Act.put, List.setIfInBounds_toArray, List.set_cons_zero, List.set_cons_succ, i64_w, i32_w]
    rfl
  refine pure_ (i := 5) (N := some 32) (v := ?_) (a' := ?_) r6 rfl rfl (by kernel_rfl) (fun _ _ _ h => h) (Or.inl ⟨by rfl, ?_⟩) ?_ ?_
  rotate_left
  · intro w'
    go_simp
    with_reducible rfl
  rotate_left
  · simp only [Act.put, List.setIfInBounds_toArray, List.set_cons_zero, List.set_cons_succ, i64_w, i32_w]
    rfl
  refine pure_ (i := 8) (N := some 35) (v := ?_) (a' := ?_) r7 rfl rfl (by kernel_rfl) (fun _ _ _ h => h) (Or.inl ⟨by rfl, ?_⟩) ?_ ?_
  rotate_left
  · intro w'
    go_simp
    with_reducible rfl
  rotate_left
  · simp only [Act.put, List.setIfInBounds_toArray, List.set_cons_zero, List.set_cons_succ, i64_w, i32_w]
    rfl
  refine pure_ (i := 9) (N := some 36) (v := ?_) (a' := ?_) r8 rfl rfl (by kernel_rfl) (fun _ _ _ h => h) (Or.inl ⟨by rfl, ?_⟩) ?_ ?_
  rotate_left
  · intro w'
    go_simp
    with_reducible rfl
  rotate_left
  · simp only [Act.put, List.setIfInBounds_toArray, List.set_cons_zero, List.set_cons_succ, i64_w, i32_w]
    rfl
  refine pure_ (i := 10) (N := some 37) (v := ?_) (a' := ?_) r9 rfl rfl (by kernel_rfl) (fun _ _ _ h => h) (Or.inl ⟨by rfl, ?_⟩) ?_ ?_
  rotate_left
  · intro w'
    go_simp
    with_reducible rfl
  rotate_left
  · simp only [Act.put, List.setIfInBounds_toArray, List.set_cons_zero, List.set_cons_succ, i64_w, i32_w]
    rfl
  refine take_ (i := 6) (N := some 33) (v := ?_) (a' := ?_) r10 rfl rfl (by kernel_rfl) (fun _ _ _ h => h) (Or.inl ⟨by rfl, ?_⟩) hHeld ?_ ?_
  rotate_left
  · rintro w' ⟨s0, s1⟩
    go_simp
    with_reducible rfl
  rotate_left
  · simp only [Act.put, List.setIfInBounds_toArray, List.set_cons_zero, List.set_cons_succ, i64_w, i32_w]
    rfl
  refine pure_ (i := 7) (N := some 34) (v := ?_) (a' := ?_) r11 rfl rfl (by kernel_rfl) (fun _ _ _ h => h) (Or.inl ⟨by rfl, ?_⟩) ?_ ?_
  rotate_left
  · intro w'
    go_simp
    with_reducible rfl
  rotate_left
  · simp only [Act.put, List.setIfInBounds_toArray, List.set_cons_zero, List.set_cons_succ, i64_w, i32_w]
    rfl
  refine take_ (i := 11) (N := some 38) (v := ?_) (a' := ?_) r12 rfl rfl (by kernel_rfl) (fun _ _ _ h => h) (Or.inl ⟨by rfl, ?_⟩) hHeld ?_ ?_
  rotate_left
  · rintro w' ⟨s0, s1⟩
    go_simp
    with_reducible rfl
  rotate_left
  · simp only [Act.put, List.setIfInBounds_toArray, List.set_cons_zero, List.set_cons_succ, i64_w, i32_w]
    rfl
  refine pure_ (i := 12) (N := some 39) (v := ?_) (a' := ?_) r13 rfl rfl (by kernel_rfl) (fun _ _ _ h => h) (Or.inl ⟨by rfl, ?_⟩) ?_ ?_
  rotate_left
  · intro w'
    go_simp
    with_reducible rfl
  rotate_left
  · simp only [Act.put, List.setIfInBounds_toArray, List.set_cons_zero, List.set_cons_succ, i64_w, i32_w]
    rfl
  refine pure_ (i := 13) (N := some 40) (v := ?_) (a' := ?_) r14 rfl rfl (by kernel_rfl) (fun _ _ _ h => h) (Or.inl ⟨by rfl, ?_⟩) ?_ ?_
  rotate_left
  · intro w'
    go_simp
    with_reducible rfl
  rotate_left
  · simp only [Act.put, List.setIfInBounds_toArray, List.set_cons_zero, List.set_cons_succ, i64_w, i32_w]
    rfl
  refine pure_ (i := 14) (N := some 26) (v := ?_) (a' := ?_) r15 rfl rfl (by kernel_rfl) (fun _ _ _ h => h) (Or.inl ⟨by rfl, ?_⟩) ?_ ?_
  rotate_left
  · intro w'
    go_simp
    with_reducible rfl
  rotate_left
  · simp only [Act.put, List.setIfInBounds_toArray, List.set_cons_zero, List.set_cons_succ, i64_w, i32_w]
    rfl
  refine done_ (by kernel_rfl) ?_

  go_wp2
  go_ret
  exact ⟨rfl, by repeat (first | (with_reducible first | exact HB.out | apply below_alloc | apply pw_below_drewN | apply below_drew1) | exact HB.out)⟩

set_option maxHeartbeats 8000000 in
set_option maxRecDepth 100000 in
theorem Set.new (gt mb B : Nat) (most : Int) (v : Value) (xs : List S63) (ord : Int) (hk : Wp xs ord) (k : Int) (at_ : Int) (hat : at_ ≤ 1099511627776) (hfull : (xs.length : Int) < most) (hsm : xs.length < 1000000) (ho0 : 0 ≤ ord) (ho1 : ord < 4611686018427387904) (w : World) (hT : Whl w gt mb B most v xs ord) (ho : okK k) (hx : ∀ x ∈ xs, x.f0 ≠ k) : Calls Try.prog 7 #[.pointer (some ⟨gt, 0, none⟩), .int .i64 k, .int .u64 at_] w fun e w' => ∃ v', e = .returned (.int .i64 0) ∧ Whl w' gt mb B most v' (ins xs ⟨k, at_, ord + 1⟩) (ord + 1) ∧ Below B w w' ∧ Fw w w' gt mb v ∧ At w v v' := by
  have hda : decide ((1099511627776 : Int) < at_) = false := decide_eq_false (by omega)
  have hdf : decide (most ≤ (xs.length : Int)) = false := decide_eq_false (by omega)
  have HB := Aside0.mk (Below.refl w.heap.size w)
  have HT := Aside0.mk hT
  clear hT
  have HK := Aside0.mk hk
  have HX := Aside0.mk hx
  have HBB := Aside0.mk HT.out.base
  have HO := Aside0.mk ho
  clear ho
  clear hk hx
  go_enter Try.func7, Try.ntmps7
  go_upto_region 3 with (first | (go_at_call 26; with_reducible refine (noneW.calls gt mb B most v xs ord _ HT.out).mono ?_; rintro e w' ⟨rfl, hb⟩; have n9_ := Aside0.mk (Whl.below (by with_reducible exact HT.out) hb); have n8_ := Aside0.mk (below_step (by repeat (first | (with_reducible first | exact HB.out | apply below_alloc | apply pw_below_drewN | apply below_drew1) | exact HB.out)) hb); clear HT HB hb; have HT := n9_; have HB := n8_; clear n9_ n8_))
  have c2 := HT.out.c2
  obtain ⟨w0, hw0⟩ : ∃ u, u = w' := ⟨_, rfl⟩
  have hl : (Instr.lookup 58 (.map (some mb)) (.int .i64 k) true).run Try.prog w' = .ok (.tuple #[.agg #[.int .i64 z63.f0, .int .u64 0, .int .u64 0], .bool false]) w' := HT.out.mapIs.miss HK.out.1 HO.out HX.out
  clear hw0 w0
  go_upto_region 6 with (fail)
  obtain ⟨W1, hW1⟩ : ∃ W, W = w'.alloc (.cells #[.int .i64 z63.f0, .int .u64 0, .int .u64 0] 63) := ⟨_, rfl⟩
  rw [← hW1]
  have hb1 : Below w'.heap.size w' W1 := by rw [hW1]; exact below_alloc (Below.refl _ _) _
  have HT1 := Aside0.mk (HT.out.below hb1)
  have HB1 := Aside0.mk (below_step HB.out hb1)
  clear HT HB hl c2 hW1 hb1
  have HT := HT1
  have HB := HB1
  clear HT1 HB1
  obtain ⟨A, cc, rfl, hcc, hC⟩ := HT.out.slice
  have c0 := HT.out.c0
  have c1 := HT.out.c1
  clear hC
  refine start_ (n := 15) (S := fun w' => w'.cell? ⟨gt, 0, none⟩ = some (.int .i64 most) ∧ w'.cell? ⟨gt, 1, none⟩ = some (.slice A xs.length cc)) (ds := []) r0 (by kernel_rfl) rfl rfl ⟨c0, c1⟩ (fun hHeld => ?_)
  refine pure_ (i := 0) (N := some 27) (v := ?_) (a' := ?_) r1 rfl rfl (by kernel_rfl) (fun _ _ _ h => h) (Or.inl ⟨by rfl, ?_⟩) ?_ ?_
  rotate_left
  · intro w'
    go_simp
    with_reducible rfl
  rotate_left
  · simp only [Act.put, List.setIfInBounds_toArray, List.set_cons_zero, List.set_cons_succ, i64_w, i32_w]
    rfl
  refine pure_ (i := 1) (N := some 28) (v := ?_) (a' := ?_) r2 rfl rfl (by kernel_rfl) (fun _ _ _ h => h) (Or.inl ⟨by rfl, ?_⟩) ?_ ?_
  rotate_left
  · intro w'
    go_simp
    with_reducible rfl
  rotate_left
  · simp only [Act.put, List.setIfInBounds_toArray, List.set_cons_zero, List.set_cons_succ, i64_w, i32_w]
    rfl
  refine pure_ (i := 2) (N := some 29) (v := ?_) (a' := ?_) r3 rfl rfl (by kernel_rfl) (fun _ _ _ h => h) (Or.inl ⟨by rfl, ?_⟩) ?_ ?_
  rotate_left
  · intro w'
    go_simp
    with_reducible rfl
  rotate_left
  · simp only [Act.put, List.setIfInBounds_toArray, List.set_cons_zero, List.set_cons_succ, i64_w, i32_w]
    rfl
  refine pure_ (i := 3) (N := some 30) (v := ?_) (a' := ?_) r4 rfl rfl (by kernel_rfl) (fun _ _ _ h => h) (Or.inl ⟨by rfl, ?_⟩) ?_ ?_
  rotate_left
  · intro w'
    go_simp
    with_reducible rfl
  rotate_left
  · simp only [Act.put, List.setIfInBounds_toArray, List.set_cons_zero, List.set_cons_succ, i64_w, i32_w]
    rfl
  refine pure_ (i := 4) (N := some 31) (v := ?_) (a' := ?_) r5 rfl rfl (by kernel_rfl) (fun _ _ _ h => h) (Or.inl ⟨by rfl, ?_⟩) ?_ ?_
  rotate_left
  · intro w'
    go_simp
    with_reducible rfl
  rotate_left
  · simp only [Act.put, List.setIfInBounds_toArray, List.set_cons_zero, List.set_cons_succ, i64_w, i32_w]
    rfl
  refine pure_ (i := 5) (N := some 32) (v := ?_) (a' := ?_) r6 rfl rfl (by kernel_rfl) (fun _ _ _ h => h) (Or.inl ⟨by rfl, ?_⟩) ?_ ?_
  rotate_left
  · intro w'
    go_simp
    with_reducible rfl
  rotate_left
  · simp only [Act.put, List.setIfInBounds_toArray, List.set_cons_zero, List.set_cons_succ, i64_w, i32_w]
    rfl
  refine pure_ (i := 8) (N := some 35) (v := ?_) (a' := ?_) r7 rfl rfl (by kernel_rfl) (fun _ _ _ h => h) (Or.inl ⟨by rfl, ?_⟩) ?_ ?_
  rotate_left
  · intro w'
    go_simp
    with_reducible rfl
  rotate_left
  · simp only [Act.put, List.setIfInBounds_toArray, List.set_cons_zero, List.set_cons_succ, i64_w, i32_w]
    rfl
  refine pure_ (i := 9) (N := some 36) (v := ?_) (a' := ?_) r8 rfl rfl (by kernel_rfl) (fun _ _ _ h => h) (Or.inl ⟨by rfl, ?_⟩) ?_ ?_
  rotate_left
  · intro w'
    go_simp
    with_reducible rfl
  rotate_left
  · simp only [Act.put, List.setIfInBounds_toArray, List.set_cons_zero, List.set_cons_succ, i64_w, i32_w]
    rfl
  refine pure_ (i := 10) (N := some 37) (v := ?_) (a' := ?_) r9 rfl rfl (by kernel_rfl) (fun _ _ _ h => h) (Or.inl ⟨by rfl, ?_⟩) ?_ ?_
  rotate_left
  · intro w'
    go_simp
    with_reducible rfl
  rotate_left
  · simp only [Act.put, List.setIfInBounds_toArray, List.set_cons_zero, List.set_cons_succ, i64_w, i32_w]
    rfl
  refine take_ (i := 6) (N := some 33) (v := ?_) (a' := ?_) r10 rfl rfl (by kernel_rfl) (fun _ _ _ h => h) (Or.inl ⟨by rfl, ?_⟩) hHeld ?_ ?_
  rotate_left
  · rintro w' ⟨s0, s1⟩
    go_simp
    with_reducible rfl
  rotate_left
  · simp only [Act.put, List.setIfInBounds_toArray, List.set_cons_zero, List.set_cons_succ, i64_w, i32_w]
    rfl
  refine pure_ (i := 7) (N := some 34) (v := ?_) (a' := ?_) r11 rfl rfl (by kernel_rfl) (fun _ _ _ h => h) (Or.inl ⟨by rfl, ?_⟩) ?_ ?_
  rotate_left
  · intro w'
    go_simp
    with_reducible rfl
  rotate_left
  · simp only [Act.put, List.setIfInBounds_toArray, List.set_cons_zero, List.set_cons_succ, i64_w, i32_w]
    rfl
  refine take_ (i := 11) (N := some 38) (v := ?_) (a' := ?_) r12 rfl rfl (by kernel_rfl) (fun _ _ _ h => h) (Or.inl ⟨by rfl, ?_⟩) hHeld ?_ ?_
  rotate_left
  · rintro w' ⟨s0, s1⟩
    go_simp
    with_reducible rfl
  rotate_left
  · simp only [Act.put, List.setIfInBounds_toArray, List.set_cons_zero, List.set_cons_succ, i64_w, i32_w]
    rfl
  refine pure_ (i := 12) (N := some 39) (v := ?_) (a' := ?_) r13 rfl rfl (by kernel_rfl) (fun _ _ _ h => h) (Or.inl ⟨by rfl, ?_⟩) ?_ ?_
  rotate_left
  · intro w'
    go_simp
    with_reducible rfl
  rotate_left
  · simp only [Act.put, List.setIfInBounds_toArray, List.set_cons_zero, List.set_cons_succ, i64_w, i32_w]
    rfl
  refine pure_ (i := 13) (N := some 40) (v := ?_) (a' := ?_) r14 rfl rfl (by kernel_rfl) (fun _ _ _ h => h) (Or.inl ⟨by rfl, ?_⟩) ?_ ?_
  rotate_left
  · intro w'
    go_simp
    with_reducible rfl
  rotate_left
  · simp only [Act.put, List.setIfInBounds_toArray, List.set_cons_zero, List.set_cons_succ, i64_w, i32_w]
    rfl
  refine pure_ (i := 14) (N := some 26) (v := ?_) (a' := ?_) r15 rfl rfl (by kernel_rfl) (fun _ _ _ h => h) (Or.inl ⟨by rfl, ?_⟩) ?_ ?_
  rotate_left
  · intro w'
    go_simp
    with_reducible rfl
  rotate_left
  · simp only [Act.put, List.setIfInBounds_toArray, List.set_cons_zero, List.set_cons_succ, i64_w, i32_w]
    rfl
  refine done_ (by kernel_rfl) ?_

  have HF := Aside0.mk (Fw.of gt mb (.slice A xs.length cc) HB.out)
  have HA := Aside0.mk (At.refl w (.slice A xs.length cc))
  have HB1 := Aside0.mk (HB.out.mono HBB.out)
  have HSZ := Aside0.mk (below_size HB.out)
  clear HB c0 c1 hat hfull
  have HB := HB1
  clear HB1
  have HWP := HK
  have HXX := HX
  have c3 := HT.out.c3
  have f3 := HT.out.fz 3
  have hsm4 : xs.length ≤ 4611686018427387904 := by omega
  go_upto_region 12 with (fail)
  obtain ⟨p1, p2, p3, p4⟩ := HT.out.put3 (ord + 1)
  obtain ⟨gb, hgb⟩ : ∃ g, g = W1.heap.size := ⟨_, rfl⟩
  obtain ⟨W5, hW5⟩ : ∃ W, W = ((W1.setCell ⟨gt, 3, none⟩ (.int .u64 (ord + 1))).alloc (.cells #[.int .i64 k, .int .u64 at_, .int .u64 (ord + 1)] 63)).drew := ⟨_, rfl⟩
  rw [← hW5]
  simp only [← hgb]
  have hb5 : Below (W1.setCell ⟨gt, 3, none⟩ (.int .u64 (ord + 1))).heap.size (W1.setCell ⟨gt, 3, none⟩ (.int .u64 (ord + 1))) W5 := by rw [hW5]; exact below_drew1 (below_alloc (Below.refl _ _) _)
  have hbox5 : W5.heap[gb]? = some (.cells #[.int .i64 k, .int .u64 at_, .int .u64 (ord + 1)] 63 (0, 0)) := by
    rw [hW5, hgb, ← p4]
    exact blk_new _ _
  have HT5 := Aside0.mk (p1.below hb5)
  have HBK5 := Aside0.mk hbox5
  have HF5 : Aside0 (∀ k, k < W1.heap.size → k ≠ gt → W5.heap[k]? = W1.heap[k]?) := ⟨fun k hk hne => (hb5.block k (by rw [p4]; exact hk)).trans (p2 k hne)⟩
  have HB5 := Aside0.mk (Below.trans (p3 w HB.out) (hb5.mono (by rw [p4]; exact HT.out.base)))
  have HSZ5 : Aside0 (W1.heap.size ≤ W5.heap.size) := ⟨by rw [← p4]; exact hb5.size⟩
  have HGB : Aside0 (gb = W1.heap.size) := ⟨hgb⟩
  have HALL : Aside0 (∀ W, Below W5.heap.size W5 W → W.cell? ⟨gt, 1, none⟩ = some (.slice A xs.length cc) ∧ W.cell? ⟨gb, 0, none⟩ = some (.int .i64 k) ∧ W.cell? ⟨gb, 1, none⟩ = some (.int .u64 at_) ∧ W.cell? ⟨gb, 2, none⟩ = some (.int .u64 (ord + 1))) := ⟨fun w' hW => ⟨(HT5.out.below hW).c1, (blk_cell (blk_below HBK5.out hW) 0).trans rfl, (blk_cell (blk_below HBK5.out hW) 1).trans rfl, (blk_cell (blk_below HBK5.out hW) 2).trans rfl⟩⟩
  have HCC : Aside0 (∀ W, Below W5.heap.size W5 W → Kd.C k63 W A xs.length xs) := ⟨fun W hW => by
    obtain ⟨A', c', e, _, hC⟩ := (HT5.out.below hW).slice
    injection e with e1 _ _
    rw [e1]
    exact hC⟩
  clear p1 p2 p3 p4 hgb hW5 hb5 hbox5 c3 f3
  refine start_ (n := 11) (S := fun w' => w'.cell? ⟨gt, 1, none⟩ = some (.slice A xs.length cc) ∧ w'.cell? ⟨gb, 0, none⟩ = some (.int .i64 k) ∧ w'.cell? ⟨gb, 1, none⟩ = some (.int .u64 at_) ∧ w'.cell? ⟨gb, 2, none⟩ = some (.int .u64 (ord + 1))) (ds := []) r16 (by kernel_rfl) rfl rfl ⟨(HALL.out _ (below_drew1 (Below.refl W5.heap.size W5))).1, (HALL.out _ (below_drew1 (Below.refl W5.heap.size W5))).2.1, (HALL.out _ (below_drew1 (Below.refl W5.heap.size W5))).2.2.1, (HALL.out _ (below_drew1 (Below.refl W5.heap.size W5))).2.2.2⟩ (fun hHeld => ?_)
  refine pure_ (i := 0) (N := some 61) (v := ?_) (a' := ?_) r17 rfl rfl (by kernel_rfl) (fun _ _ _ h => h) (Or.inl ⟨by rfl, ?_⟩) ?_ ?_
  rotate_left
  · intro w'
    go_simp
    with_reducible rfl
  rotate_left
  · simp only [Act.put, List.setIfInBounds_toArray, List.set_cons_zero, List.set_cons_succ, i64_w, i32_w]
    rfl
  refine pure_ (i := 1) (N := some 62) (v := ?_) (a' := ?_) r18 rfl rfl (by kernel_rfl) (fun _ _ _ h => h) (Or.inl ⟨by rfl, ?_⟩) ?_ ?_
  rotate_left
  · intro w'
    go_simp
    with_reducible rfl
  rotate_left
  · simp only [Act.put, List.setIfInBounds_toArray, List.set_cons_zero, List.set_cons_succ, i64_w, i32_w]
    rfl
  refine pure_ (i := 2) (N := some 63) (v := ?_) (a' := ?_) r19 rfl rfl (by kernel_rfl) (fun _ _ _ h => h) (Or.inl ⟨by rfl, ?_⟩) ?_ ?_
  rotate_left
  · intro w'
    go_simp
    with_reducible rfl
  rotate_left
  · simp only [Act.put, List.setIfInBounds_toArray, List.set_cons_zero, List.set_cons_succ, i64_w, i32_w]
    rfl
  refine take_ (i := 3) (N := some 64) (v := ?_) (a' := ?_) r20 rfl rfl (by kernel_rfl) (fun _ _ _ h => h) (Or.inl ⟨by rfl, ?_⟩) hHeld ?_ ?_
  rotate_left
  · rintro w' ⟨s0, s1, s2, s3⟩
    go_simp
    with_reducible rfl
  rotate_left
  · simp only [Act.put, List.setIfInBounds_toArray, List.set_cons_zero, List.set_cons_succ, i64_w, i32_w]
    rfl
  refine take_ (i := 4) (N := some 65) (v := ?_) (a' := ?_) r21 rfl rfl (by kernel_rfl) (fun _ _ _ h => h) (Or.inl ⟨by rfl, ?_⟩) hHeld ?_ ?_
  rotate_left
  · rintro w' ⟨s0, s1, s2, s3⟩
    go_simp
    with_reducible rfl
  rotate_left
  · simp only [Act.put, List.setIfInBounds_toArray, List.set_cons_zero, List.set_cons_succ, i64_w, i32_w]
    rfl
  refine one_ (i := 5) (N := some 66) r22 rfl rfl (by kernel_rfl) (by decide) (fun K hK => ?_)
  refine goes_ Try.func28 (by kernel_rfl) rfl #[.slice A xs.length cc, .agg #[.int .i64 k, .int .u64 at_, .int .u64 (ord + 1)], .func (.func 29) #[] #[]] (by rfl) rfl rfl (by simp only [List.map_toArray, List.map_cons, List.map_nil]; rfl) ?_
  with_reducible refine (search.calls A cc xs (⟨k, at_, ord + 1⟩ : S63) _ (HCC.out _ (below_drew1 (Below.refl _ _))) hcc hsm4).mono ?_
  rintro e W6 ⟨rfl, hb⟩
  refine ⟨_, rfl, ?_⟩
  refine hK.out _ _ ⟨(HALL.out _ (below_step (below_drew1 (Below.refl W5.heap.size W5)) hb)).1, (HALL.out _ (below_step (below_drew1 (Below.refl W5.heap.size W5)) hb)).2.1, (HALL.out _ (below_step (below_drew1 (Below.refl W5.heap.size W5)) hb)).2.2.1, (HALL.out _ (below_step (below_drew1 (Below.refl W5.heap.size W5)) hb)).2.2.2⟩ (fun hHeld => ?_)
  clear hK K
  refine norm_ (a' := ?_) ?_ ?_
  rotate_left
  · show Act.put _ (some 66) _ = _
    simp only [Act.put, List.setIfInBounds_toArray, List.set_cons_zero, List.set_cons_succ, i64_w, i32_w]
    rfl
  refine pure_ (i := 6) (N := some 60) (v := ?_) (a' := ?_) r23 rfl rfl (by kernel_rfl) (fun _ _ _ h => h) (Or.inl ⟨by rfl, ?_⟩) ?_ ?_
  rotate_left
  · intro w'
    go_simp
    with_reducible rfl
  rotate_left
  · simp only [Act.put, List.setIfInBounds_toArray, List.set_cons_zero, List.set_cons_succ, i64_w, i32_w]
    rfl
  refine pure_ (i := 7) (N := some 67) (v := ?_) (a' := ?_) r24 rfl rfl (by kernel_rfl) (fun _ _ _ h => h) (Or.inl ⟨by rfl, ?_⟩) ?_ ?_
  rotate_left
  · intro w'
    go_simp
    with_reducible rfl
  rotate_left
  · simp only [Act.put, List.setIfInBounds_toArray, List.set_cons_zero, List.set_cons_succ, i64_w, i32_w]
    rfl
  refine pure_ (i := 8) (N := some 68) (v := ?_) (a' := ?_) r25 rfl rfl (by kernel_rfl) (fun _ _ _ h => h) (Or.inl ⟨by rfl, ?_⟩) ?_ ?_
  rotate_left
  · intro w'
    go_simp
    with_reducible rfl
  rotate_left
  · simp only [Act.put, List.setIfInBounds_toArray, List.set_cons_zero, List.set_cons_succ, i64_w, i32_w]
    rfl
  refine pure_ (i := 9) (N := some 10) (v := ?_) (a' := ?_) r26 rfl rfl (by kernel_rfl) (fun _ _ _ h => h) (Or.inl ⟨by rfl, ?_⟩) ?_ ?_
  rotate_left
  · intro w'
    go_simp
    with_reducible rfl
  rotate_left
  · simp only [Act.put, List.setIfInBounds_toArray, List.set_cons_zero, List.set_cons_succ, i64_w, i32_w]
    rfl
  refine pure_ (i := 10) (N := some 11) (v := ?_) (a' := ?_) r27 rfl rfl (by kernel_rfl) (fun _ _ _ h => h) (Or.inl ⟨by rfl, ?_⟩) ?_ ?_
  rotate_left
  · intro w'
    go_simp
    with_reducible rfl
  rotate_left
  · simp only [Act.put, List.setIfInBounds_toArray, List.set_cons_zero, List.set_cons_succ, i64_w, i32_w]
    rfl
  refine done_ (by kernel_rfl) ?_

  have HB6 := Aside0.mk (below_step (below_drew1 (Below.refl W5.heap.size W5)) hb)
  clear hb HALL HCC
  go_upto_region 13 with (fail)
  have HT6 := Aside0.mk (HT5.out.below HB6.out)
  have HBK6 := Aside0.mk (blk_below HBK5.out HB6.out)
  obtain ⟨gx, hgx⟩ : ∃ g, g = W6.heap.size := ⟨_, rfl⟩
  obtain ⟨W7, hW7⟩ : ∃ W, W = (W6.alloc (.cells #[.int .i64 k, .int .u64 at_, .int .u64 (ord + 1)] 63)).drew := ⟨_, rfl⟩
  have HB67 : Aside0 (Below W6.heap.size W6 W7) := ⟨by rw [hW7]; exact below_drew1 (below_alloc (Below.refl _ _) _)⟩
  have HT7 := Aside0.mk (HT6.out.below HB67.out)
  have HBK7 := Aside0.mk (blk_below HBK6.out HB67.out)
  have NEW7 : Aside0 (W7.heap[gx]? = some (.cells #[.int .i64 k, .int .u64 at_, .int .u64 (ord + 1)] 63 (0, 0))) := ⟨by rw [hW7, hgx]; exact blk_new W6 _⟩
  have HALL6 : Aside0 (∀ W, Below W6.heap.size W6 W → W.cell? ⟨gt, 2, none⟩ = some (.map (some mb)) ∧ W.cell? ⟨gb, 0, none⟩ = some (.int .i64 k) ∧ W.cell? ⟨gb, 1, none⟩ = some (.int .u64 at_) ∧ W.cell? ⟨gb, 2, none⟩ = some (.int .u64 (ord + 1))) := ⟨fun w' hW => ⟨(HT6.out.below hW).c2, (blk_cell (blk_below HBK6.out hW) 0).trans rfl, (blk_cell (blk_below HBK6.out hW) 1).trans rfl, (blk_cell (blk_below HBK6.out hW) 2).trans rfl⟩⟩
  have HGX : Aside0 (some gt ≠ (Value.slice A xs.length cc).ownBlock) := ⟨HT7.out.row.not_gt HT7.out.1⟩
  have HMX : Aside0 (some mb ≠ (Value.slice A xs.length cc).ownBlock) := ⟨HT7.out.row.not_map HT7.out.mapIs⟩
  have HOLD : Aside0 (∀ k, W1.heap.size ≤ k → some k ≠ (Value.slice A xs.length cc).ownBlock) := ⟨fun k hk e => by
    obtain ⟨c2, h2⟩ := own_typed HT.out.row k e.symm
    have := blk_lt h2
    omega⟩
  have HNX : Aside0 (some gx ≠ (Value.slice A xs.length cc).ownBlock) := ⟨HOLD.out gx (by rw [hgx]; exact Nat.le_trans HSZ5.out (below_size HB6.out))⟩
  have HT7C := Aside0.mk HT7.out.1
  have HBG : Aside0 (B ≤ gt ∧ B ≤ mb ∧ mb ≠ gt) := ⟨HT7.out.2.2.2.1, HT7.out.2.2.2.2.1, HT7.out.gm⟩
  have HGN : Aside0 (gb ≠ gt ∧ gb ≠ mb) := ⟨by rw [HGB.out]; have h1 := HT.out.lt; have h2 := HT.out.mapIs.lt; omega⟩
  have HW7 := Aside0.mk hW7
  have HGX7 := Aside0.mk hgx
  clear hW7 hgx
  have c1d : W6.drew.cell? ⟨gt, 1, none⟩ = some (.slice A xs.length cc) := HT6.out.c1
  have c17 : W7.cell? ⟨gt, 1, none⟩ = some (.slice A xs.length cc) := HT7.out.c1
  refine start_ (n := 21) (S := fun w' => w'.cell? ⟨gt, 2, none⟩ = some (.map (some mb)) ∧ w'.cell? ⟨gb, 0, none⟩ = some (.int .i64 k) ∧ w'.cell? ⟨gb, 1, none⟩ = some (.int .u64 at_) ∧ w'.cell? ⟨gb, 2, none⟩ = some (.int .u64 (ord + 1))) (ds := [20]) r28 (by kernel_rfl) rfl rfl ⟨(HALL6.out _ (below_drew1 (Below.refl W6.heap.size W6))).1, (HALL6.out _ (below_drew1 (Below.refl W6.heap.size W6))).2.1, (HALL6.out _ (below_drew1 (Below.refl W6.heap.size W6))).2.2.1, (HALL6.out _ (below_drew1 (Below.refl W6.heap.size W6))).2.2.2⟩ (fun hHeld => ?_)
  refine pure_ (i := 0) (N := some 69) (v := ?_) (a' := ?_) r29 rfl rfl (by kernel_rfl) (fun _ _ _ h => h) (Or.inl ⟨by rfl, ?_⟩) ?_ ?_
  rotate_left
  · intro w'
    go_simp
    with_reducible rfl
  rotate_left
  · simp only [Act.put, List.setIfInBounds_toArray, List.set_cons_zero, List.set_cons_succ, i64_w, i32_w]
    rfl
  refine pure_ (i := 1) (N := some 70) (v := ?_) (a' := ?_) r30 rfl rfl (by kernel_rfl) (fun _ _ _ h => h) (Or.inl ⟨by rfl, ?_⟩) ?_ ?_
  rotate_left
  · intro w'
    go_simp
    with_reducible rfl
  rotate_left
  · simp only [Act.put, List.setIfInBounds_toArray, List.set_cons_zero, List.set_cons_succ, i64_w, i32_w]
    rfl
  refine pure_ (i := 2) (N := some 71) (v := ?_) (a' := ?_) r31 rfl rfl (by kernel_rfl) (fun _ _ _ h => h) (Or.inl ⟨by rfl, ?_⟩) ?_ ?_
  rotate_left
  · intro w'
    go_simp
    with_reducible rfl
  rotate_left
  · simp only [Act.put, List.setIfInBounds_toArray, List.set_cons_zero, List.set_cons_succ, i64_w, i32_w]
    rfl
  refine pure_ (i := 3) (N := some 72) (v := ?_) (a' := ?_) r32 rfl rfl (by kernel_rfl) (fun _ _ _ h => h) (Or.inl ⟨by rfl, ?_⟩) ?_ ?_
  rotate_left
  · intro w'
    go_simp
    with_reducible rfl
  rotate_left
  · simp only [Act.put, List.setIfInBounds_toArray, List.set_cons_zero, List.set_cons_succ, i64_w, i32_w]
    rfl
  refine pure_ (i := 5) (N := some 74) (v := ?_) (a' := ?_) r33 rfl rfl (by kernel_rfl) (fun _ _ _ h => h) (Or.inl ⟨by rfl, ?_⟩) ?_ ?_
  rotate_left
  · intro w'
    go_simp
    with_reducible rfl
  rotate_left
  · simp only [Act.put, List.setIfInBounds_toArray, List.set_cons_zero, List.set_cons_succ, i64_w, i32_w]
    rfl
  refine pure_ (i := 6) (N := some 75) (v := ?_) (a' := ?_) r34 rfl rfl (by kernel_rfl) (fun _ _ _ h => h) (Or.inl ⟨by rfl, ?_⟩) ?_ ?_
  rotate_left
  · intro w'
    go_simp
    with_reducible rfl
  rotate_left
  · simp only [Act.put, List.setIfInBounds_toArray, List.set_cons_zero, List.set_cons_succ, i64_w, i32_w]
    rfl
  refine pure_ (i := 7) (N := some 76) (v := ?_) (a' := ?_) r35 rfl rfl (by kernel_rfl) (fun _ _ _ h => h) (Or.inl ⟨by rfl, ?_⟩) ?_ ?_
  rotate_left
  · intro w'
    go_simp
    with_reducible rfl
  rotate_left
  · simp only [Act.put, List.setIfInBounds_toArray, List.set_cons_zero, List.set_cons_succ, i64_w, i32_w]
    rfl
  refine pure_ (i := 8) (N := some 77) (v := ?_) (a' := ?_) r36 rfl rfl (by kernel_rfl) (fun _ _ _ h => h) (Or.inl ⟨by rfl, ?_⟩) ?_ ?_
  rotate_left
  · intro w'
    go_simp
    with_reducible rfl
  rotate_left
  · simp only [Act.put, List.setIfInBounds_toArray, List.set_cons_zero, List.set_cons_succ, i64_w, i32_w]
    rfl
  refine pure_ (i := 10) (N := some 79) (v := ?_) (a' := ?_) r37 rfl rfl (by kernel_rfl) (fun _ _ _ h => h) (Or.inl ⟨by rfl, ?_⟩) ?_ ?_
  rotate_left
  · intro w'
    go_simp
    with_reducible rfl
  rotate_left
  · simp only [Act.put, List.setIfInBounds_toArray, List.set_cons_zero, List.set_cons_succ, i64_w, i32_w]
    rfl
  refine take_ (i := 4) (N := some 73) (v := ?_) (a' := ?_) r38 rfl rfl (by kernel_rfl) (fun _ _ _ h => h) (Or.inl ⟨by rfl, ?_⟩) hHeld ?_ ?_
  rotate_left
  · rintro w' ⟨s0, s1, s2, s3⟩
    go_simp
    with_reducible rfl
  rotate_left
  · simp only [Act.put, List.setIfInBounds_toArray, List.set_cons_zero, List.set_cons_succ, i64_w, i32_w]
    rfl
  refine take_ (i := 11) (N := some 80) (v := ?_) (a' := ?_) r39 rfl rfl (by kernel_rfl) (fun _ _ _ h => h) (Or.inl ⟨by rfl, ?_⟩) hHeld ?_ ?_
  rotate_left
  · rintro w' ⟨s0, s1, s2, s3⟩
    go_simp
    with_reducible rfl
  rotate_left
  · simp only [Act.put, List.setIfInBounds_toArray, List.set_cons_zero, List.set_cons_succ, i64_w, i32_w]
    rfl
  refine take_ (i := 14) (N := some 83) (v := ?_) (a' := ?_) r40 rfl rfl (by kernel_rfl) (fun _ _ _ h => h) (Or.inl ⟨by rfl, ?_⟩) hHeld ?_ ?_
  rotate_left
  · rintro w' ⟨s0, s1, s2, s3⟩
    go_simp
    with_reducible rfl
  rotate_left
  · simp only [Act.put, List.setIfInBounds_toArray, List.set_cons_zero, List.set_cons_succ, i64_w, i32_w]
    rfl
  refine join_ (σ := Unit) 7 r41 (fun _ => [(78, .slice A xs.length cc), (81, .slice (some ⟨gx, 0, none⟩) 1 1)]) (fun _ w2 => w2 = W7) ?_ ?_
  rotate_left
  · intro hCont
    refine two_ (i := 9) (j := 12) (Ni := some 78) (Nj := some 81) r42 r43 rfl rfl rfl rfl (by kernel_rfl) (by decide) (by decide) (fun K hK => ?_) (fun K hK => ?_)
    · skip
      refine value_ (w1 := ?_) (v := ?_) (by rfl) rfl ?_ ?_
      rotate_left 2
      · go_simp
        constructor
        · rfl
        · rfl
      refine hK.out _ _ ⟨(HALL6.out _ (below_drew1 (Below.refl W6.heap.size W6))).1, (HALL6.out _ (below_drew1 (Below.refl W6.heap.size W6))).2.1, (HALL6.out _ (below_drew1 (Below.refl W6.heap.size W6))).2.2.1, (HALL6.out _ (below_drew1 (Below.refl W6.heap.size W6))).2.2.2⟩ (fun hHeld => ?_)
      clear hK K
      refine norm_ (a' := ?_) ?_ ?_
      rotate_left
      · show Act.put _ (some 78) _ = _
        simp only [Act.put, List.setIfInBounds_toArray, List.set_cons_zero, List.set_cons_succ, i64_w, i32_w]
        rfl
      refine one_ (i := 12) (N := some 81) r41 rfl rfl (by kernel_rfl) (by decide) (fun K hK => ?_)
      refine value_ (w1 := ?_) (v := ?_) (by rfl) rfl ?_ ?_
      rotate_left 2
      · go_simp
        constructor
        · rfl
        · rfl
      rw [← HW7.out]
      try rw [← HGX7.out]
      refine hK.out _ _ ⟨(HALL6.out _ (HB67.out)).1, (HALL6.out _ (HB67.out)).2.1, (HALL6.out _ (HB67.out)).2.2.1, (HALL6.out _ (HB67.out)).2.2.2⟩ (fun hHeld => ?_)
      clear hK K
      refine norm_ (a' := ?_) ?_ ?_
      rotate_left
      · show Act.put _ (some 81) _ = _
        simp only [Act.put, List.setIfInBounds_toArray, List.set_cons_zero, List.set_cons_succ, i64_w, i32_w]
        rfl
      exact norm_ (by simp only [putAll, Act.put, List.setIfInBounds_toArray, List.set_cons_zero, List.set_cons_succ]) (hCont () _ rfl)
    · skip
      refine value_ (w1 := ?_) (v := ?_) (by rfl) rfl ?_ ?_
      rotate_left 2
      · go_simp
        constructor
        · rfl
        · rfl
      rw [← HW7.out]
      try rw [← HGX7.out]
      refine hK.out _ _ ⟨(HALL6.out _ (HB67.out)).1, (HALL6.out _ (HB67.out)).2.1, (HALL6.out _ (HB67.out)).2.2.1, (HALL6.out _ (HB67.out)).2.2.2⟩ (fun hHeld => ?_)
      clear hK K
      refine norm_ (a' := ?_) ?_ ?_
      rotate_left
      · show Act.put _ (some 81) _ = _
        simp only [Act.put, List.setIfInBounds_toArray, List.set_cons_zero, List.set_cons_succ, i64_w, i32_w]
        rfl
      refine one_ (i := 9) (N := some 78) r41 rfl rfl (by kernel_rfl) (by decide) (fun K hK => ?_)
      refine value_ (w1 := ?_) (v := ?_) (by rfl) rfl ?_ ?_
      rotate_left 2
      · go_simp
        constructor
        · rfl
        · rfl
      refine hK.out _ _ ⟨(HALL6.out _ (HB67.out)).1, (HALL6.out _ (HB67.out)).2.1, (HALL6.out _ (HB67.out)).2.2.1, (HALL6.out _ (HB67.out)).2.2.2⟩ (fun hHeld => ?_)
      clear hK K
      refine norm_ (a' := ?_) ?_ ?_
      rotate_left
      · show Act.put _ (some 78) _ = _
        simp only [Act.put, List.setIfInBounds_toArray, List.set_cons_zero, List.set_cons_succ, i64_w, i32_w]
        rfl
      exact norm_ (by simp only [putAll, Act.put, List.setIfInBounds_toArray, List.set_cons_zero, List.set_cons_succ]) (hCont () _ rfl)
  rintro ⟨⟩ w2 hw2
  rw [hw2]
  clear hw2 w2
  have hHeld : W7.cell? ⟨gt, 2, none⟩ = some (.map (some mb)) ∧ W7.cell? ⟨gb, 0, none⟩ = some (.int .i64 k) ∧ W7.cell? ⟨gb, 1, none⟩ = some (.int .u64 at_) ∧ W7.cell? ⟨gb, 2, none⟩ = some (.int .u64 (ord + 1)) := ⟨(HALL6.out _ (HB67.out)).1, (HALL6.out _ (HB67.out)).2.1, (HALL6.out _ (HB67.out)).2.2.1, (HALL6.out _ (HB67.out)).2.2.2⟩
  refine norm_ (a' := ?_) ?_ ?_
  rotate_left
  · simp only [putAll, Act.put, List.setIfInBounds_toArray, List.set_cons_zero, List.set_cons_succ]
    rfl
  refine one_ (i := 13) (N := some 82) r44 rfl rfl (by kernel_rfl) (by decide) (fun K hK => ?_)
  refine goes_ Try.func30 (by kernel_rfl) rfl #[.slice A xs.length cc, .int .i64 (ix xs (⟨k, at_, ord + 1⟩ : S63)), .slice (some ⟨gx, 0, none⟩) 1 1] (by rfl) rfl rfl (by simp only [List.map_toArray, List.map_cons, List.map_nil]; rfl) ?_
  with_reducible refine (Insert.calls B gx 1 (ix xs (⟨k, at_, ord + 1⟩ : S63)) (.slice A xs.length cc) xs (⟨k, at_, ord + 1⟩ : S63) W7 HT7.out.row (ix_le _ _) NEW7.out HNX.out HT7.out.base HT7.out.small).mono ?_
  rintro e W8 ⟨v8, rfl, hr8, hb8, ho8, hloc⟩
  have hg8 := (ho8 gt HT7.out.lt HGX.out).trans HT7C.out
  have hb8x := (ho8 gb (blk_lt HBK7.out) (HOLD.out gb (by rw [HGB.out]; exact Nat.le_refl _))).trans HBK7.out
  have hr8 : TRow W8 B v8 (ins xs (⟨k, at_, ord + 1⟩ : S63)) := hr8
  obtain ⟨A8, c8, rfl, -, -⟩ := Kd.R_reads hr8.toR
  have q1 : W8.cell? ⟨gt, 1, none⟩ = some (.slice A xs.length cc) := (blk_cell hg8 1).trans rfl
  have q2 : W8.frozen? ⟨gt, 1, none⟩ = false := blk_frozen hg8 1
  refine ⟨_, rfl, ?_⟩
  refine hK.out _ _ ⟨(blk_cell hg8 2).trans rfl, (blk_cell hb8x 0).trans rfl, (blk_cell hb8x 1).trans rfl, (blk_cell hb8x 2).trans rfl⟩ (fun hHeld => ?_)
  clear hK K
  refine norm_ (a' := ?_) ?_ ?_
  rotate_left
  · show Act.put _ (some 82) _ = _
    simp only [Act.put, List.setIfInBounds_toArray, List.set_cons_zero, List.set_cons_succ, i64_w, i32_w]
    rfl
  refine pure_ (i := 15) (N := some 84) (v := ?_) (a' := ?_) r45 rfl rfl (by kernel_rfl) (fun _ _ _ h => h) (Or.inl ⟨by rfl, ?_⟩) ?_ ?_
  rotate_left
  · intro w'
    go_simp
    with_reducible rfl
  rotate_left
  · simp only [Act.put, List.setIfInBounds_toArray, List.set_cons_zero, List.set_cons_succ, i64_w, i32_w]
    rfl
  refine pure_ (i := 16) (N := some 85) (v := ?_) (a' := ?_) r46 rfl rfl (by kernel_rfl) (fun _ _ _ h => h) (Or.inl ⟨by rfl, ?_⟩) ?_ ?_
  rotate_left
  · intro w'
    go_simp
    with_reducible rfl
  rotate_left
  · simp only [Act.put, List.setIfInBounds_toArray, List.set_cons_zero, List.set_cons_succ, i64_w, i32_w]
    rfl
  refine one_ (i := 17) (N := none) r47 rfl rfl (by kernel_rfl) (by decide) (fun K hK => ?_)
  refine skip_ (w1 := ?_) (by rfl) rfl ?_ ?_
  rotate_left
  · go_simp
    rfl
  obtain ⟨p1, p2, p3, p4, p5⟩ := Whl.put1 hg8 hr8 HBG.out.1
  obtain ⟨W9, hW9⟩ : ∃ W, W = W8.setCell ⟨gt, 1, none⟩ (.slice A8 (ins xs (⟨k, at_, ord + 1⟩ : S63)).length c8) := ⟨_, rfl⟩
  rw [← hW9] at p1 p2 p3 p4 p5
  try rw [← hW9]
  clear hW9
  have hb9 := (p3 gb HGN.out.1).trans hb8x
  obtain ⟨es1, c1m, stm, hE, hS⟩ := (MapIs.kept (w' := W9) HT7.out.mapIs ((p3 mb HBG.out.2.2).trans (ho8 mb HT7.out.mapIs.lt HMX.out))).put HWP.out.1 (x := (⟨k, at_, ord + 1⟩ : S63)) (ys := ins xs (⟨k, at_, ord + 1⟩ : S63)) HO.out HXX.out (fun y => ins_mem xs (⟨k, at_, ord + 1⟩ : S63) y)
  have hm9 := MapIs.kept (w' := W9) HT7.out.mapIs ((p3 mb HBG.out.2.2).trans (ho8 mb HT7.out.mapIs.lt HMX.out))
  have hml9 : mb < W9.heap.size := by rw [p5]; exact Nat.lt_of_lt_of_le HT7.out.mapIs.lt hb8.size
  obtain ⟨es2, hE2, hfin⟩ := hS _ (setBlock_same (.map es1 c1m) hml9)
  refine hK.out _ _ ⟨(blk_cell p1 2).trans rfl, (blk_cell hb9 0).trans rfl, (blk_cell hb9 1).trans rfl, (blk_cell hb9 2).trans rfl⟩ (fun hHeld => ?_)
  clear hK K
  refine one_ (i := 18) (N := some 86) r48 rfl rfl (by kernel_rfl) (by decide) (fun K hK => ?_)
  refine value_ (w1 := _) (v := _) (by rfl) rfl (exec_mapEntry rfl rfl rfl hE) ?_
  have hb10 := (setBlock_other W9 (.map es1 c1m) HGN.out.2).trans hb9
  have hg10 := (setBlock_other W9 (.map es1 c1m) (Ne.symm HBG.out.2.2)).trans p1
  refine hK.out _ _ ⟨(blk_cell hg10 2).trans rfl, (blk_cell hb10 0).trans rfl, (blk_cell hb10 1).trans rfl, (blk_cell hb10 2).trans rfl⟩ (fun hHeld => ?_)
  clear hK K
  refine norm_ (a' := ?_) ?_ ?_
  rotate_left
  · show Act.put _ (some 86) _ = _
    simp only [Act.put, List.setIfInBounds_toArray, List.set_cons_zero, List.set_cons_succ, i64_w, i32_w]
    rfl
  refine pure_ (i := 19) (N := some 87) (v := ?_) (a' := ?_) r49 rfl rfl (by kernel_rfl) (fun _ _ _ h => h) (Or.inl ⟨by rfl, ?_⟩) ?_ ?_
  rotate_left
  · intro w'
    go_simp
    with_reducible rfl
  rotate_left
  · simp only [Act.put, List.setIfInBounds_toArray, List.set_cons_zero, List.set_cons_succ, i64_w, i32_w]
    rfl
  refine last_ (i := 20) (N := none) r50 rfl rfl (by kernel_rfl) (by decide) (fun K hK => ?_)
  refine skip_ (w1 := _) (by rfl) rfl (exec_entryStore rfl rfl rfl rfl hE2) ?_
  refine hK.out _ _ ?_
  clear hK K
  refine done_ (by kernel_rfl) ?_

  go_wp2
  go_ret
  have hmbl : mb < (Go.ChangeMaps.setBlock W9 mb (.map es1 c1m)).heap.size := by rw [setBlock_size]; exact hml9
  have hs56 := below_size HB6.out
  have hs67 := below_size HB67.out
  refine ⟨rfl, _, ⟨(setBlock_other _ _ (Ne.symm HBG.out.2.2)).trans hg10, p2.moved (fun k hk => ?_), hfin _ (setBlock_same _ hmbl), HBG.out.1, HBG.out.2.1, by rw [ins_len]; exact hsm⟩, ?_, ?_, ?_⟩
  · have hne : k ≠ mb := fun e => p2.not_map hm9 (by rw [← e]; exact hk.symm)
    exact (setBlock_other _ _ hne).trans (setBlock_other _ _ hne)
  · exact below_setBlock (below_setBlock (p4 w (Below.trans (Below.trans (Below.trans HB5.out (HB6.out.mono HT5.out.base)) (HB67.out.mono HT6.out.base)) hb8)) HBG.out.2.1 _) HBG.out.2.1 _
  · intro k hk h1 h2 h3
    have hk1 : k < W1.heap.size := Nat.lt_of_lt_of_le hk HSZ.out
    have hk5 : k < W5.heap.size := Nat.lt_of_lt_of_le hk1 HSZ5.out
    have hown : some k ≠ (Value.slice A xs.length cc).ownBlock := by
      rcases HA.out with e | ⟨j, e, hj⟩
      · rw [e]; exact h3
      · rw [e]
        intro h
        injection h with h
        omega
    exact (setBlock_other _ _ h2).trans ((setBlock_other _ _ h2).trans ((p3 k h1).trans ((ho8 k (by omega) hown).trans ((HB67.out.block k (by omega)).trans ((HB6.out.block k hk5).trans ((HF5.out k hk1 h1).trans (HF.out k hk h1 h2 h3)))))))
  · rcases hloc with e | e
    · rcases HA.out with e2 | ⟨j, e2, hj⟩
      · exact .inl (e.trans e2)
      · exact .inr ⟨j, e.trans e2, hj⟩
    · refine .inr ⟨_, e, ?_⟩
      have := HSZ.out
      have := HSZ5.out
      omega

set_option maxHeartbeats 8000000 in
set_option maxRecDepth 100000 in
theorem Set.again (gt mb B : Nat) (most : Int) (v : Value) (xs : List S63) (ord : Int) (hk : Wp xs ord) (k : Int) (at_ : Int) (hat : at_ ≤ 1099511627776) (ho0 : 0 ≤ ord) (ho1 : ord < 4611686018427387904) (w : World) (hT : Whl w gt mb B most v xs ord) {x : S63} (hx : x ∈ xs) (hkx : x.f0 = k) : Calls Try.prog 7 #[.pointer (some ⟨gt, 0, none⟩), .int .i64 k, .int .u64 at_] w fun e w' => ∃ v', e = .returned (.int .i64 0) ∧ Whl w' gt mb B most v' (ins (out xs x) ⟨k, at_, ord + 1⟩) (ord + 1) ∧ Below B w w' ∧ Fw w w' gt mb v ∧ At w v v' := by
  have hda : decide ((1099511627776 : Int) < at_) = false := decide_eq_false (by omega)
  have HB := Aside0.mk (Below.refl w.heap.size w)
  have HT := Aside0.mk hT
  clear hT
  have HK := Aside0.mk hk
  have HX := Aside0.mk hx
  have HBB := Aside0.mk HT.out.base
  subst hkx
  clear hk hx
  go_enter Try.func7, Try.ntmps7
  go_upto_region 3 with (first | (go_at_call 26; with_reducible refine (noneW.calls gt mb B most v xs ord _ HT.out).mono ?_; rintro e w' ⟨rfl, hb⟩; have n9_ := Aside0.mk (Whl.below (by with_reducible exact HT.out) hb); have n8_ := Aside0.mk (below_step (by repeat (first | (with_reducible first | exact HB.out | apply below_alloc | apply pw_below_drewN | apply below_drew1) | exact HB.out)) hb); clear HT HB hb; have HT := n9_; have HB := n8_; clear n9_ n8_))
  have c2 := HT.out.c2
  obtain ⟨w0, hw0⟩ : ∃ u, u = w' := ⟨_, rfl⟩
  have hl : (Instr.lookup 58 (.map (some mb)) (.int .i64 x.f0) true).run Try.prog w' = .ok (.tuple #[.agg #[.int .i64 x.f0, .int .u64 x.f1, .int .u64 x.f2], .bool true]) w' := HT.out.mapIs.hit HK.out.1 HX.out
  clear hw0 w0
  go_upto_region 6 with (fail)
  refine start_ (n := 15) (S := fun w' => True) (ds := []) r0 (by kernel_rfl) rfl rfl trivial (fun hHeld => ?_)
  refine pure_ (i := 0) (N := some 27) (v := ?_) (a' := ?_) r1 rfl rfl (by kernel_rfl) (fun _ _ _ h => h) (Or.inl ⟨by rfl, ?_⟩) ?_ ?_
  rotate_left
  · intro w'
    go_simp
    with_reducible rfl
  rotate_left
  · simp only [Act.put, List.setIfInBounds_toArray, List.set_cons_zero, List.set_cons_succ, i64_w, i32_w]
    rfl
  refine pure_ (i := 1) (N := some 28) (v := ?_) (a' := ?_) r2 rfl rfl (by kernel_rfl) (fun _ _ _ h => h) (Or.inl ⟨by rfl, ?_⟩) ?_ ?_
  rotate_left
  · intro w'
    go_simp
    with_reducible rfl
  rotate_left
  · simp only [Act.put, List.setIfInBounds_toArray, List.set_cons_zero, List.set_cons_succ, i64_w, i32_w]
    rfl
  refine pure_ (i := 2) (N := some 29) (v := ?_) (a' := ?_) r3 rfl rfl (by kernel_rfl) (fun _ _ _ h => h) (Or.inl ⟨by rfl, ?_⟩) ?_ ?_
  rotate_left
  · intro w'
    go_simp
    with_reducible rfl
  rotate_left
  · simp only [Act.put, List.setIfInBounds_toArray, List.set_cons_zero, List.set_cons_succ, i64_w, i32_w]
    rfl
  refine pure_ (i := 3) (N := some 30) (v := undef) (a' := ?_) r4 rfl rfl (by kernel_rfl) (fun _ _ _ h => h) (Or.inr ⟨by rfl, rfl⟩) ?_ ?_
  rotate_left
  · simp only [Act.put, List.setIfInBounds_toArray, List.set_cons_zero, List.set_cons_succ, i64_w, i32_w]
    rfl
  refine pure_ (i := 4) (N := some 31) (v := undef) (a' := ?_) r5 rfl rfl (by kernel_rfl) (fun _ _ _ h => h) (Or.inr ⟨by rfl, rfl⟩) ?_ ?_
  rotate_left
  · simp only [Act.put, List.setIfInBounds_toArray, List.set_cons_zero, List.set_cons_succ, i64_w, i32_w]
    rfl
  refine pure_ (i := 5) (N := some 32) (v := undef) (a' := ?_) r6 rfl rfl (by kernel_rfl) (fun _ _ _ h => h) (Or.inr ⟨by rfl, rfl⟩) ?_ ?_
  rotate_left
  · simp only [Act.put, List.setIfInBounds_toArray, List.set_cons_zero, List.set_cons_succ, i64_w, i32_w]
    rfl
  refine pure_ (i := 6) (N := some 33) (v := undef) (a' := ?_) r51 rfl rfl (by kernel_rfl) (fun _ _ _ h => h) (Or.inr ⟨by rfl, rfl⟩) ?_ ?_
  rotate_left
  · simp only [Act.put, List.setIfInBounds_toArray, List.set_cons_zero, List.set_cons_succ, i64_w, i32_w]
    rfl
  refine pure_ (i := 7) (N := some 34) (v := undef) (a' := ?_) r52 rfl rfl (by kernel_rfl) (fun _ _ _ h => h) (Or.inr ⟨by rfl, rfl⟩) ?_ ?_
  rotate_left
  · simp only [Act.put, List.setIfInBounds_toArray, List.set_cons_zero, List.set_cons_succ, i64_w, i32_w]
    rfl
  refine pure_ (i := 8) (N := some 35) (v := undef) (a' := ?_) r53 rfl rfl (by kernel_rfl) (fun _ _ _ h => h) (Or.inr ⟨by rfl, rfl⟩) ?_ ?_
  rotate_left
  · simp only [Act.put, List.setIfInBounds_toArray, List.set_cons_zero, List.set_cons_succ, i64_w, i32_w]
    rfl
  refine pure_ (i := 9) (N := some 36) (v := undef) (a' := ?_) r54 rfl rfl (by kernel_rfl) (fun _ _ _ h => h) (Or.inr ⟨by rfl, rfl⟩) ?_ ?_
  rotate_left
  · simp only [Act.put, List.setIfInBounds_toArray, List.set_cons_zero, List.set_cons_succ, i64_w, i32_w]
    rfl
  refine pure_ (i := 10) (N := some 37) (v := undef) (a' := ?_) r11 rfl rfl (by kernel_rfl) (fun _ _ _ h => h) (Or.inr ⟨by rfl, rfl⟩) ?_ ?_
  rotate_left
  · simp only [Act.put, List.setIfInBounds_toArray, List.set_cons_zero, List.set_cons_succ, i64_w, i32_w]
    rfl
  refine pure_ (i := 11) (N := some 38) (v := undef) (a' := ?_) r12 rfl rfl (by kernel_rfl) (fun _ _ _ h => h) (Or.inr ⟨by rfl, rfl⟩) ?_ ?_
  rotate_left
  · simp only [Act.put, List.setIfInBounds_toArray, List.set_cons_zero, List.set_cons_succ, i64_w, i32_w]
    rfl
  refine pure_ (i := 12) (N := some 39) (v := undef) (a' := ?_) r13 rfl rfl (by kernel_rfl) (fun _ _ _ h => h) (Or.inr ⟨by rfl, rfl⟩) ?_ ?_
  rotate_left
  · simp only [Act.put, List.setIfInBounds_toArray, List.set_cons_zero, List.set_cons_succ, i64_w, i32_w]
    rfl
  refine pure_ (i := 13) (N := some 40) (v := ?_) (a' := ?_) r14 rfl rfl (by kernel_rfl) (fun _ _ _ h => h) (Or.inl ⟨by rfl, ?_⟩) ?_ ?_
  rotate_left
  · intro w'
    go_simp
    with_reducible rfl
  rotate_left
  · simp only [Act.put, List.setIfInBounds_toArray, List.set_cons_zero, List.set_cons_succ, i64_w, i32_w]
    rfl
  refine pure_ (i := 14) (N := some 26) (v := ?_) (a' := ?_) r15 rfl rfl (by kernel_rfl) (fun _ _ _ h => h) (Or.inl ⟨by rfl, ?_⟩) ?_ ?_
  rotate_left
  · intro w'
    go_simp
    with_reducible rfl
  rotate_left
  · simp only [Act.put, List.setIfInBounds_toArray, List.set_cons_zero, List.set_cons_succ, i64_w, i32_w]
    rfl
  refine done_ (by kernel_rfl) ?_

  go_upto_region 10 with (first | (go_at_call 27; with_reducible refine (drop.calls gt mb B most v xs ord HK.out x HX.out _ (HT.out.below (below_drew1 (below_alloc (Below.refl _ _) _)))).mono ?_; rintro e W1 ⟨v1, rfl, ht, hb, hf, ha⟩; have h7 := Aside0.mk ht; have h8 := Aside0.mk hb; have h9 := Aside0.mk hf; have h10 := Aside0.mk ha; clear ht hb hf ha))
  have hb0 := below_drew1 (below_alloc HB.out (.cells #[.int .i64 x.f0, .int .u64 x.f1, .int .u64 x.f2] 63))
  have HT1 := h7
  have HB1 := Aside0.mk (Below.trans (hb0.mono HBB.out) h8.out)
  have HF := Aside0.mk (Fw.trans_of hb0 h9.out)
  have HA := Aside0.mk (At.of hb0 h10.out)
  have HSZ := Aside0.mk HB1.out.size
  have hsm : (out xs x).length < 1000000 := by
    have h1 := out_len HK.out HX.out
    have h2 := HT.out.small
    have h3 := List.length_pos_of_mem HX.out
    omega
  have HWP := Aside0.mk (HK.out.out x)
  have HXX : Aside0 (∀ y ∈ out xs x, y.f0 ≠ x.f0) := ⟨fun y hy => ((HK.out.out_mem HX.out y).1 hy).2⟩
  have HO := Aside0.mk (HK.out.1.2 x HX.out)
  clear HT HB hl c2 hb0 h7 h8 h9 h10 hat hda
  have HT := HT1
  have HB := HB1
  clear HT1 HB1
  obtain ⟨A, cc, hv1, hcc, hC⟩ := HT.out.slice
  subst hv1
  clear hC
  have c3 := HT.out.c3
  have f3 := HT.out.fz 3
  have hsm4 : (out xs x).length ≤ 4611686018427387904 := by omega
  go_upto_region 12 with (fail)
  obtain ⟨p1, p2, p3, p4⟩ := HT.out.put3 (ord + 1)
  obtain ⟨gb, hgb⟩ : ∃ g, g = W1.heap.size := ⟨_, rfl⟩
  obtain ⟨W5, hW5⟩ : ∃ W, W = ((W1.setCell ⟨gt, 3, none⟩ (.int .u64 (ord + 1))).alloc (.cells #[.int .i64 x.f0, .int .u64 at_, .int .u64 (ord + 1)] 63)) := ⟨_, rfl⟩
  rw [← hW5]
  simp only [← hgb]
  have hb5 : Below (W1.setCell ⟨gt, 3, none⟩ (.int .u64 (ord + 1))).heap.size (W1.setCell ⟨gt, 3, none⟩ (.int .u64 (ord + 1))) W5 := by rw [hW5]; exact below_alloc (Below.refl _ _) _
  have hbox5 : W5.heap[gb]? = some (.cells #[.int .i64 x.f0, .int .u64 at_, .int .u64 (ord + 1)] 63 (0, 0)) := by
    rw [hW5, hgb, ← p4]
    exact blk_new _ _
  have HT5 := Aside0.mk (p1.below hb5)
  have HBK5 := Aside0.mk hbox5
  have HF5 : Aside0 (∀ k, k < W1.heap.size → k ≠ gt → W5.heap[k]? = W1.heap[k]?) := ⟨fun k hk hne => (hb5.block k (by rw [p4]; exact hk)).trans (p2 k hne)⟩
  have HB5 := Aside0.mk (Below.trans (p3 w HB.out) (hb5.mono (by rw [p4]; exact HT.out.base)))
  have HSZ5 : Aside0 (W1.heap.size ≤ W5.heap.size) := ⟨by rw [← p4]; exact hb5.size⟩
  have HGB : Aside0 (gb = W1.heap.size) := ⟨hgb⟩
  have HALL : Aside0 (∀ W, Below W5.heap.size W5 W → W.cell? ⟨gt, 1, none⟩ = some (.slice A (out xs x).length cc) ∧ W.cell? ⟨gb, 0, none⟩ = some (.int .i64 x.f0) ∧ W.cell? ⟨gb, 1, none⟩ = some (.int .u64 at_) ∧ W.cell? ⟨gb, 2, none⟩ = some (.int .u64 (ord + 1))) := ⟨fun w' hW => ⟨(HT5.out.below hW).c1, (blk_cell (blk_below HBK5.out hW) 0).trans rfl, (blk_cell (blk_below HBK5.out hW) 1).trans rfl, (blk_cell (blk_below HBK5.out hW) 2).trans rfl⟩⟩
  have HCC : Aside0 (∀ W, Below W5.heap.size W5 W → Kd.C k63 W A (out xs x).length (out xs x)) := ⟨fun W hW => by
    obtain ⟨A', c', e, _, hC⟩ := (HT5.out.below hW).slice
    injection e with e1 _ _
    rw [e1]
    exact hC⟩
  clear p1 p2 p3 p4 hgb hW5 hb5 hbox5 c3 f3
  refine start_ (n := 11) (S := fun w' => w'.cell? ⟨gt, 1, none⟩ = some (.slice A (out xs x).length cc) ∧ w'.cell? ⟨gb, 0, none⟩ = some (.int .i64 x.f0) ∧ w'.cell? ⟨gb, 1, none⟩ = some (.int .u64 at_) ∧ w'.cell? ⟨gb, 2, none⟩ = some (.int .u64 (ord + 1))) (ds := []) r16 (by kernel_rfl) rfl rfl ⟨(HALL.out _ (below_drew1 (Below.refl W5.heap.size W5))).1, (HALL.out _ (below_drew1 (Below.refl W5.heap.size W5))).2.1, (HALL.out _ (below_drew1 (Below.refl W5.heap.size W5))).2.2.1, (HALL.out _ (below_drew1 (Below.refl W5.heap.size W5))).2.2.2⟩ (fun hHeld => ?_)
  refine pure_ (i := 0) (N := some 61) (v := ?_) (a' := ?_) r17 rfl rfl (by kernel_rfl) (fun _ _ _ h => h) (Or.inl ⟨by rfl, ?_⟩) ?_ ?_
  rotate_left
  · intro w'
    go_simp
    with_reducible rfl
  rotate_left
  · simp only [Act.put, List.setIfInBounds_toArray, List.set_cons_zero, List.set_cons_succ, i64_w, i32_w]
    rfl
  refine pure_ (i := 1) (N := some 62) (v := ?_) (a' := ?_) r18 rfl rfl (by kernel_rfl) (fun _ _ _ h => h) (Or.inl ⟨by rfl, ?_⟩) ?_ ?_
  rotate_left
  · intro w'
    go_simp
    with_reducible rfl
  rotate_left
  · simp only [Act.put, List.setIfInBounds_toArray, List.set_cons_zero, List.set_cons_succ, i64_w, i32_w]
    rfl
  refine pure_ (i := 2) (N := some 63) (v := ?_) (a' := ?_) r19 rfl rfl (by kernel_rfl) (fun _ _ _ h => h) (Or.inl ⟨by rfl, ?_⟩) ?_ ?_
  rotate_left
  · intro w'
    go_simp
    with_reducible rfl
  rotate_left
  · simp only [Act.put, List.setIfInBounds_toArray, List.set_cons_zero, List.set_cons_succ, i64_w, i32_w]
    rfl
  refine take_ (i := 3) (N := some 64) (v := ?_) (a' := ?_) r20 rfl rfl (by kernel_rfl) (fun _ _ _ h => h) (Or.inl ⟨by rfl, ?_⟩) hHeld ?_ ?_
  rotate_left
  · rintro w' ⟨s0, s1, s2, s3⟩
    go_simp
    with_reducible rfl
  rotate_left
  · simp only [Act.put, List.setIfInBounds_toArray, List.set_cons_zero, List.set_cons_succ, i64_w, i32_w]
    rfl
  refine take_ (i := 4) (N := some 65) (v := ?_) (a' := ?_) r21 rfl rfl (by kernel_rfl) (fun _ _ _ h => h) (Or.inl ⟨by rfl, ?_⟩) hHeld ?_ ?_
  rotate_left
  · rintro w' ⟨s0, s1, s2, s3⟩
    go_simp
    with_reducible rfl
  rotate_left
  · simp only [Act.put, List.setIfInBounds_toArray, List.set_cons_zero, List.set_cons_succ, i64_w, i32_w]
    rfl
  refine one_ (i := 5) (N := some 66) r22 rfl rfl (by kernel_rfl) (by decide) (fun K hK => ?_)
  refine goes_ Try.func28 (by kernel_rfl) rfl #[.slice A (out xs x).length cc, .agg #[.int .i64 x.f0, .int .u64 at_, .int .u64 (ord + 1)], .func (.func 29) #[] #[]] (by rfl) rfl rfl (by simp only [List.map_toArray, List.map_cons, List.map_nil]; rfl) ?_
  with_reducible refine (search.calls A cc (out xs x) (⟨x.f0, at_, ord + 1⟩ : S63) _ (HCC.out _ (below_drew1 (Below.refl _ _))) hcc hsm4).mono ?_
  rintro e W6 ⟨rfl, hb⟩
  refine ⟨_, rfl, ?_⟩
  refine hK.out _ _ ⟨(HALL.out _ (below_step (below_drew1 (Below.refl W5.heap.size W5)) hb)).1, (HALL.out _ (below_step (below_drew1 (Below.refl W5.heap.size W5)) hb)).2.1, (HALL.out _ (below_step (below_drew1 (Below.refl W5.heap.size W5)) hb)).2.2.1, (HALL.out _ (below_step (below_drew1 (Below.refl W5.heap.size W5)) hb)).2.2.2⟩ (fun hHeld => ?_)
  clear hK K
  refine norm_ (a' := ?_) ?_ ?_
  rotate_left
  · show Act.put _ (some 66) _ = _
    simp only [Act.put, List.setIfInBounds_toArray, List.set_cons_zero, List.set_cons_succ, i64_w, i32_w]
    rfl
  refine pure_ (i := 6) (N := some 60) (v := ?_) (a' := ?_) r23 rfl rfl (by kernel_rfl) (fun _ _ _ h => h) (Or.inl ⟨by rfl, ?_⟩) ?_ ?_
  rotate_left
  · intro w'
    go_simp
    with_reducible rfl
  rotate_left
  · simp only [Act.put, List.setIfInBounds_toArray, List.set_cons_zero, List.set_cons_succ, i64_w, i32_w]
    rfl
  refine pure_ (i := 7) (N := some 67) (v := ?_) (a' := ?_) r24 rfl rfl (by kernel_rfl) (fun _ _ _ h => h) (Or.inl ⟨by rfl, ?_⟩) ?_ ?_
  rotate_left
  · intro w'
    go_simp
    with_reducible rfl
  rotate_left
  · simp only [Act.put, List.setIfInBounds_toArray, List.set_cons_zero, List.set_cons_succ, i64_w, i32_w]
    rfl
  refine pure_ (i := 8) (N := some 68) (v := ?_) (a' := ?_) r25 rfl rfl (by kernel_rfl) (fun _ _ _ h => h) (Or.inl ⟨by rfl, ?_⟩) ?_ ?_
  rotate_left
  · intro w'
    go_simp
    with_reducible rfl
  rotate_left
  · simp only [Act.put, List.setIfInBounds_toArray, List.set_cons_zero, List.set_cons_succ, i64_w, i32_w]
    rfl
  refine pure_ (i := 9) (N := some 10) (v := ?_) (a' := ?_) r26 rfl rfl (by kernel_rfl) (fun _ _ _ h => h) (Or.inl ⟨by rfl, ?_⟩) ?_ ?_
  rotate_left
  · intro w'
    go_simp
    with_reducible rfl
  rotate_left
  · simp only [Act.put, List.setIfInBounds_toArray, List.set_cons_zero, List.set_cons_succ, i64_w, i32_w]
    rfl
  refine pure_ (i := 10) (N := some 11) (v := ?_) (a' := ?_) r27 rfl rfl (by kernel_rfl) (fun _ _ _ h => h) (Or.inl ⟨by rfl, ?_⟩) ?_ ?_
  rotate_left
  · intro w'
    go_simp
    with_reducible rfl
  rotate_left
  · simp only [Act.put, List.setIfInBounds_toArray, List.set_cons_zero, List.set_cons_succ, i64_w, i32_w]
    rfl
  refine done_ (by kernel_rfl) ?_

  have HB6 := Aside0.mk (below_step (below_drew1 (Below.refl W5.heap.size W5)) hb)
  clear hb HALL HCC
  go_upto_region 13 with (fail)
  have HT6 := Aside0.mk (HT5.out.below HB6.out)
  have HBK6 := Aside0.mk (blk_below HBK5.out HB6.out)
  obtain ⟨gx, hgx⟩ : ∃ g, g = W6.heap.size := ⟨_, rfl⟩
  obtain ⟨W7, hW7⟩ : ∃ W, W = (W6.alloc (.cells #[.int .i64 x.f0, .int .u64 at_, .int .u64 (ord + 1)] 63)).drew := ⟨_, rfl⟩
  have HB67 : Aside0 (Below W6.heap.size W6 W7) := ⟨by rw [hW7]; exact below_drew1 (below_alloc (Below.refl _ _) _)⟩
  have HT7 := Aside0.mk (HT6.out.below HB67.out)
  have HBK7 := Aside0.mk (blk_below HBK6.out HB67.out)
  have NEW7 : Aside0 (W7.heap[gx]? = some (.cells #[.int .i64 x.f0, .int .u64 at_, .int .u64 (ord + 1)] 63 (0, 0))) := ⟨by rw [hW7, hgx]; exact blk_new W6 _⟩
  have HALL6 : Aside0 (∀ W, Below W6.heap.size W6 W → W.cell? ⟨gt, 2, none⟩ = some (.map (some mb)) ∧ W.cell? ⟨gb, 0, none⟩ = some (.int .i64 x.f0) ∧ W.cell? ⟨gb, 1, none⟩ = some (.int .u64 at_) ∧ W.cell? ⟨gb, 2, none⟩ = some (.int .u64 (ord + 1))) := ⟨fun w' hW => ⟨(HT6.out.below hW).c2, (blk_cell (blk_below HBK6.out hW) 0).trans rfl, (blk_cell (blk_below HBK6.out hW) 1).trans rfl, (blk_cell (blk_below HBK6.out hW) 2).trans rfl⟩⟩
  have HGX : Aside0 (some gt ≠ (Value.slice A (out xs x).length cc).ownBlock) := ⟨HT7.out.row.not_gt HT7.out.1⟩
  have HMX : Aside0 (some mb ≠ (Value.slice A (out xs x).length cc).ownBlock) := ⟨HT7.out.row.not_map HT7.out.mapIs⟩
  have HOLD : Aside0 (∀ k, W1.heap.size ≤ k → some k ≠ (Value.slice A (out xs x).length cc).ownBlock) := ⟨fun k hk e => by
    obtain ⟨c2, h2⟩ := own_typed HT.out.row k e.symm
    have := blk_lt h2
    omega⟩
  have HNX : Aside0 (some gx ≠ (Value.slice A (out xs x).length cc).ownBlock) := ⟨HOLD.out gx (by rw [hgx]; exact Nat.le_trans HSZ5.out (below_size HB6.out))⟩
  have HT7C := Aside0.mk HT7.out.1
  have HBG : Aside0 (B ≤ gt ∧ B ≤ mb ∧ mb ≠ gt) := ⟨HT7.out.2.2.2.1, HT7.out.2.2.2.2.1, HT7.out.gm⟩
  have HGN : Aside0 (gb ≠ gt ∧ gb ≠ mb) := ⟨by rw [HGB.out]; have h1 := HT.out.lt; have h2 := HT.out.mapIs.lt; omega⟩
  have HW7 := Aside0.mk hW7
  have HGX7 := Aside0.mk hgx
  clear hW7 hgx
  have c1d : W6.drew.cell? ⟨gt, 1, none⟩ = some (.slice A (out xs x).length cc) := HT6.out.c1
  have c17 : W7.cell? ⟨gt, 1, none⟩ = some (.slice A (out xs x).length cc) := HT7.out.c1
  refine start_ (n := 21) (S := fun w' => w'.cell? ⟨gt, 2, none⟩ = some (.map (some mb)) ∧ w'.cell? ⟨gb, 0, none⟩ = some (.int .i64 x.f0) ∧ w'.cell? ⟨gb, 1, none⟩ = some (.int .u64 at_) ∧ w'.cell? ⟨gb, 2, none⟩ = some (.int .u64 (ord + 1))) (ds := [20]) r28 (by kernel_rfl) rfl rfl ⟨(HALL6.out _ (below_drew1 (Below.refl W6.heap.size W6))).1, (HALL6.out _ (below_drew1 (Below.refl W6.heap.size W6))).2.1, (HALL6.out _ (below_drew1 (Below.refl W6.heap.size W6))).2.2.1, (HALL6.out _ (below_drew1 (Below.refl W6.heap.size W6))).2.2.2⟩ (fun hHeld => ?_)
  refine pure_ (i := 0) (N := some 69) (v := ?_) (a' := ?_) r29 rfl rfl (by kernel_rfl) (fun _ _ _ h => h) (Or.inl ⟨by rfl, ?_⟩) ?_ ?_
  rotate_left
  · intro w'
    go_simp
    with_reducible rfl
  rotate_left
  · simp only [Act.put, List.setIfInBounds_toArray, List.set_cons_zero, List.set_cons_succ, i64_w, i32_w]
    rfl
  refine pure_ (i := 1) (N := some 70) (v := ?_) (a' := ?_) r30 rfl rfl (by kernel_rfl) (fun _ _ _ h => h) (Or.inl ⟨by rfl, ?_⟩) ?_ ?_
  rotate_left
  · intro w'
    go_simp
    with_reducible rfl
  rotate_left
  · simp only [Act.put, List.setIfInBounds_toArray, List.set_cons_zero, List.set_cons_succ, i64_w, i32_w]
    rfl
  refine pure_ (i := 2) (N := some 71) (v := ?_) (a' := ?_) r31 rfl rfl (by kernel_rfl) (fun _ _ _ h => h) (Or.inl ⟨by rfl, ?_⟩) ?_ ?_
  rotate_left
  · intro w'
    go_simp
    with_reducible rfl
  rotate_left
  · simp only [Act.put, List.setIfInBounds_toArray, List.set_cons_zero, List.set_cons_succ, i64_w, i32_w]
    rfl
  refine pure_ (i := 3) (N := some 72) (v := ?_) (a' := ?_) r32 rfl rfl (by kernel_rfl) (fun _ _ _ h => h) (Or.inl ⟨by rfl, ?_⟩) ?_ ?_
  rotate_left
  · intro w'
    go_simp
    with_reducible rfl
  rotate_left
  · simp only [Act.put, List.setIfInBounds_toArray, List.set_cons_zero, List.set_cons_succ, i64_w, i32_w]
    rfl
  refine pure_ (i := 5) (N := some 74) (v := ?_) (a' := ?_) r33 rfl rfl (by kernel_rfl) (fun _ _ _ h => h) (Or.inl ⟨by rfl, ?_⟩) ?_ ?_
  rotate_left
  · intro w'
    go_simp
    with_reducible rfl
  rotate_left
  · simp only [Act.put, List.setIfInBounds_toArray, List.set_cons_zero, List.set_cons_succ, i64_w, i32_w]
    rfl
  refine pure_ (i := 6) (N := some 75) (v := ?_) (a' := ?_) r34 rfl rfl (by kernel_rfl) (fun _ _ _ h => h) (Or.inl ⟨by rfl, ?_⟩) ?_ ?_
  rotate_left
  · intro w'
    go_simp
    with_reducible rfl
  rotate_left
  · simp only [Act.put, List.setIfInBounds_toArray, List.set_cons_zero, List.set_cons_succ, i64_w, i32_w]
    rfl
  refine pure_ (i := 7) (N := some 76) (v := ?_) (a' := ?_) r35 rfl rfl (by kernel_rfl) (fun _ _ _ h => h) (Or.inl ⟨by rfl, ?_⟩) ?_ ?_
  rotate_left
  · intro w'
    go_simp
    with_reducible rfl
  rotate_left
  · simp only [Act.put, List.setIfInBounds_toArray, List.set_cons_zero, List.set_cons_succ, i64_w, i32_w]
    rfl
  refine pure_ (i := 8) (N := some 77) (v := ?_) (a' := ?_) r36 rfl rfl (by kernel_rfl) (fun _ _ _ h => h) (Or.inl ⟨by rfl, ?_⟩) ?_ ?_
  rotate_left
  · intro w'
    go_simp
    with_reducible rfl
  rotate_left
  · simp only [Act.put, List.setIfInBounds_toArray, List.set_cons_zero, List.set_cons_succ, i64_w, i32_w]
    rfl
  refine pure_ (i := 10) (N := some 79) (v := ?_) (a' := ?_) r37 rfl rfl (by kernel_rfl) (fun _ _ _ h => h) (Or.inl ⟨by rfl, ?_⟩) ?_ ?_
  rotate_left
  · intro w'
    go_simp
    with_reducible rfl
  rotate_left
  · simp only [Act.put, List.setIfInBounds_toArray, List.set_cons_zero, List.set_cons_succ, i64_w, i32_w]
    rfl
  refine take_ (i := 4) (N := some 73) (v := ?_) (a' := ?_) r38 rfl rfl (by kernel_rfl) (fun _ _ _ h => h) (Or.inl ⟨by rfl, ?_⟩) hHeld ?_ ?_
  rotate_left
  · rintro w' ⟨s0, s1, s2, s3⟩
    go_simp
    with_reducible rfl
  rotate_left
  · simp only [Act.put, List.setIfInBounds_toArray, List.set_cons_zero, List.set_cons_succ, i64_w, i32_w]
    rfl
  refine take_ (i := 11) (N := some 80) (v := ?_) (a' := ?_) r39 rfl rfl (by kernel_rfl) (fun _ _ _ h => h) (Or.inl ⟨by rfl, ?_⟩) hHeld ?_ ?_
  rotate_left
  · rintro w' ⟨s0, s1, s2, s3⟩
    go_simp
    with_reducible rfl
  rotate_left
  · simp only [Act.put, List.setIfInBounds_toArray, List.set_cons_zero, List.set_cons_succ, i64_w, i32_w]
    rfl
  refine take_ (i := 14) (N := some 83) (v := ?_) (a' := ?_) r40 rfl rfl (by kernel_rfl) (fun _ _ _ h => h) (Or.inl ⟨by rfl, ?_⟩) hHeld ?_ ?_
  rotate_left
  · rintro w' ⟨s0, s1, s2, s3⟩
    go_simp
    with_reducible rfl
  rotate_left
  · simp only [Act.put, List.setIfInBounds_toArray, List.set_cons_zero, List.set_cons_succ, i64_w, i32_w]
    rfl
  refine join_ (σ := Unit) 7 r41 (fun _ => [(78, .slice A (out xs x).length cc), (81, .slice (some ⟨gx, 0, none⟩) 1 1)]) (fun _ w2 => w2 = W7) ?_ ?_
  rotate_left
  · intro hCont
    refine two_ (i := 9) (j := 12) (Ni := some 78) (Nj := some 81) r42 r43 rfl rfl rfl rfl (by kernel_rfl) (by decide) (by decide) (fun K hK => ?_) (fun K hK => ?_)
    · skip
      refine value_ (w1 := ?_) (v := ?_) (by rfl) rfl ?_ ?_
      rotate_left 2
      · go_simp
        constructor
        · rfl
        · rfl
      refine hK.out _ _ ⟨(HALL6.out _ (below_drew1 (Below.refl W6.heap.size W6))).1, (HALL6.out _ (below_drew1 (Below.refl W6.heap.size W6))).2.1, (HALL6.out _ (below_drew1 (Below.refl W6.heap.size W6))).2.2.1, (HALL6.out _ (below_drew1 (Below.refl W6.heap.size W6))).2.2.2⟩ (fun hHeld => ?_)
      clear hK K
      refine norm_ (a' := ?_) ?_ ?_
      rotate_left
      · show Act.put _ (some 78) _ = _
        simp only [Act.put, List.setIfInBounds_toArray, List.set_cons_zero, List.set_cons_succ, i64_w, i32_w]
        rfl
      refine one_ (i := 12) (N := some 81) r41 rfl rfl (by kernel_rfl) (by decide) (fun K hK => ?_)
      refine value_ (w1 := ?_) (v := ?_) (by rfl) rfl ?_ ?_
      rotate_left 2
      · go_simp
        constructor
        · rfl
        · rfl
      rw [← HW7.out]
      try rw [← HGX7.out]
      refine hK.out _ _ ⟨(HALL6.out _ (HB67.out)).1, (HALL6.out _ (HB67.out)).2.1, (HALL6.out _ (HB67.out)).2.2.1, (HALL6.out _ (HB67.out)).2.2.2⟩ (fun hHeld => ?_)
      clear hK K
      refine norm_ (a' := ?_) ?_ ?_
      rotate_left
      · show Act.put _ (some 81) _ = _
        simp only [Act.put, List.setIfInBounds_toArray, List.set_cons_zero, List.set_cons_succ, i64_w, i32_w]
        rfl
      exact norm_ (by simp only [putAll, Act.put, List.setIfInBounds_toArray, List.set_cons_zero, List.set_cons_succ]) (hCont () _ rfl)
    · skip
      refine value_ (w1 := ?_) (v := ?_) (by rfl) rfl ?_ ?_
      rotate_left 2
      · go_simp
        constructor
        · rfl
        · rfl
      rw [← HW7.out]
      try rw [← HGX7.out]
      refine hK.out _ _ ⟨(HALL6.out _ (HB67.out)).1, (HALL6.out _ (HB67.out)).2.1, (HALL6.out _ (HB67.out)).2.2.1, (HALL6.out _ (HB67.out)).2.2.2⟩ (fun hHeld => ?_)
      clear hK K
      refine norm_ (a' := ?_) ?_ ?_
      rotate_left
      · show Act.put _ (some 81) _ = _
        simp only [Act.put, List.setIfInBounds_toArray, List.set_cons_zero, List.set_cons_succ, i64_w, i32_w]
        rfl
      refine one_ (i := 9) (N := some 78) r41 rfl rfl (by kernel_rfl) (by decide) (fun K hK => ?_)
      refine value_ (w1 := ?_) (v := ?_) (by rfl) rfl ?_ ?_
      rotate_left 2
      · go_simp
        constructor
        · rfl
        · rfl
      refine hK.out _ _ ⟨(HALL6.out _ (HB67.out)).1, (HALL6.out _ (HB67.out)).2.1, (HALL6.out _ (HB67.out)).2.2.1, (HALL6.out _ (HB67.out)).2.2.2⟩ (fun hHeld => ?_)
      clear hK K
      refine norm_ (a' := ?_) ?_ ?_
      rotate_left
      · show Act.put _ (some 78) _ = _
        simp only [Act.put, List.setIfInBounds_toArray, List.set_cons_zero, List.set_cons_succ, i64_w, i32_w]
        rfl
      exact norm_ (by simp only [putAll, Act.put, List.setIfInBounds_toArray, List.set_cons_zero, List.set_cons_succ]) (hCont () _ rfl)
  rintro ⟨⟩ w2 hw2
  rw [hw2]
  clear hw2 w2
  have hHeld : W7.cell? ⟨gt, 2, none⟩ = some (.map (some mb)) ∧ W7.cell? ⟨gb, 0, none⟩ = some (.int .i64 x.f0) ∧ W7.cell? ⟨gb, 1, none⟩ = some (.int .u64 at_) ∧ W7.cell? ⟨gb, 2, none⟩ = some (.int .u64 (ord + 1)) := ⟨(HALL6.out _ (HB67.out)).1, (HALL6.out _ (HB67.out)).2.1, (HALL6.out _ (HB67.out)).2.2.1, (HALL6.out _ (HB67.out)).2.2.2⟩
  refine norm_ (a' := ?_) ?_ ?_
  rotate_left
  · simp only [putAll, Act.put, List.setIfInBounds_toArray, List.set_cons_zero, List.set_cons_succ]
    rfl
  refine one_ (i := 13) (N := some 82) r44 rfl rfl (by kernel_rfl) (by decide) (fun K hK => ?_)
  refine goes_ Try.func30 (by kernel_rfl) rfl #[.slice A (out xs x).length cc, .int .i64 (ix (out xs x) (⟨x.f0, at_, ord + 1⟩ : S63)), .slice (some ⟨gx, 0, none⟩) 1 1] (by rfl) rfl rfl (by simp only [List.map_toArray, List.map_cons, List.map_nil]; rfl) ?_
  with_reducible refine (Insert.calls B gx 1 (ix (out xs x) (⟨x.f0, at_, ord + 1⟩ : S63)) (.slice A (out xs x).length cc) (out xs x) (⟨x.f0, at_, ord + 1⟩ : S63) W7 HT7.out.row (ix_le _ _) NEW7.out HNX.out HT7.out.base HT7.out.small).mono ?_
  rintro e W8 ⟨v8, rfl, hr8, hb8, ho8, hloc⟩
  have hg8 := (ho8 gt HT7.out.lt HGX.out).trans HT7C.out
  have hb8x := (ho8 gb (blk_lt HBK7.out) (HOLD.out gb (by rw [HGB.out]; exact Nat.le_refl _))).trans HBK7.out
  have hr8 : TRow W8 B v8 (ins (out xs x) (⟨x.f0, at_, ord + 1⟩ : S63)) := hr8
  obtain ⟨A8, c8, rfl, -, -⟩ := Kd.R_reads hr8.toR
  have q1 : W8.cell? ⟨gt, 1, none⟩ = some (.slice A (out xs x).length cc) := (blk_cell hg8 1).trans rfl
  have q2 : W8.frozen? ⟨gt, 1, none⟩ = false := blk_frozen hg8 1
  refine ⟨_, rfl, ?_⟩
  refine hK.out _ _ ⟨(blk_cell hg8 2).trans rfl, (blk_cell hb8x 0).trans rfl, (blk_cell hb8x 1).trans rfl, (blk_cell hb8x 2).trans rfl⟩ (fun hHeld => ?_)
  clear hK K
  refine norm_ (a' := ?_) ?_ ?_
  rotate_left
  · show Act.put _ (some 82) _ = _
    simp only [Act.put, List.setIfInBounds_toArray, List.set_cons_zero, List.set_cons_succ, i64_w, i32_w]
    rfl
  refine pure_ (i := 15) (N := some 84) (v := ?_) (a' := ?_) r45 rfl rfl (by kernel_rfl) (fun _ _ _ h => h) (Or.inl ⟨by rfl, ?_⟩) ?_ ?_
  rotate_left
  · intro w'
    go_simp
    with_reducible rfl
  rotate_left
  · simp only [Act.put, List.setIfInBounds_toArray, List.set_cons_zero, List.set_cons_succ, i64_w, i32_w]
    rfl
  refine pure_ (i := 16) (N := some 85) (v := ?_) (a' := ?_) r46 rfl rfl (by kernel_rfl) (fun _ _ _ h => h) (Or.inl ⟨by rfl, ?_⟩) ?_ ?_
  rotate_left
  · intro w'
    go_simp
    with_reducible rfl
  rotate_left
  · simp only [Act.put, List.setIfInBounds_toArray, List.set_cons_zero, List.set_cons_succ, i64_w, i32_w]
    rfl
  refine one_ (i := 17) (N := none) r47 rfl rfl (by kernel_rfl) (by decide) (fun K hK => ?_)
  refine skip_ (w1 := ?_) (by rfl) rfl ?_ ?_
  rotate_left
  · go_simp
    rfl
  obtain ⟨p1, p2, p3, p4, p5⟩ := Whl.put1 hg8 hr8 HBG.out.1
  obtain ⟨W9, hW9⟩ : ∃ W, W = W8.setCell ⟨gt, 1, none⟩ (.slice A8 (ins (out xs x) (⟨x.f0, at_, ord + 1⟩ : S63)).length c8) := ⟨_, rfl⟩
  rw [← hW9] at p1 p2 p3 p4 p5
  try rw [← hW9]
  clear hW9
  have hb9 := (p3 gb HGN.out.1).trans hb8x
  obtain ⟨es1, c1m, stm, hE, hS⟩ := (MapIs.kept (w' := W9) HT7.out.mapIs ((p3 mb HBG.out.2.2).trans (ho8 mb HT7.out.mapIs.lt HMX.out))).put HWP.out.1 (x := (⟨x.f0, at_, ord + 1⟩ : S63)) (ys := ins (out xs x) (⟨x.f0, at_, ord + 1⟩ : S63)) HO.out HXX.out (fun y => ins_mem (out xs x) (⟨x.f0, at_, ord + 1⟩ : S63) y)
  have hm9 := MapIs.kept (w' := W9) HT7.out.mapIs ((p3 mb HBG.out.2.2).trans (ho8 mb HT7.out.mapIs.lt HMX.out))
  have hml9 : mb < W9.heap.size := by rw [p5]; exact Nat.lt_of_lt_of_le HT7.out.mapIs.lt hb8.size
  obtain ⟨es2, hE2, hfin⟩ := hS _ (setBlock_same (.map es1 c1m) hml9)
  refine hK.out _ _ ⟨(blk_cell p1 2).trans rfl, (blk_cell hb9 0).trans rfl, (blk_cell hb9 1).trans rfl, (blk_cell hb9 2).trans rfl⟩ (fun hHeld => ?_)
  clear hK K
  refine one_ (i := 18) (N := some 86) r48 rfl rfl (by kernel_rfl) (by decide) (fun K hK => ?_)
  refine value_ (w1 := _) (v := _) (by rfl) rfl (exec_mapEntry rfl rfl rfl hE) ?_
  have hb10 := (setBlock_other W9 (.map es1 c1m) HGN.out.2).trans hb9
  have hg10 := (setBlock_other W9 (.map es1 c1m) (Ne.symm HBG.out.2.2)).trans p1
  refine hK.out _ _ ⟨(blk_cell hg10 2).trans rfl, (blk_cell hb10 0).trans rfl, (blk_cell hb10 1).trans rfl, (blk_cell hb10 2).trans rfl⟩ (fun hHeld => ?_)
  clear hK K
  refine norm_ (a' := ?_) ?_ ?_
  rotate_left
  · show Act.put _ (some 86) _ = _
    simp only [Act.put, List.setIfInBounds_toArray, List.set_cons_zero, List.set_cons_succ, i64_w, i32_w]
    rfl
  refine pure_ (i := 19) (N := some 87) (v := ?_) (a' := ?_) r49 rfl rfl (by kernel_rfl) (fun _ _ _ h => h) (Or.inl ⟨by rfl, ?_⟩) ?_ ?_
  rotate_left
  · intro w'
    go_simp
    with_reducible rfl
  rotate_left
  · simp only [Act.put, List.setIfInBounds_toArray, List.set_cons_zero, List.set_cons_succ, i64_w, i32_w]
    rfl
  refine last_ (i := 20) (N := none) r50 rfl rfl (by kernel_rfl) (by decide) (fun K hK => ?_)
  refine skip_ (w1 := _) (by rfl) rfl (exec_entryStore rfl rfl rfl rfl hE2) ?_
  refine hK.out _ _ ?_
  clear hK K
  refine done_ (by kernel_rfl) ?_

  go_wp2
  go_ret
  have hmbl : mb < (Go.ChangeMaps.setBlock W9 mb (.map es1 c1m)).heap.size := by rw [setBlock_size]; exact hml9
  have hs56 := below_size HB6.out
  have hs67 := below_size HB67.out
  refine ⟨rfl, _, ⟨(setBlock_other _ _ (Ne.symm HBG.out.2.2)).trans hg10, p2.moved (fun k hk => ?_), hfin _ (setBlock_same _ hmbl), HBG.out.1, HBG.out.2.1, by rw [ins_len]; exact hsm⟩, ?_, ?_, ?_⟩
  · have hne : k ≠ mb := fun e => p2.not_map hm9 (by rw [← e]; exact hk.symm)
    exact (setBlock_other _ _ hne).trans (setBlock_other _ _ hne)
  · exact below_setBlock (below_setBlock (p4 w (Below.trans (Below.trans (Below.trans HB5.out (HB6.out.mono HT5.out.base)) (HB67.out.mono HT6.out.base)) hb8)) HBG.out.2.1 _) HBG.out.2.1 _
  · intro k hk h1 h2 h3
    have hk1 : k < W1.heap.size := Nat.lt_of_lt_of_le hk HSZ.out
    have hk5 : k < W5.heap.size := Nat.lt_of_lt_of_le hk1 HSZ5.out
    have hown : some k ≠ (Value.slice A (out xs x).length cc).ownBlock := by
      rcases HA.out with e | ⟨j, e, hj⟩
      · rw [e]; exact h3
      · rw [e]
        intro h
        injection h with h
        omega
    exact (setBlock_other _ _ h2).trans ((setBlock_other _ _ h2).trans ((p3 k h1).trans ((ho8 k (by omega) hown).trans ((HB67.out.block k (by omega)).trans ((HB6.out.block k hk5).trans ((HF5.out k hk1 h1).trans (HF.out k hk h1 h2 h3)))))))
  · rcases hloc with e | e
    · rcases HA.out with e2 | ⟨j, e2, hj⟩
      · exact .inl (e.trans e2)
      · exact .inr ⟨j, e.trans e2, hj⟩
    · refine .inr ⟨_, e, ?_⟩
      have := HSZ.out
      have := HSZ5.out
      omega

end Go.Proofs.Ytgfekeicgcnjfaa.GA.I
