/- The table, written. No condition. -/
import Derived.Test.YtghgadfcnggapaaU6
import Derived.Laws.CopyOwn
import Derived.Laws.CopyRow
import Derived.ChangeKeysEq
import Derived.Deep.RegionHeld3
import Derived.Deep.MidRow
import Derived.Shelf.Abstract
import Derived.Lib.Overlaps
import Derived.Lib.AppendZerosOnto
import Derived.Shelf.Spec.SlicesInsertGrow
namespace Go.Proofs.Ytghgadfcnggapaa.GA.U
open Go.RowKit Go.Shelf Go.Proofs.YtghgadfcnggapaaW.PrintWords Go.Proofs.YtghgadfcnggapaaW.PrintLast Go.Proofs.YtghgadfcnggapaaW.PrintMore
set_option linter.unusedVariables false
set_option linter.unusedSimpArgs false

theorem TRow.apart {w : World} {B : Nat} {v : Value} {xs : List S56} (h : TRow w B v xs) {k : Nat} {cells : Array Value} {q : Nat} (hq : q ≠ 56) (hk : w.heap[k]? = some (.cells cells q (0, 0))) : some k ≠ v.ownBlock := by
  intro e
  obtain ⟨c2, h2⟩ := own_typed h k e.symm
  rw [h2] at hk
  injection hk with hk
  injection hk with _ hk
  exact hq hk.symm
theorem TRow.own_lt {w : World} {B : Nat} {v : Value} {xs : List S56} (h : TRow w B v xs) : some w.heap.size ≠ v.ownBlock := by
  intro e
  obtain ⟨c2, h2⟩ := own_typed h _ e.symm
  exact absurd (blk_lt h2) (Nat.lt_irrefl _)
theorem TRow.alloc {w : World} {B : Nat} {v : Value} {xs : List S56} (h : TRow w B v xs) (o : Obj) : TRow (w.alloc o) B v xs := own_alloc h o
def ins (xs : List S56) (i : Nat) (x : S56) : List S56 := xs.take i ++ x :: xs.drop i
theorem ins_len (xs : List S56) (i : Nat) (x : S56) (h : i ≤ xs.length) : (ins xs i x).length = xs.length + 1 := by
  unfold ins
  simp
  omega
theorem Insert.fresh (B i gt : Nat) (most : Int) (v : Value) (xs : List S56) (x : S56) (w : World) (hT : Tab w gt most B v xs) (hi : i ≤ xs.length) :
    Calls Try.prog 26 #[v, .int .i64 i, .slice (some ⟨w.heap.size, 0, none⟩) 1 1] (w.alloc (.cells #[.string x.f0, .int .i64 x.f1] 56)).drew fun e w' => ∃ v', e = .returned v' ∧ TRow w' B v' (ins xs i x) ∧ Below B w w' ∧ FrT w w' ∧ w'.heap[gt]? = some (.cells #[.int .i64 most, v] 53 (0, 0)) ∧ w.heap.size ≤ w'.heap.size := by
  have hB := hT.base
  have hR := hT.2.1
  refine (Insert.calls B w.heap.size 1 i v xs x _ (TRow.ofR (Kd.R_drew (hR.alloc _).toR)) hi (blk_new w _) hR.own_lt (Nat.le_trans hB (Nat.le_of_lt (by show w.heap.size < (w.alloc _).heap.size; rw [World.size_alloc]; omega))) hT.small).mono ?_
  rintro e w' ⟨v', rfl, h1, h2, h3⟩
  have hb0 : Below w.heap.size w (w.alloc (.cells #[.string x.f0, .int .i64 x.f1] 56)).drew := below_drew (below_alloc (Below.refl _ _) _)
  have hs0 : w.heap.size < (w.alloc (.cells #[.string x.f0, .int .i64 x.f1] 56)).drew.heap.size := by
    show w.heap.size < (w.alloc _).heap.size
    rw [World.size_alloc]
    omega
  have hold : ∀ k, k < w.heap.size → some k ≠ v.ownBlock → w'.heap[k]? = w.heap[k]? := fun k hk hne => (h3 k (Nat.lt_trans hk hs0) hne).trans (hb0.block k hk)
  refine ⟨v', rfl, h1, ?_, fun k cells q h44 h64 hk => hold k (blk_lt hk) (hR.apart h64 hk), (hold gt hT.lt (hR.apart (by decide) hT.1)).trans hT.1, Nat.le_trans hb0.size h2.size⟩
  exact Below.trans ⟨hb0.os, hb0.tape, hb0.output, hb0.size, fun k hk => hb0.block k (Nat.lt_of_lt_of_le hk hB)⟩ h2
theorem Tab.put {w : World} {gt : Nat} {most : Int} {B : Nat} {v v' : Value} {xs : List S56} (hh : w.heap[gt]? = some (.cells #[.int .i64 most, v] 53 (0, 0))) (hR : TRow w B v' xs) (hB : B ≤ gt) (h1 : 1 ≤ most) (h2 : most ≤ 1000000) (h3 : (xs.length : Int) ≤ most) :
    Tab (w.setCell ⟨gt, 1, none⟩ v') gt most B v' xs ∧ FrT w (w.setCell ⟨gt, 1, none⟩ v') ∧ (∀ w0, Below B w0 w → Below B w0 (w.setCell ⟨gt, 1, none⟩ v')) ∧ (w.setCell ⟨gt, 1, none⟩ v').heap.size = w.heap.size := by
  rw [setCell_eq_setRow w gt 1 _ 53 (0, 0) v' hh]
  refine ⟨⟨setRow_heap w gt _ _ 53 (0, 0) hh, hR.moved (fun k hk => setRow_other w gt k _ (fun e => ?_)), hB, h1, h2, h3⟩, fun k cells q h44 h64 hk => setRow_other w gt k _ (fun e => ?_), fun w0 hb => below_setRow hb hB _, size_setRow _ _ _⟩
  · subst e
    exact hR.apart (by decide) hh hk.symm
  · subst e
    rw [hh] at hk
    injection hk with hk
    injection hk with _ hk
    exact h44 hk.symm
theorem Tab.nil_ (w : World) (B : Nat) : TRow w B (.slice none 0 0) [] := ⟨rfl, .inl ⟨rfl, rfl⟩⟩

set_option maxHeartbeats 8000000 in
set_option maxRecDepth 100000 in
theorem New.calls (most : Int) (w : World) (h1 : 1 ≤ most) (h2 : most ≤ 1000000) : Calls Try.prog 6 #[.int .i64 most] w fun e w' => e = .returned (.pointer (some ⟨w.heap.size, 0, none⟩)) ∧ Tab w' w.heap.size most w.heap.size (.slice none 0 0) [] ∧ Below w.heap.size w w' ∧ w.heap.size < w'.heap.size := by
  have d0 : decide (most < 1) = false := decide_eq_false (by omega)
  go_enter Try.func6, Try.ntmps6
  go_wp2
  go_ret
  exact ⟨rfl, ⟨blk_new w _, Tab.nil_ _ _, Nat.le_refl _, h1, h2, by simp; omega⟩, below_alloc (Below.refl _ _) _, by rw [World.size_alloc]; omega⟩
theorem New.none_ (most : Int) (w : World) (h1 : most < 1) : Calls Try.prog 6 #[.int .i64 most] w fun e w' => e = .returned (.pointer none) ∧ Below w.heap.size w w' := by
  have d0 : decide (most < 1) = true := decide_eq_true h1
  have HB := Aside0.mk (Below.refl w.heap.size w)
  go_enter Try.func6, Try.ntmps6
  go_wp2
  go_ret
  exact ⟨rfl, by repeat (first | (with_reducible first | exact HB.out | apply below_alloc | apply pw_below_drewN | apply below_drew1) | exact HB.out)⟩

set_option maxHeartbeats 8000000 in
set_option maxRecDepth 100000 in
theorem Add.twice (gt : Nat) (most : Int) (B : Nat) (v : Value) (xs : List S56) (k : ByteArray) (x : Int) (w : World) (hT : Tab w gt most B v xs) (hk : hit xs k = true) : Calls Try.prog 7 #[.pointer (some ⟨gt, 0, none⟩), .string k, .int .i64 x] w fun e w' => e = .returned (.int .i64 8) ∧ Below w.heap.size w w' := by
  have HB := Aside0.mk (Below.refl w.heap.size w)
  have HT := Aside0.mk hT
  have HBB := Aside0.mk hT.base
  clear hT
  have HK := Aside0.mk hk
  clear hk
  go_enter Try.func7, Try.ntmps7
  go_wp2_with (first
    | (go_at_call 25; with_reducible refine (noneT.calls gt most B v xs _ HT.out).mono ?_; rintro e w' ⟨rfl, hb⟩; have n9_ := Aside0.mk (Tab.below (by with_reducible exact HT.out) hb); have n8_ := Aside0.mk (below_step (by repeat (first | (with_reducible first | exact HB.out | apply below_alloc | apply pw_below_drewN | apply below_drew1) | exact HB.out)) hb); clear HT HB hb; have HT := n9_; have HB := n8_; clear n9_ n8_)
    | (go_at_call 24; with_reducible refine (find.calls gt most B v xs k _ HT.out).mono ?_; rw [HK.out]; rintro e w' ⟨rfl, hb⟩; have n9_ := Aside0.mk (Tab.below (by with_reducible exact HT.out) hb); have n8_ := Aside0.mk (below_step (by repeat (first | (with_reducible first | exact HB.out | apply below_alloc | apply pw_below_drewN | apply below_drew1) | exact HB.out)) hb); clear HT HB hb; have HT := n9_; have HB := n8_; clear n9_ n8_))
  go_ret
  exact ⟨rfl, by repeat (first | (with_reducible first | exact HB.out | apply below_alloc | apply pw_below_drewN | apply below_drew1) | exact HB.out)⟩

set_option maxHeartbeats 8000000 in
set_option maxRecDepth 100000 in
theorem Add.full (gt : Nat) (most : Int) (B : Nat) (v : Value) (xs : List S56) (k : ByteArray) (x : Int) (w : World) (hT : Tab w gt most B v xs) (hk : hit xs k = false) (hf : most ≤ (xs.length : Int)) : Calls Try.prog 7 #[.pointer (some ⟨gt, 0, none⟩), .string k, .int .i64 x] w fun e w' => e = .returned (.int .i64 10) ∧ Below w.heap.size w w' := by
  have HB := Aside0.mk (Below.refl w.heap.size w)
  have HT := Aside0.mk hT
  have HBB := Aside0.mk hT.base
  clear hT
  have HK := Aside0.mk hk
  clear hk
  have d0 : decide (most ≤ (xs.length : Int)) = true := decide_eq_true hf
  clear hf
  go_enter Try.func7, Try.ntmps7
  go_upto_region 6 with (first | (go_at_call 25; with_reducible refine (noneT.calls gt most B v xs _ HT.out).mono ?_; rintro e w' ⟨rfl, hb⟩; have n9_ := Aside0.mk (Tab.below (by with_reducible exact HT.out) hb); have n8_ := Aside0.mk (below_step (by repeat (first | (with_reducible first | exact HB.out | apply below_alloc | apply pw_below_drewN | apply below_drew1) | exact HB.out)) hb); clear HT HB hb; have HT := n9_; have HB := n8_; clear n9_ n8_) | (go_at_call 24; with_reducible refine (find.calls gt most B v xs k _ HT.out).mono ?_; rw [HK.out]; rintro e w' ⟨rfl, hb⟩; have n9_ := Aside0.mk (Tab.below (by with_reducible exact HT.out) hb); have n8_ := Aside0.mk (below_step (by repeat (first | (with_reducible first | exact HB.out | apply below_alloc | apply pw_below_drewN | apply below_drew1) | exact HB.out)) hb); clear HT HB hb; have HT := n9_; have HB := n8_; clear n9_ n8_))
  obtain ⟨A, c, rfl, hc, hC⟩ := HT.out.slice
  have c0 := HT.out.c0
  have c1 := HT.out.c1
  clear hC
  refine start_ (n := 11) (S := fun w' => w'.cell? ⟨gt, 0, none⟩ = some (.int .i64 most) ∧ w'.cell? ⟨gt, 1, none⟩ = some (.slice A xs.length c)) (ds := []) #[false, false, false, false, false, false, false, false, false, false, false] (by kernel_rfl) rfl rfl ⟨c0, c1⟩ (fun hHeld => ?_)
  refine pure_ (i := 0) (N := some 21) (v := ?_) (a' := ?_) #[true, false, false, false, false, false, false, false, false, false, false] rfl rfl (by kernel_rfl) (fun _ _ _ h => h) (Or.inl ⟨by rfl, ?_⟩) ?_ ?_
  rotate_left
  · intro w'
    go_simp
    with_reducible rfl
  rotate_left
  · simp only [Act.put, List.setIfInBounds_toArray, List.set_cons_zero, List.set_cons_succ, i64_w, i32_w]
    rfl
  refine pure_ (i := 1) (N := some 22) (v := ?_) (a' := ?_) #[true, true, false, false, false, false, false, false, false, false, false] rfl rfl (by kernel_rfl) (fun _ _ _ h => h) (Or.inl ⟨by rfl, ?_⟩) ?_ ?_
  rotate_left
  · intro w'
    go_simp
    with_reducible rfl
  rotate_left
  · simp only [Act.put, List.setIfInBounds_toArray, List.set_cons_zero, List.set_cons_succ, i64_w, i32_w]
    rfl
  refine pure_ (i := 2) (N := some 23) (v := ?_) (a' := ?_) #[true, true, true, false, false, false, false, false, false, false, false] rfl rfl (by kernel_rfl) (fun _ _ _ h => h) (Or.inl ⟨by rfl, ?_⟩) ?_ ?_
  rotate_left
  · intro w'
    go_simp
    with_reducible rfl
  rotate_left
  · simp only [Act.put, List.setIfInBounds_toArray, List.set_cons_zero, List.set_cons_succ, i64_w, i32_w]
    rfl
  refine pure_ (i := 5) (N := some 26) (v := ?_) (a' := ?_) #[true, true, true, false, false, true, false, false, false, false, false] rfl rfl (by kernel_rfl) (fun _ _ _ h => h) (Or.inl ⟨by rfl, ?_⟩) ?_ ?_
  rotate_left
  · intro w'
    go_simp
    with_reducible rfl
  rotate_left
  · simp only [Act.put, List.setIfInBounds_toArray, List.set_cons_zero, List.set_cons_succ, i64_w, i32_w]
    rfl
  refine pure_ (i := 6) (N := some 27) (v := ?_) (a' := ?_) #[true, true, true, false, false, true, true, false, false, false, false] rfl rfl (by kernel_rfl) (fun _ _ _ h => h) (Or.inl ⟨by rfl, ?_⟩) ?_ ?_
  rotate_left
  · intro w'
    go_simp
    with_reducible rfl
  rotate_left
  · simp only [Act.put, List.setIfInBounds_toArray, List.set_cons_zero, List.set_cons_succ, i64_w, i32_w]
    rfl
  refine pure_ (i := 7) (N := some 28) (v := ?_) (a' := ?_) #[true, true, true, false, false, true, true, true, false, false, false] rfl rfl (by kernel_rfl) (fun _ _ _ h => h) (Or.inl ⟨by rfl, ?_⟩) ?_ ?_
  rotate_left
  · intro w'
    go_simp
    with_reducible rfl
  rotate_left
  · simp only [Act.put, List.setIfInBounds_toArray, List.set_cons_zero, List.set_cons_succ, i64_w, i32_w]
    rfl
  refine take_ (i := 3) (N := some 24) (v := ?_) (a' := ?_) #[true, true, true, true, false, true, true, true, false, false, false] rfl rfl (by kernel_rfl) (fun _ _ _ h => h) (Or.inl ⟨by rfl, ?_⟩) hHeld ?_ ?_
  rotate_left
  · rintro w' ⟨s0, s1⟩
    go_simp
    with_reducible rfl
  rotate_left
  · simp only [Act.put, List.setIfInBounds_toArray, List.set_cons_zero, List.set_cons_succ, i64_w, i32_w]
    rfl
  refine pure_ (i := 4) (N := some 25) (v := ?_) (a' := ?_) #[true, true, true, true, true, true, true, true, false, false, false] rfl rfl (by kernel_rfl) (fun _ _ _ h => h) (Or.inl ⟨by rfl, ?_⟩) ?_ ?_
  rotate_left
  · intro w'
    go_simp
    with_reducible rfl
  rotate_left
  · simp only [Act.put, List.setIfInBounds_toArray, List.set_cons_zero, List.set_cons_succ, i64_w, i32_w]
    rfl
  refine take_ (i := 8) (N := some 29) (v := ?_) (a' := ?_) #[true, true, true, true, true, true, true, true, true, false, false] rfl rfl (by kernel_rfl) (fun _ _ _ h => h) (Or.inl ⟨by rfl, ?_⟩) hHeld ?_ ?_
  rotate_left
  · rintro w' ⟨s0, s1⟩
    go_simp
    with_reducible rfl
  rotate_left
  · simp only [Act.put, List.setIfInBounds_toArray, List.set_cons_zero, List.set_cons_succ, i64_w, i32_w]
    rfl
  refine pure_ (i := 9) (N := some 30) (v := ?_) (a' := ?_) #[true, true, true, true, true, true, true, true, true, true, false] rfl rfl (by kernel_rfl) (fun _ _ _ h => h) (Or.inl ⟨by rfl, ?_⟩) ?_ ?_
  rotate_left
  · intro w'
    go_simp
    with_reducible rfl
  rotate_left
  · simp only [Act.put, List.setIfInBounds_toArray, List.set_cons_zero, List.set_cons_succ, i64_w, i32_w]
    rfl
  refine pure_ (i := 10) (N := some 20) (v := ?_) (a' := ?_) #[true, true, true, true, true, true, true, true, true, true, true] rfl rfl (by kernel_rfl) (fun _ _ _ h => h) (Or.inl ⟨by rfl, ?_⟩) ?_ ?_
  rotate_left
  · intro w'
    go_simp
    with_reducible rfl
  rotate_left
  · simp only [Act.put, List.setIfInBounds_toArray, List.set_cons_zero, List.set_cons_succ, i64_w, i32_w]
    rfl
  refine done_ (by kernel_rfl) ?_

  go_wp2
  go_ret
  exact ⟨rfl, by repeat (first | (with_reducible first | exact HB.out | apply below_alloc | apply pw_below_drewN | apply below_drew1) | exact HB.out)⟩

set_option maxHeartbeats 8000000 in
set_option maxRecDepth 100000 in
theorem Add.ok (gt : Nat) (most : Int) (B : Nat) (v : Value) (xs : List S56) (k : ByteArray) (x : Int) (w : World) (hT : Tab w gt most B v xs) (hk : hit xs k = false) (hf : (xs.length : Int) < most) : Calls Try.prog 7 #[.pointer (some ⟨gt, 0, none⟩), .string k, .int .i64 x] w fun e w' => ∃ v', e = .returned (.int .i64 0) ∧ Tab w' gt most B v' (ins xs (ix xs k) ⟨k, x⟩) ∧ Below B w w' ∧ FrT w w' ∧ w.heap.size ≤ w'.heap.size := by
  have HB := Aside0.mk (Below.refl w.heap.size w)
  have HT := Aside0.mk hT
  have HBB := Aside0.mk hT.base
  clear hT
  have HK := Aside0.mk hk
  clear hk
  have d0 : decide (most ≤ (xs.length : Int)) = false := decide_eq_false (by omega)
  have HL := Aside0.mk hf
  clear hf
  go_enter Try.func7, Try.ntmps7
  go_upto_region 6 with (first | (go_at_call 25; with_reducible refine (noneT.calls gt most B v xs _ HT.out).mono ?_; rintro e w' ⟨rfl, hb⟩; have n9_ := Aside0.mk (Tab.below (by with_reducible exact HT.out) hb); have n8_ := Aside0.mk (below_step (by repeat (first | (with_reducible first | exact HB.out | apply below_alloc | apply pw_below_drewN | apply below_drew1) | exact HB.out)) hb); clear HT HB hb; have HT := n9_; have HB := n8_; clear n9_ n8_) | (go_at_call 24; with_reducible refine (find.calls gt most B v xs k _ HT.out).mono ?_; rw [HK.out]; rintro e w' ⟨rfl, hb⟩; have n9_ := Aside0.mk (Tab.below (by with_reducible exact HT.out) hb); have n8_ := Aside0.mk (below_step (by repeat (first | (with_reducible first | exact HB.out | apply below_alloc | apply pw_below_drewN | apply below_drew1) | exact HB.out)) hb); clear HT HB hb; have HT := n9_; have HB := n8_; clear n9_ n8_))
  obtain ⟨A, c, rfl, hc, hC⟩ := HT.out.slice
  have c0 := HT.out.c0
  have c1 := HT.out.c1
  clear hC
  refine start_ (n := 11) (S := fun w' => w'.cell? ⟨gt, 0, none⟩ = some (.int .i64 most) ∧ w'.cell? ⟨gt, 1, none⟩ = some (.slice A xs.length c)) (ds := []) #[false, false, false, false, false, false, false, false, false, false, false] (by kernel_rfl) rfl rfl ⟨c0, c1⟩ (fun hHeld => ?_)
  refine pure_ (i := 0) (N := some 21) (v := ?_) (a' := ?_) #[true, false, false, false, false, false, false, false, false, false, false] rfl rfl (by kernel_rfl) (fun _ _ _ h => h) (Or.inl ⟨by rfl, ?_⟩) ?_ ?_
  rotate_left
  · intro w'
    go_simp
    with_reducible rfl
  rotate_left
  · simp only [Act.put, List.setIfInBounds_toArray, List.set_cons_zero, List.set_cons_succ, i64_w, i32_w]
    rfl
  refine pure_ (i := 1) (N := some 22) (v := ?_) (a' := ?_) #[true, true, false, false, false, false, false, false, false, false, false] rfl rfl (by kernel_rfl) (fun _ _ _ h => h) (Or.inl ⟨by rfl, ?_⟩) ?_ ?_
  rotate_left
  · intro w'
    go_simp
    with_reducible rfl
  rotate_left
  · simp only [Act.put, List.setIfInBounds_toArray, List.set_cons_zero, List.set_cons_succ, i64_w, i32_w]
    rfl
  refine pure_ (i := 2) (N := some 23) (v := ?_) (a' := ?_) #[true, true, true, false, false, false, false, false, false, false, false] rfl rfl (by kernel_rfl) (fun _ _ _ h => h) (Or.inl ⟨by rfl, ?_⟩) ?_ ?_
  rotate_left
  · intro w'
    go_simp
    with_reducible rfl
  rotate_left
  · simp only [Act.put, List.setIfInBounds_toArray, List.set_cons_zero, List.set_cons_succ, i64_w, i32_w]
    rfl
  refine pure_ (i := 5) (N := some 26) (v := ?_) (a' := ?_) #[true, true, true, false, false, true, false, false, false, false, false] rfl rfl (by kernel_rfl) (fun _ _ _ h => h) (Or.inl ⟨by rfl, ?_⟩) ?_ ?_
  rotate_left
  · intro w'
    go_simp
    with_reducible rfl
  rotate_left
  · simp only [Act.put, List.setIfInBounds_toArray, List.set_cons_zero, List.set_cons_succ, i64_w, i32_w]
    rfl
  refine pure_ (i := 6) (N := some 27) (v := ?_) (a' := ?_) #[true, true, true, false, false, true, true, false, false, false, false] rfl rfl (by kernel_rfl) (fun _ _ _ h => h) (Or.inl ⟨by rfl, ?_⟩) ?_ ?_
  rotate_left
  · intro w'
    go_simp
    with_reducible rfl
  rotate_left
  · simp only [Act.put, List.setIfInBounds_toArray, List.set_cons_zero, List.set_cons_succ, i64_w, i32_w]
    rfl
  refine pure_ (i := 7) (N := some 28) (v := ?_) (a' := ?_) #[true, true, true, false, false, true, true, true, false, false, false] rfl rfl (by kernel_rfl) (fun _ _ _ h => h) (Or.inl ⟨by rfl, ?_⟩) ?_ ?_
  rotate_left
  · intro w'
    go_simp
    with_reducible rfl
  rotate_left
  · simp only [Act.put, List.setIfInBounds_toArray, List.set_cons_zero, List.set_cons_succ, i64_w, i32_w]
    rfl
  refine take_ (i := 3) (N := some 24) (v := ?_) (a' := ?_) #[true, true, true, true, false, true, true, true, false, false, false] rfl rfl (by kernel_rfl) (fun _ _ _ h => h) (Or.inl ⟨by rfl, ?_⟩) hHeld ?_ ?_
  rotate_left
  · rintro w' ⟨s0, s1⟩
    go_simp
    with_reducible rfl
  rotate_left
  · simp only [Act.put, List.setIfInBounds_toArray, List.set_cons_zero, List.set_cons_succ, i64_w, i32_w]
    rfl
  refine pure_ (i := 4) (N := some 25) (v := ?_) (a' := ?_) #[true, true, true, true, true, true, true, true, false, false, false] rfl rfl (by kernel_rfl) (fun _ _ _ h => h) (Or.inl ⟨by rfl, ?_⟩) ?_ ?_
  rotate_left
  · intro w'
    go_simp
    with_reducible rfl
  rotate_left
  · simp only [Act.put, List.setIfInBounds_toArray, List.set_cons_zero, List.set_cons_succ, i64_w, i32_w]
    rfl
  refine take_ (i := 8) (N := some 29) (v := ?_) (a' := ?_) #[true, true, true, true, true, true, true, true, true, false, false] rfl rfl (by kernel_rfl) (fun _ _ _ h => h) (Or.inl ⟨by rfl, ?_⟩) hHeld ?_ ?_
  rotate_left
  · rintro w' ⟨s0, s1⟩
    go_simp
    with_reducible rfl
  rotate_left
  · simp only [Act.put, List.setIfInBounds_toArray, List.set_cons_zero, List.set_cons_succ, i64_w, i32_w]
    rfl
  refine pure_ (i := 9) (N := some 30) (v := ?_) (a' := ?_) #[true, true, true, true, true, true, true, true, true, true, false] rfl rfl (by kernel_rfl) (fun _ _ _ h => h) (Or.inl ⟨by rfl, ?_⟩) ?_ ?_
  rotate_left
  · intro w'
    go_simp
    with_reducible rfl
  rotate_left
  · simp only [Act.put, List.setIfInBounds_toArray, List.set_cons_zero, List.set_cons_succ, i64_w, i32_w]
    rfl
  refine pure_ (i := 10) (N := some 20) (v := ?_) (a' := ?_) #[true, true, true, true, true, true, true, true, true, true, true] rfl rfl (by kernel_rfl) (fun _ _ _ h => h) (Or.inl ⟨by rfl, ?_⟩) ?_ ?_
  rotate_left
  · intro w'
    go_simp
    with_reducible rfl
  rotate_left
  · simp only [Act.put, List.setIfInBounds_toArray, List.set_cons_zero, List.set_cons_succ, i64_w, i32_w]
    rfl
  refine done_ (by kernel_rfl) ?_

  go_wp2_with ((go_at_call 26; with_reducible refine (Insert.fresh B (ix xs k) gt most _ xs ⟨k, x⟩ _ HT.out (ix_le xs k)).mono ?_; rintro e w' ⟨v', rfl, hr, hb, hf, hg, hs⟩; obtain ⟨A1, c1_, rfl, -, -⟩ := Kd.R_reads hr.toR); have q1 : w'.cell? ⟨gt, 1, none⟩ = some _ := (blk_cell hg 1).trans rfl; have q2 : w'.frozen? ⟨gt, 1, none⟩ = false := blk_frozen hg 1; have h7 := Aside0.mk hr; have h8 := Aside0.mk hb; have h9 := Aside0.mk hf; have h10 := Aside0.mk hg; have h11 := Aside0.mk hs; clear hr hb hf hg hs)
  go_ret
  have hl := ins_len xs (ix xs k) ⟨k, x⟩ (ix_le xs k)
  obtain ⟨p1, p2, p3, p4⟩ := Tab.put h10.out h7.out HT.out.2.2.1 HT.out.2.2.2.1 HT.out.2.2.2.2.1 (by rw [hl]; have := HL.out; omega)
  exact ⟨_, rfl, p1, p3 w (Below.trans (HB.out.mono HBB.out) h8.out), (FrT.of HB.out).trans (h9.out.trans p2), Nat.le_trans HB.out.size (Nat.le_trans h11.out (Nat.le_of_eq p4.symm))⟩

theorem flat_set : ∀ (xs : List S56) (i : Nat) (s : Int), i < xs.length → (flat xs).set (i * 2 + 1) (.int .i64 s) = flat (xs.set i ⟨(rd_T56 xs (i : Int)).f0, s⟩)
  | [], i, s, h => by simp at h
  | x :: r, 0, s, h => rfl
  | x :: r, i + 1, s, h => by
    have hr : rd_T56 (x :: r) ((i + 1 : Nat) : Int) = rd_T56 r (i : Int) := by
      unfold rd_T56
      rw [Int.toNat_natCast, Int.toNat_natCast]
      rfl
    rw [hr, flat_cons, show (i + 1) * 2 + 1 = i * 2 + 1 + 1 + 1 by omega, List.set_cons_succ, List.set_cons_succ, flat_set r i s (by simpa using h), List.set_cons_succ, flat_cons]
def upd (xs : List S56) (i : Nat) (s : Int) : List S56 := xs.set i ⟨(rd_T56 xs (i : Int)).f0, s⟩
theorem upd_len (xs : List S56) (i : Nat) (s : Int) : (upd xs i s).length = xs.length := by simp [upd]
theorem TRow.put {w : World} {B g i cap : Nat} {cur : Array Value} {xs : List S56} (hB : B ≤ g) (hh : w.heap[g]? = some (.cells cur 56 (0, 0))) (hn : xs.length ≤ cap) (hm : cap ≤ maxLen) (hs : cur.size = cap * 2) (ht : cur.toList.take (xs.length * 2) = flat xs) (hi : i < xs.length) (s : Int) :
    TRow (w.setCell ⟨g, i * 2 + 1, none⟩ (.int .i64 s)) B (.slice (some ⟨g, 0, none⟩) xs.length cap) (upd xs i s) ∧ FrT w (w.setCell ⟨g, i * 2 + 1, none⟩ (.int .i64 s)) ∧ (∀ w0, Below B w0 w → Below B w0 (w.setCell ⟨g, i * 2 + 1, none⟩ (.int .i64 s))) ∧ (w.setCell ⟨g, i * 2 + 1, none⟩ (.int .i64 s)).heap.size = w.heap.size ∧ (∀ k, k ≠ g → (w.setCell ⟨g, i * 2 + 1, none⟩ (.int .i64 s)).heap[k]? = w.heap[k]?) := by
  rw [setCell_eq_setRow w g (i * 2 + 1) cur 56 (0, 0) (.int .i64 s) hh]
  refine ⟨?_, fun k cells q h44 h64 hk => setRow_other w g k _ (fun e => ?_), fun w0 hb => below_setRow hb hB _, size_setRow _ _ _, fun k hk => setRow_other w g k _ hk⟩
  · have hu := upd_len xs i s
    have := TRow.of (xs := upd xs i s) hB (setRow_heap w g cur (cur.setIfInBounds (i * 2 + 1) (.int .i64 s)) 56 (0, 0) hh) (by rw [hu]; exact hn) hm (by rw [Array.size_setIfInBounds]; exact hs) (by
      rw [hu, Array.toList_setIfInBounds, List.take_set, ht]
      exact flat_set xs i s hi)
    rw [hu] at this
    exact this
  · subst e
    rw [hh] at hk
    injection hk with hk
    injection hk with _ hk
    exact h64 hk.symm

set_option maxHeartbeats 8000000 in
set_option maxRecDepth 100000 in
theorem Set.not (gt : Nat) (most : Int) (B : Nat) (v : Value) (xs : List S56) (k : ByteArray) (x : Int) (w : World) (hT : Tab w gt most B v xs) (hk : hit xs k = false) : Calls Try.prog 8 #[.pointer (some ⟨gt, 0, none⟩), .string k, .int .i64 x] w fun e w' => e = .returned (.int .i64 7) ∧ Below w.heap.size w w' := by
  have HB := Aside0.mk (Below.refl w.heap.size w)
  have HT := Aside0.mk hT
  have HBB := Aside0.mk hT.base
  clear hT
  have HK := Aside0.mk hk
  clear hk
  go_enter Try.func8, Try.ntmps8
  go_wp2_with (first
    | (go_at_call 27; with_reducible refine (held.not gt most B v xs k _ HT.out HK.out).mono ?_; rintro e w' ⟨rfl, hb⟩; have n9_ := Aside0.mk (Tab.below (by with_reducible exact HT.out) hb); have n8_ := Aside0.mk (below_step (by repeat (first | (with_reducible first | exact HB.out | apply below_alloc | apply pw_below_drewN | apply below_drew1) | exact HB.out)) hb); clear HT HB hb; have HT := n9_; have HB := n8_; clear n9_ n8_))
  go_ret
  exact ⟨rfl, by repeat (first | (with_reducible first | exact HB.out | apply below_alloc | apply pw_below_drewN | apply below_drew1) | exact HB.out)⟩

set_option maxHeartbeats 8000000 in
set_option maxRecDepth 100000 in
theorem Set.yes (gt : Nat) (most : Int) (B : Nat) (v : Value) (xs : List S56) (k : ByteArray) (x : Int) (w : World) (hT : Tab w gt most B v xs) (hk : hit xs k = true) : Calls Try.prog 8 #[.pointer (some ⟨gt, 0, none⟩), .string k, .int .i64 x] w fun e w' => ∃ v', e = .returned (.int .i64 0) ∧ Tab w' gt most B v' (upd xs (ix xs k) x) ∧ Below B w w' ∧ FrT w w' ∧ w.heap.size ≤ w'.heap.size := by
  have HB := Aside0.mk (Below.refl w.heap.size w)
  have HT := Aside0.mk hT
  have HBB := Aside0.mk hT.base
  clear hT
  have HK := Aside0.mk hk
  clear hk
  go_enter Try.func8, Try.ntmps8
  go_upto_region 3 with (first | (go_at_call 27; with_reducible refine (held.yes gt most B v xs k _ HT.out HK.out).mono ?_; rintro e w' ⟨rfl, hb⟩; have n9_ := Aside0.mk (Tab.below (by with_reducible exact HT.out) hb); have n8_ := Aside0.mk (below_step (by repeat (first | (with_reducible first | exact HB.out | apply below_alloc | apply pw_below_drewN | apply below_drew1) | exact HB.out)) hb); clear HT HB hb; have HT := n9_; have HB := n8_; clear n9_ n8_))
  have hlt := hit_lt HK.out
  obtain ⟨g, cap, cur, rfl, hBg, hh, hn, hm, hs, ht⟩ := HT.out.2.1.form (by omega)
  have c1 := HT.out.c1
  have x1 := blk_cell hh (ix xs k * 2 + 1)
  have hsz : ix xs k * 2 + 1 < cur.size := by omega
  rw [Array.getElem?_eq_getElem hsz] at x1
  have x2 := blk_frozen hh (ix xs k * 2 + 1)
  have FIN := Aside0.mk (TRow.put hBg hh hn hm hs ht hlt x)
  have HNE : Aside0 (gt ≠ g) := ⟨fun e => by
    subst e
    have h1 := HT.out.1
    rw [hh] at h1
    injection h1 with h1
    injection h1 with _ h1
    cases h1⟩
  clear hh hs ht hm hBg
  go_wp2
  go_ret
  obtain ⟨p1, p2, p3, p4, p5⟩ := FIN.out
  obtain ⟨t1, _, t3, t4, t5, t6⟩ := HT.out
  exact ⟨_, rfl, ⟨(p5 gt HNE.out).trans t1, p1, t3, t4, t5, by rw [upd_len]; exact t6⟩, p3 w (HB.out.mono HBB.out), (FrT.of HB.out).trans p2, Nat.le_trans HB.out.size (Nat.le_of_eq p4.symm)⟩

set_option maxHeartbeats 8000000 in
set_option maxRecDepth 100000 in
theorem Drop.not (gt : Nat) (most : Int) (B : Nat) (v : Value) (xs : List S56) (k : ByteArray) (w : World) (hT : Tab w gt most B v xs) (hk : hit xs k = false) : Calls Try.prog 10 #[.pointer (some ⟨gt, 0, none⟩), .string k] w fun e w' => e = .returned (.int .i64 7) ∧ Below w.heap.size w w' := by
  have HB := Aside0.mk (Below.refl w.heap.size w)
  have HT := Aside0.mk hT
  have HBB := Aside0.mk hT.base
  clear hT
  have HK := Aside0.mk hk
  clear hk
  go_enter Try.func10, Try.ntmps10
  go_wp2_with (first
    | (go_at_call 27; with_reducible refine (held.not gt most B v xs k _ HT.out HK.out).mono ?_; rintro e w' ⟨rfl, hb⟩; have n9_ := Aside0.mk (Tab.below (by with_reducible exact HT.out) hb); have n8_ := Aside0.mk (below_step (by repeat (first | (with_reducible first | exact HB.out | apply below_alloc | apply pw_below_drewN | apply below_drew1) | exact HB.out)) hb); clear HT HB hb; have HT := n9_; have HB := n8_; clear n9_ n8_))
  go_ret
  exact ⟨rfl, by repeat (first | (with_reducible first | exact HB.out | apply below_alloc | apply pw_below_drewN | apply below_drew1) | exact HB.out)⟩

theorem eraseIdx_small (xs : List S56) (i : Nat) : (xs.eraseIdx i).length ≤ xs.length := List.length_eraseIdx_le _ _

set_option maxHeartbeats 8000000 in
set_option maxRecDepth 100000 in
theorem Drop.yes (gt : Nat) (most : Int) (B : Nat) (v : Value) (xs : List S56) (k : ByteArray) (w : World) (hT : Tab w gt most B v xs) (hk : hit xs k = true) : Calls Try.prog 10 #[.pointer (some ⟨gt, 0, none⟩), .string k] w fun e w' => ∃ v', e = .returned (.int .i64 0) ∧ Tab w' gt most B v' (xs.eraseIdx (ix xs k)) ∧ Below B w w' ∧ FrT w w' ∧ w.heap.size ≤ w'.heap.size := by
  have HB := Aside0.mk (Below.refl w.heap.size w)
  have HT := Aside0.mk hT
  have HBB := Aside0.mk hT.base
  clear hT
  have HK := Aside0.mk hk
  clear hk
  go_enter Try.func10, Try.ntmps10
  go_upto_region 3 with (first | (go_at_call 27; with_reducible refine (held.yes gt most B v xs k _ HT.out HK.out).mono ?_; rintro e w' ⟨rfl, hb⟩; have n9_ := Aside0.mk (Tab.below (by with_reducible exact HT.out) hb); have n8_ := Aside0.mk (below_step (by repeat (first | (with_reducible first | exact HB.out | apply below_alloc | apply pw_below_drewN | apply below_drew1) | exact HB.out)) hb); clear HT HB hb; have HT := n9_; have HB := n8_; clear n9_ n8_))
  have hlt := hit_lt HK.out
  have hsm := HT.out.small
  have ar5 : wrap64 ((ix xs k : Int) + 1) = (ix xs k : Int) + 1 := by unfold wrap64; omega
  obtain ⟨g, cap, cur, rfl, hBg, hh, hn, hm, hs, ht⟩ := HT.out.2.1.form (by omega)
  have c1 := HT.out.c1
  have HNE : Aside0 (gt ≠ g) := ⟨fun e => by
    subst e
    have h1 := HT.out.1
    rw [hh] at h1
    injection h1 with h1
    injection h1 with _ h1
    cases h1⟩
  have HFR : Aside0 (∀ (j : Nat) (cells : Array Value) (q : Nat), q ≠ 53 → q ≠ 56 → _ → j ≠ g) := ⟨fun j cells q h44 h64 (hj : (World.heap _)[j]? = some (.cells cells q (0, 0))) e => by
    subst e
    rw [hh] at hj
    injection hj with hj
    injection hj with _ hj
    exact h64 hj.symm⟩
  have HTR := Aside0.mk HT.out.2.1
  have HT1 := Aside0.mk HT.out.1
  clear hh hs ht hm hBg
  go_wp2_with (go_at_call 28; with_reducible refine (Delete.calls B g cap (ix xs k) xs _ HTR.out hlt HT.out.base).mono ?_; rintro e w' ⟨rfl, hr, hb, ho⟩; have hg := (ho gt HT.out.lt HNE.out).trans HT1.out; have q1 : w'.cell? ⟨gt, 1, none⟩ = some _ := (blk_cell hg 1).trans rfl; have q2 : w'.frozen? ⟨gt, 1, none⟩ = false := blk_frozen hg 1; have h7 := Aside0.mk hr; have h8 := Aside0.mk hb; have h9 := Aside0.mk ho; have h10 := Aside0.mk hg; clear hr hb ho hg)
  go_ret
  obtain ⟨t1, _, t3, t4, t5, t6⟩ := HT.out
  obtain ⟨p1, p2, p3, p4⟩ := Tab.put h10.out h7.out t3 t4 t5 (by have := eraseIdx_small xs (ix xs k); omega)
  exact ⟨_, rfl, p1, p3 w (Below.trans (HB.out.mono HBB.out) h8.out), (FrT.of HB.out).trans (FrT.trans (fun j cells q h44 h64 hj => h9.out j (blk_lt hj) (HFR.out j cells q h44 h64 hj)) p2), Nat.le_trans HB.out.size (Nat.le_trans h8.out.size (Nat.le_of_eq p4.symm))⟩

end Go.Proofs.Ytghgadfcnggapaa.GA.U
