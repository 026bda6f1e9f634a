/- The table, read. No condition. -/
import Derived.Test.YtghgadfcnggapaaT5
import Derived.Laws.CopyOwn
import Derived.Laws.CopyRow
import Derived.ChangeKeysEq
import Derived.Deep.RegionHeld3
import Derived.Deep.MidRow
import Derived.Shelf.Abstract
import Derived.Lib.Overlaps
import Derived.Lib.AppendZerosOnto
import Derived.Shelf.Spec.SlicesInsertGrow
namespace Go.Proofs.Ytghgadfcnggapaa.GA
open Go.RowKit Go.Shelf Go.Proofs.YtghgadfcnggapaaW.PrintWords Go.Proofs.YtghgadfcnggapaaW.PrintLast Go.Proofs.YtghgadfcnggapaaW.PrintMore
set_option linter.unusedVariables false
set_option linter.unusedSimpArgs false

/-- a table in memory: its block, and the row of its things -/
def Tab (w : World) (gt : Nat) (most : Int) (B : Nat) (v : Value) (xs : List S64) : Prop := w.heap[gt]? = some (.cells #[.int .i64 most, v] 44 (0, 0)) ∧ TRow w B v xs ∧ B ≤ gt ∧ 1 ≤ most ∧ most ≤ 1000000 ∧ (xs.length : Int) ≤ most
theorem Tab.below {w w' : World} {gt : Nat} {most : Int} {B : Nat} {v : Value} {xs : List S64} (h : Tab w gt most B v xs) (hb : Below w.heap.size w w') : Tab w' gt most B v xs := by
  obtain ⟨h1, h2, h3⟩ := h
  exact ⟨blk_below h1 hb, TRow.ofR (Kd.R_below h2.toR hb), h3⟩
theorem Tab.lt {w : World} {gt : Nat} {most : Int} {B : Nat} {v : Value} {xs : List S64} (h : Tab w gt most B v xs) : gt < w.heap.size := blk_lt h.1
theorem Tab.base {w : World} {gt : Nat} {most : Int} {B : Nat} {v : Value} {xs : List S64} (h : Tab w gt most B v xs) : B ≤ w.heap.size := Nat.le_trans h.2.2.1 (Nat.le_of_lt h.lt)
theorem Tab.slice {w : World} {gt : Nat} {most : Int} {B : Nat} {v : Value} {xs : List S64} (h : Tab w gt most B v xs) : ∃ A c, v = .slice A xs.length c ∧ xs.length ≤ c ∧ Kd.C k64 w A xs.length xs := Kd.R_reads h.2.1.toR
theorem Tab.c0 {w : World} {gt : Nat} {most : Int} {B : Nat} {v : Value} {xs : List S64} (h : Tab w gt most B v xs) : w.cell? ⟨gt, 0, none⟩ = some (.int .i64 most) := (blk_cell h.1 0).trans rfl
theorem Tab.c1 {w : World} {gt : Nat} {most : Int} {B : Nat} {v : Value} {xs : List S64} (h : Tab w gt most B v xs) : w.cell? ⟨gt, 1, none⟩ = some v := (blk_cell h.1 1).trans rfl
theorem Tab.f1 {w : World} {gt : Nat} {most : Int} {B : Nat} {v : Value} {xs : List S64} (h : Tab w gt most B v xs) : w.frozen? ⟨gt, 1, none⟩ = false := blk_frozen h.1 1
theorem Tab.small {w : World} {gt : Nat} {most : Int} {B : Nat} {v : Value} {xs : List S64} (h : Tab w gt most B v xs) : xs.length ≤ 1000000 := by
  obtain ⟨_, _, _, _, h1, h2⟩ := h
  omega
theorem Tab.most0 {w : World} {gt : Nat} {most : Int} {B : Nat} {v : Value} {xs : List S64} (h : Tab w gt most B v xs) : (most == 0) = false := by
  obtain ⟨_, _, _, h0, _, _⟩ := h
  exact beq_false_of_ne (by omega)
/-- what is no table's own stays -/
def FrT (w w' : World) : Prop := ∀ (k : Nat) (cells : Array Value) (q : Nat), q ≠ 44 → q ≠ 64 → w.heap[k]? = some (.cells cells q (0, 0)) → w'.heap[k]? = w.heap[k]?
theorem FrT.refl (w : World) : FrT w w := fun _ _ _ _ _ _ => rfl
theorem FrT.of {w w' : World} (h : Below w.heap.size w w') : FrT w w' := fun k _ _ _ _ hk => h.block k (blk_lt hk)
theorem FrT.trans {a b c : World} (h : FrT a b) (k : FrT b c) : FrT a c := fun i cells q h1 h2 hi => by
  have e := h i cells q h1 h2 hi
  exact (k i cells q h1 h2 (e.trans hi)).trans e
theorem R_frame {α : Type} {d : Kd α} {e : Nat} {w w' : World} {base : Nat} {v : Value} {xs : List α} (h : d.R e w base (fun _ => True) v xs) (hf : FrT w w') (he : e ≠ 44 ∧ e ≠ 64) (hE : ∀ q ∈ d.E, q ≠ 44 ∧ q ≠ 64) : d.R e w' base (fun _ => True) v xs := by
  obtain ⟨h0, inner, ho, hr⟩ := h
  refine ⟨h0, inner, own_move ho (fun k hk => ?_), hr.imp_ (fun _ _ hp => d.M_mono (fun k hk => hk.1) (d.M_move (fun k hk => ?_) (d.M_bound hp)))⟩
  · obtain ⟨cells, hc⟩ := own_typed ho k hk
    exact hf k cells e he.1 he.2 hc
  · obtain ⟨_, _, _, q, hq, cells, hc⟩ := hk
    exact hf k cells q (hE q hq).1 (hE q hq).2 hc
theorem bsF_lt {α : Type} (lt : α → Bool) (z : α) (l : List α) (F i j : Nat) (h : i ≤ j) : bsF lt z l F i j ≤ j := bsF_le lt z l F i j h
theorem ix_le (xs : List S64) (k : Int) : ix xs k ≤ xs.length := bsF_le _ _ _ _ _ _ (Nat.zero_le _)
theorem hit_lt {xs : List S64} {k : Int} (h : hit xs k = true) : ix xs k < xs.length := by
  unfold hit at h
  rw [Bool.and_eq_true] at h
  exact of_decide_eq_true h.1

set_option maxHeartbeats 8000000 in
set_option maxRecDepth 100000 in
theorem noneT.calls (gt : Nat) (most : Int) (B : Nat) (v : Value) (xs : List S64) (w : World) (hT : Tab w gt most B v xs) : Calls Try.prog 31 #[.pointer (some ⟨gt, 0, none⟩)] w fun e w' => e = .returned (.bool false) ∧ Below w.heap.size w w' := by
  have HB := Aside0.mk (Below.refl w.heap.size w)
  have c0 := hT.c0
  have m0 := hT.most0
  clear hT
  go_enter Try.func31, Try.ntmps31
  go_wp2
  go_ret
  exact ⟨rfl, by repeat (first | (with_reducible first | exact HB.out | apply below_alloc | apply pw_below_drewN | apply below_drew1) | exact HB.out)⟩
theorem noneZ.calls (gt : Nat) (v : Value) (w : World) (hh : w.heap[gt]? = some (.cells #[.int .i64 0, v] 44 (0, 0))) : Calls Try.prog 31 #[.pointer (some ⟨gt, 0, none⟩)] w fun e w' => e = .returned (.bool true) ∧ Below w.heap.size w w' := by
  have HB := Aside0.mk (Below.refl w.heap.size w)
  have c0 : w.cell? ⟨gt, 0, none⟩ = some (.int .i64 0) := (blk_cell hh 0).trans rfl
  clear hh
  go_enter Try.func31, Try.ntmps31
  go_wp2
  go_ret
  exact ⟨rfl, by repeat (first | (with_reducible first | exact HB.out | apply below_alloc | apply pw_below_drewN | apply below_drew1) | exact HB.out)⟩
theorem noneN.calls (w : World) : Calls Try.prog 31 #[.pointer none] w fun e w' => e = .returned (.bool true) ∧ Below w.heap.size w w' := by
  have HB := Aside0.mk (Below.refl w.heap.size w)
  go_enter Try.func31, Try.ntmps31
  go_wp2
  go_ret
  exact ⟨rfl, by repeat (first | (with_reducible first | exact HB.out | apply below_alloc | apply pw_below_drewN | apply below_drew1) | exact HB.out)⟩

set_option maxHeartbeats 8000000 in
set_option maxRecDepth 100000 in
theorem find.calls (gt : Nat) (most : Int) (B : Nat) (v : Value) (xs : List S64) (k : Int) (w : World) (hT : Tab w gt most B v xs) : Calls Try.prog 30 #[.pointer (some ⟨gt, 0, none⟩), .int .i64 k] w fun e w' => e = .returned (.tuple #[.int .i64 (ix xs k), .bool (hit xs k)]) ∧ Below w.heap.size w w' := by
  have HB := Aside0.mk (Below.refl w.heap.size w)
  have HT := Aside0.mk hT
  obtain ⟨A, c, rfl, hc, hC⟩ := hT.slice
  have hlen := hT.small
  clear hC hT
  go_enter Try.func30, Try.ntmps30
  go_upto_region 3 with (first | (go_at_call 31; with_reducible refine (noneT.calls gt most B _ xs _ HT.out).mono ?_; rintro e w' ⟨rfl, hb⟩; have n9_ := Aside0.mk (Tab.below (by with_reducible exact HT.out) hb); have n8_ := Aside0.mk (below_step (by repeat (first | (with_reducible first | exact HB.out | apply below_alloc | apply pw_below_drewN | apply below_drew1) | exact HB.out)) hb); clear HT HB hb; have HT := n9_; have HB := n8_; clear n9_ n8_))
  have c1 := HT.out.c1
  obtain ⟨A', c', e, _, hC⟩ := HT.out.slice
  cases e
  have HC := Aside0.mk hC
  clear hC
  go_wp2_with (go_at_call 41; with_reducible refine (search.calls A c xs k _ HC.out hc (by omega)).mono ?_; rintro e w' ⟨rfl, hb⟩; have n0_ := Aside0.mk (below_step (by repeat (first | (with_reducible first | exact HB.out | apply below_alloc | apply pw_below_drewN | apply below_drew1) | exact HB.out)) hb); clear HB; have HB := n0_; clear n0_ hb)
  go_ret2
  exact ⟨rfl, by repeat (first | (with_reducible first | exact HB.out | apply below_alloc | apply pw_below_drewN | apply below_drew1) | exact HB.out)⟩

set_option maxHeartbeats 8000000 in
set_option maxRecDepth 100000 in
theorem held.yes (gt : Nat) (most : Int) (B : Nat) (v : Value) (xs : List S64) (k : Int) (w : World) (hT : Tab w gt most B v xs) (hk : hit xs k = true) : Calls Try.prog 34 #[.pointer (some ⟨gt, 0, none⟩), .int .i64 k] w fun e w' => e = .returned (.tuple #[.int .i64 (ix xs k), .int .i64 0]) ∧ Below w.heap.size w w' := by
  have HB := Aside0.mk (Below.refl w.heap.size w)
  have HT := Aside0.mk hT
  clear hT
  go_enter Try.func34, Try.ntmps34
  go_wp2_with (first
    | (go_at_call 31; with_reducible refine (noneT.calls gt most B v xs _ HT.out).mono ?_; rintro e w' ⟨rfl, hb⟩; have n9_ := Aside0.mk (Tab.below (by with_reducible exact HT.out) hb); have n8_ := Aside0.mk (below_step (by repeat (first | (with_reducible first | exact HB.out | apply below_alloc | apply pw_below_drewN | apply below_drew1) | exact HB.out)) hb); clear HT HB hb; have HT := n9_; have HB := n8_; clear n9_ n8_)
    | (go_at_call 30; with_reducible refine (find.calls gt most B v xs k _ HT.out).mono ?_; rw [hk]; rintro e w' ⟨rfl, hb⟩; have n9_ := Aside0.mk (Tab.below (by with_reducible exact HT.out) hb); have n8_ := Aside0.mk (below_step (by repeat (first | (with_reducible first | exact HB.out | apply below_alloc | apply pw_below_drewN | apply below_drew1) | exact HB.out)) hb); clear HT HB hb; have HT := n9_; have HB := n8_; clear n9_ n8_))
  go_ret2
  exact ⟨rfl, by repeat (first | (with_reducible first | exact HB.out | apply below_alloc | apply pw_below_drewN | apply below_drew1) | exact HB.out)⟩
set_option maxHeartbeats 8000000 in
set_option maxRecDepth 100000 in
theorem held.not (gt : Nat) (most : Int) (B : Nat) (v : Value) (xs : List S64) (k : Int) (w : World) (hT : Tab w gt most B v xs) (hk : hit xs k = false) : Calls Try.prog 34 #[.pointer (some ⟨gt, 0, none⟩), .int .i64 k] w fun e w' => e = .returned (.tuple #[.int .i64 0, .int .i64 7]) ∧ Below w.heap.size w w' := by
  have HB := Aside0.mk (Below.refl w.heap.size w)
  have HT := Aside0.mk hT
  clear hT
  go_enter Try.func34, Try.ntmps34
  go_wp2_with (first
    | (go_at_call 31; with_reducible refine (noneT.calls gt most B v xs _ HT.out).mono ?_; rintro e w' ⟨rfl, hb⟩; have n9_ := Aside0.mk (Tab.below (by with_reducible exact HT.out) hb); have n8_ := Aside0.mk (below_step (by repeat (first | (with_reducible first | exact HB.out | apply below_alloc | apply pw_below_drewN | apply below_drew1) | exact HB.out)) hb); clear HT HB hb; have HT := n9_; have HB := n8_; clear n9_ n8_)
    | (go_at_call 30; with_reducible refine (find.calls gt most B v xs k _ HT.out).mono ?_; rw [hk]; rintro e w' ⟨rfl, hb⟩; have n9_ := Aside0.mk (Tab.below (by with_reducible exact HT.out) hb); have n8_ := Aside0.mk (below_step (by repeat (first | (with_reducible first | exact HB.out | apply below_alloc | apply pw_below_drewN | apply below_drew1) | exact HB.out)) hb); clear HT HB hb; have HT := n9_; have HB := n8_; clear n9_ n8_))
  go_ret2
  exact ⟨rfl, by repeat (first | (with_reducible first | exact HB.out | apply below_alloc | apply pw_below_drewN | apply below_drew1) | exact HB.out)⟩

set_option maxHeartbeats 8000000 in
set_option maxRecDepth 100000 in
theorem Get.yes (gt : Nat) (most : Int) (B : Nat) (v : Value) (xs : List S64) (k : Int) (w : World) (hT : Tab w gt most B v xs) (hk : hit xs k = true) : Calls Try.prog 19 #[.pointer (some ⟨gt, 0, none⟩), .int .i64 k] w fun e w' => e = .returned (.tuple #[.string (rd_T64 xs ((ix xs k : Nat) : Int)).f1, .bool true]) ∧ Below w.heap.size w w' := by
  have HB := Aside0.mk (Below.refl w.heap.size w)
  have HT := Aside0.mk hT
  clear hT
  have HK := Aside0.mk hk
  clear hk
  go_enter Try.func19, Try.ntmps19
  go_upto_region 4 with (first | (go_at_call 34; with_reducible refine (held.yes gt most B v xs k _ HT.out HK.out).mono ?_; rintro e w' ⟨rfl, hb⟩; have n9_ := Aside0.mk (Tab.below (by with_reducible exact HT.out) hb); have n8_ := Aside0.mk (below_step (by repeat (first | (with_reducible first | exact HB.out | apply below_alloc | apply pw_below_drewN | apply below_drew1) | exact HB.out)) hb); clear HT HB hb; have HT := n9_; have HB := n8_; clear n9_ n8_))
  obtain ⟨A, c, rfl, hc, hC⟩ := HT.out.slice
  have c1 := HT.out.c1
  have hlt := hit_lt HK.out
  obtain ⟨ad, e, x0, x1⟩ := at_T64 hC ((ix xs k : Nat) : Int) (by omega) (by omega)
  cases e
  simp only [Int.toNat_natCast] at x0 x1
  clear hC
  go_wp2
  go_ret2
  exact ⟨rfl, by repeat (first | (with_reducible first | exact HB.out | apply below_alloc | apply pw_below_drewN | apply below_drew1) | exact HB.out)⟩
set_option maxHeartbeats 8000000 in
set_option maxRecDepth 100000 in
theorem Get.not (gt : Nat) (most : Int) (B : Nat) (v : Value) (xs : List S64) (k : Int) (w : World) (hT : Tab w gt most B v xs) (hk : hit xs k = false) : Calls Try.prog 19 #[.pointer (some ⟨gt, 0, none⟩), .int .i64 k] w fun e w' => e = .returned (.tuple #[.string ⟨#[]⟩, .bool false]) ∧ Below w.heap.size w w' := by
  have HB := Aside0.mk (Below.refl w.heap.size w)
  have HT := Aside0.mk hT
  clear hT
  have HK := Aside0.mk hk
  clear hk
  go_enter Try.func19, Try.ntmps19
  go_wp2_with (first
    | (go_at_call 34; with_reducible refine (held.not gt most B v xs k _ HT.out HK.out).mono ?_; rintro e w' ⟨rfl, hb⟩; have n9_ := Aside0.mk (Tab.below (by with_reducible exact HT.out) hb); have n8_ := Aside0.mk (below_step (by repeat (first | (with_reducible first | exact HB.out | apply below_alloc | apply pw_below_drewN | apply below_drew1) | exact HB.out)) hb); clear HT HB hb; have HT := n9_; have HB := n8_; clear n9_ n8_))
  go_ret2
  exact ⟨rfl, by repeat (first | (with_reducible first | exact HB.out | apply below_alloc | apply pw_below_drewN | apply below_drew1) | exact HB.out)⟩

set_option maxHeartbeats 8000000 in
set_option maxRecDepth 100000 in
theorem Len.calls (gt : Nat) (most : Int) (B : Nat) (v : Value) (xs : List S64) (w : World) (hT : Tab w gt most B v xs) : Calls Try.prog 23 #[.pointer (some ⟨gt, 0, none⟩)] w fun e w' => e = .returned (.int .i64 (xs.length : Nat)) ∧ Below w.heap.size w w' := by
  have HB := Aside0.mk (Below.refl w.heap.size w)
  have HT := Aside0.mk hT
  clear hT
  go_enter Try.func23, Try.ntmps23
  go_upto_region 3 with (first | (go_at_call 31; with_reducible refine (noneT.calls gt most B v xs _ HT.out).mono ?_; rintro e w' ⟨rfl, hb⟩; have n9_ := Aside0.mk (Tab.below (by with_reducible exact HT.out) hb); have n8_ := Aside0.mk (below_step (by repeat (first | (with_reducible first | exact HB.out | apply below_alloc | apply pw_below_drewN | apply below_drew1) | exact HB.out)) hb); clear HT HB hb; have HT := n9_; have HB := n8_; clear n9_ n8_))
  obtain ⟨A, c, rfl, hc, hC⟩ := HT.out.slice
  have c1 := HT.out.c1
  clear hC
  go_wp2
  go_ret
  exact ⟨rfl, by repeat (first | (with_reducible first | exact HB.out | apply below_alloc | apply pw_below_drewN | apply below_drew1) | exact HB.out)⟩

set_option maxHeartbeats 8000000 in
set_option maxRecDepth 100000 in
theorem First.some_ (gt : Nat) (most : Int) (B : Nat) (v : Value) (x : S64) (r : List S64) (w : World) (hT : Tab w gt most B v (x :: r)) : Calls Try.prog 20 #[.pointer (some ⟨gt, 0, none⟩)] w fun e w' => e = .returned (.tuple #[.int .i64 x.f0, .string x.f1, .bool true]) ∧ Below w.heap.size w w' := by
  have HB := Aside0.mk (Below.refl w.heap.size w)
  have HT := Aside0.mk hT
  clear hT
  have hne : (((x :: r).length : Int) == 0) = false := beq_false_of_ne (by rw [List.length_cons]; omega)
  generalize hxs : x :: r = xs at HT hne
  go_enter Try.func20, Try.ntmps20
  go_upto_region 3 with (first | (go_at_call 23; with_reducible refine (Len.calls gt most B v xs _ HT.out).mono ?_; rintro e w' ⟨rfl, hb⟩; have n9_ := Aside0.mk (Tab.below (by with_reducible exact HT.out) hb); have n8_ := Aside0.mk (below_step (by repeat (first | (with_reducible first | exact HB.out | apply below_alloc | apply pw_below_drewN | apply below_drew1) | exact HB.out)) hb); clear HT HB hb; have HT := n9_; have HB := n8_; clear n9_ n8_))
  obtain ⟨A, c, rfl, hc, hC⟩ := HT.out.slice
  have c1 := HT.out.c1
  have hlt : 0 < xs.length := by rw [← hxs]; simp
  obtain ⟨ad, e, x0, x1⟩ := at_T64 hC 0 (by omega) (by omega)
  cases e
  have e0 : rd_T64 xs 0 = x := by rw [← hxs]; rfl
  rw [e0] at x0 x1
  clear hC hxs e0
  have z0 : (0 : Int).toNat * 2 = 0 := rfl
  have a0 : ad.add 0 = ad := by simp [Addr.add]
  rw [z0, a0] at x0 x1
  clear a0 z0
  refine start_ (n := 17) (S := fun w' => w'.cell? ⟨gt, 1, none⟩ = some (.slice (some ad) xs.length c) ∧ w'.cell? ad = some (.int .i64 x.f0) ∧ w'.cell? ⟨ad.block, ad.off + 1, none⟩ = some (.string x.f1)) (ds := []) #[false, false, false, false, false, false, false, false, false, false, false, false, false, false, false, false, false] (by kernel_rfl) rfl rfl ⟨c1, x0, x1⟩ (fun hHeld => ?_)
  refine pure_ (i := 0) (N := some 10) (v := ?_) (a' := ?_) #[true, false, false, false, false, false, false, false, false, false, false, false, false, false, false, false, false] rfl rfl (by kernel_rfl) (fun _ _ _ h => h) (Or.inl ⟨by rfl, ?_⟩) ?_ ?_
  rotate_left
  · intro w'
    go_simp
    with_reducible rfl
  rotate_left
  · simp only [Act.put, List.setIfInBounds_toArray, List.set_cons_zero, List.set_cons_succ, i64_w, i32_w]
    rfl
  refine pure_ (i := 1) (N := some 11) (v := ?_) (a' := ?_) #[true, true, false, false, false, false, false, false, false, false, false, false, false, false, false, false, false] rfl rfl (by kernel_rfl) (fun _ _ _ h => h) (Or.inl ⟨by rfl, ?_⟩) ?_ ?_
  rotate_left
  · intro w'
    go_simp
    with_reducible rfl
  rotate_left
  · simp only [Act.put, List.setIfInBounds_toArray, List.set_cons_zero, List.set_cons_succ, i64_w, i32_w]
    rfl
  refine pure_ (i := 2) (N := some 12) (v := ?_) (a' := ?_) #[true, true, true, false, false, false, false, false, false, false, false, false, false, false, false, false, false] rfl rfl (by kernel_rfl) (fun _ _ _ h => h) (Or.inl ⟨by rfl, ?_⟩) ?_ ?_
  rotate_left
  · intro w'
    go_simp
    with_reducible rfl
  rotate_left
  · simp only [Act.put, List.setIfInBounds_toArray, List.set_cons_zero, List.set_cons_succ, i64_w, i32_w]
    rfl
  refine pure_ (i := 7) (N := some 17) (v := ?_) (a' := ?_) #[true, true, true, false, false, false, false, true, false, false, false, false, false, false, false, false, false] rfl rfl (by kernel_rfl) (fun _ _ _ h => h) (Or.inl ⟨by rfl, ?_⟩) ?_ ?_
  rotate_left
  · intro w'
    go_simp
    with_reducible rfl
  rotate_left
  · simp only [Act.put, List.setIfInBounds_toArray, List.set_cons_zero, List.set_cons_succ, i64_w, i32_w]
    rfl
  refine pure_ (i := 8) (N := some 18) (v := ?_) (a' := ?_) #[true, true, true, false, false, false, false, true, true, false, false, false, false, false, false, false, false] rfl rfl (by kernel_rfl) (fun _ _ _ h => h) (Or.inl ⟨by rfl, ?_⟩) ?_ ?_
  rotate_left
  · intro w'
    go_simp
    with_reducible rfl
  rotate_left
  · simp only [Act.put, List.setIfInBounds_toArray, List.set_cons_zero, List.set_cons_succ, i64_w, i32_w]
    rfl
  refine pure_ (i := 9) (N := some 19) (v := ?_) (a' := ?_) #[true, true, true, false, false, false, false, true, true, true, false, false, false, false, false, false, false] rfl rfl (by kernel_rfl) (fun _ _ _ h => h) (Or.inl ⟨by rfl, ?_⟩) ?_ ?_
  rotate_left
  · intro w'
    go_simp
    with_reducible rfl
  rotate_left
  · simp only [Act.put, List.setIfInBounds_toArray, List.set_cons_zero, List.set_cons_succ, i64_w, i32_w]
    rfl
  refine take_ (i := 3) (N := some 13) (v := ?_) (a' := ?_) #[true, true, true, true, false, false, false, true, true, true, false, false, false, false, false, false, false] rfl rfl (by kernel_rfl) (fun _ _ _ h => h) (Or.inl ⟨by rfl, ?_⟩) hHeld ?_ ?_
  rotate_left
  · rintro w' ⟨s0, s1, s2⟩
    go_simp
    with_reducible rfl
  rotate_left
  · simp only [Act.put, List.setIfInBounds_toArray, List.set_cons_zero, List.set_cons_succ, i64_w, i32_w]
    rfl
  refine pure_ (i := 4) (N := some 14) (v := ?_) (a' := ?_) #[true, true, true, true, true, false, false, true, true, true, false, false, false, false, false, false, false] rfl rfl (by kernel_rfl) (fun _ _ _ h => h) (Or.inl ⟨by rfl, ?_⟩) ?_ ?_
  rotate_left
  · intro w'
    go_simp
    with_reducible rfl
  rotate_left
  · simp only [Act.put, List.setIfInBounds_toArray, List.set_cons_zero, List.set_cons_succ, i64_w, i32_w]
    rfl
  refine pure_ (i := 5) (N := some 15) (v := ?_) (a' := ?_) #[true, true, true, true, true, true, false, true, true, true, false, false, false, false, false, false, false] rfl rfl (by kernel_rfl) (fun _ _ _ h => h) (Or.inl ⟨by rfl, ?_⟩) ?_ ?_
  rotate_left
  · intro w'
    go_simp
    with_reducible rfl
  rotate_left
  · simp only [Act.put, List.setIfInBounds_toArray, List.set_cons_zero, List.set_cons_succ, i64_w, i32_w]
    rfl
  refine take_ (i := 6) (N := some 16) (v := ?_) (a' := ?_) #[true, true, true, true, true, true, true, true, true, true, false, false, false, false, false, false, false] rfl rfl (by kernel_rfl) (fun _ _ _ h => h) (Or.inl ⟨by rfl, ?_⟩) hHeld ?_ ?_
  rotate_left
  · rintro w' ⟨s0, s1, s2⟩
    go_simp
    with_reducible rfl
  rotate_left
  · simp only [Act.put, List.setIfInBounds_toArray, List.set_cons_zero, List.set_cons_succ, i64_w, i32_w]
    rfl
  refine pure_ (i := 14) (N := some 2) (v := ?_) (a' := ?_) #[true, true, true, true, true, true, true, true, true, true, false, false, false, false, true, false, false] rfl rfl (by kernel_rfl) (fun _ _ _ h => h) (Or.inl ⟨by rfl, ?_⟩) ?_ ?_
  rotate_left
  · intro w'
    go_simp
    with_reducible rfl
  rotate_left
  · simp only [Act.put, List.setIfInBounds_toArray, List.set_cons_zero, List.set_cons_succ, i64_w, i32_w]
    rfl
  refine take_ (i := 10) (N := some 20) (v := ?_) (a' := ?_) #[true, true, true, true, true, true, true, true, true, true, true, false, false, false, true, false, false] rfl rfl (by kernel_rfl) (fun _ _ _ h => h) (Or.inl ⟨by rfl, ?_⟩) hHeld ?_ ?_
  rotate_left
  · rintro w' ⟨s0, s1, s2⟩
    go_simp
    with_reducible rfl
  rotate_left
  · simp only [Act.put, List.setIfInBounds_toArray, List.set_cons_zero, List.set_cons_succ, i64_w, i32_w]
    rfl
  refine pure_ (i := 11) (N := some 21) (v := ?_) (a' := ?_) #[true, true, true, true, true, true, true, true, true, true, true, true, false, false, true, false, false] rfl rfl (by kernel_rfl) (fun _ _ _ h => h) (Or.inl ⟨by rfl, ?_⟩) ?_ ?_
  rotate_left
  · intro w'
    go_simp
    with_reducible rfl
  rotate_left
  · simp only [Act.put, List.setIfInBounds_toArray, List.set_cons_zero, List.set_cons_succ, i64_w, i32_w]
    rfl
  refine pure_ (i := 12) (N := some 22) (v := ?_) (a' := ?_) #[true, true, true, true, true, true, true, true, true, true, true, true, true, false, true, false, false] rfl rfl (by kernel_rfl) (fun _ _ _ h => h) (Or.inl ⟨by rfl, ?_⟩) ?_ ?_
  rotate_left
  · intro w'
    go_simp
    with_reducible rfl
  rotate_left
  · simp only [Act.put, List.setIfInBounds_toArray, List.set_cons_zero, List.set_cons_succ, i64_w, i32_w]
    rfl
  refine take_ (i := 13) (N := some 23) (v := ?_) (a' := ?_) #[true, true, true, true, true, true, true, true, true, true, true, true, true, true, true, false, false] rfl rfl (by kernel_rfl) (fun _ _ _ h => h) (Or.inl ⟨by rfl, ?_⟩) hHeld ?_ ?_
  rotate_left
  · rintro w' ⟨s0, s1, s2⟩
    go_simp
    with_reducible rfl
  rotate_left
  · simp only [Act.put, List.setIfInBounds_toArray, List.set_cons_zero, List.set_cons_succ, i64_w, i32_w]
    rfl
  refine pure_ (i := 15) (N := some 3) (v := ?_) (a' := ?_) #[true, true, true, true, true, true, true, true, true, true, true, true, true, true, true, true, false] rfl rfl (by kernel_rfl) (fun _ _ _ h => h) (Or.inl ⟨by rfl, ?_⟩) ?_ ?_
  rotate_left
  · intro w'
    go_simp
    with_reducible rfl
  rotate_left
  · simp only [Act.put, List.setIfInBounds_toArray, List.set_cons_zero, List.set_cons_succ, i64_w, i32_w]
    rfl
  refine pure_ (i := 16) (N := some 4) (v := ?_) (a' := ?_) #[true, true, true, true, true, true, true, true, true, true, true, true, true, true, true, true, true] rfl rfl (by kernel_rfl) (fun _ _ _ h => h) (Or.inl ⟨by rfl, ?_⟩) ?_ ?_
  rotate_left
  · intro w'
    go_simp
    with_reducible rfl
  rotate_left
  · simp only [Act.put, List.setIfInBounds_toArray, List.set_cons_zero, List.set_cons_succ, i64_w, i32_w]
    rfl
  refine done_ (by kernel_rfl) ?_

  go_wp2
  go_ret3
  exact ⟨rfl, by repeat (first | (with_reducible first | exact HB.out | apply below_alloc | apply pw_below_drewN | apply below_drew1) | exact HB.out)⟩

theorem keys_run (xs : List S64) (hl : xs.length ≤ 1000000) : ∀ d j : Nat, d + j = xs.length → table_keys_int_string.l0 (d + 1) ((xs.take j).map (·.f0)) xs (xs.length : Int) (j : Int) = some (xs.map (·.f0))
  | 0, j, h => by
    rw [table_keys_int_string.l0, if_neg (by omega), List.take_of_length_le (by omega)]
  | d + 1, j, h => by
    rw [table_keys_int_string.l0, if_pos (by omega), if_pos (by omega), if_pos (by omega), if_pos (by rw [List.length_map, List.length_take]; omega)]
    have e1 : wrap64 ((j : Int) + 1) = ((j + 1 : Nat) : Int) := by unfold wrap64; omega
    have hj : j < xs.length := by omega
    have e2 : (xs.take j).map (·.f0) ++ [(rd_T64 xs (j : Int)).f0] = (xs.take (j + 1)).map (·.f0) := by
      rw [List.take_add_one, List.map_append, List.getElem?_eq_getElem hj]
      unfold rd_T64
      rw [Int.toNat_natCast, List.getD_eq_getElem?_getD, List.getElem?_eq_getElem hj]
      rfl
    rw [e1, e2]
    exact keys_run xs hl d (j + 1) (by omega)
theorem keys_eq (xs : List S64) (hl : xs.length ≤ 1000000) : table_keys_int_string.f (xs.length + 1) xs = some (xs.map (·.f0)) := keys_run xs hl xs.length 0 (by omega)

set_option maxHeartbeats 8000000 in
set_option maxRecDepth 100000 in
theorem Keys.calls (gt : Nat) (most : Int) (B : Nat) (v : Value) (xs : List S64) (w : World) (hT : Tab w gt most B v xs) : Calls Try.prog 16 #[.pointer (some ⟨gt, 0, none⟩)] w fun e w' => ∃ u, e = .returned u ∧ Kd.R (Kd.int .i64) 3 w' w.heap.size (fun _ => True) u (xs.map (·.f0)) ∧ Below w.heap.size w w' := by
  have HB := Aside0.mk (Below.refl w.heap.size w)
  have HT := Aside0.mk hT
  clear hT
  go_enter Try.func16, Try.ntmps16
  go_upto_region 3 with (first | (go_at_call 31; with_reducible refine (noneT.calls gt most B v xs _ HT.out).mono ?_; rintro e w' ⟨rfl, hb⟩; have n9_ := Aside0.mk (Tab.below (by with_reducible exact HT.out) hb); have n8_ := Aside0.mk (below_step (by repeat (first | (with_reducible first | exact HB.out | apply below_alloc | apply pw_below_drewN | apply below_drew1) | exact HB.out)) hb); clear HT HB hb; have HT := n9_; have HB := n8_; clear n9_ n8_))
  obtain ⟨A, c, rfl, hc, hC⟩ := HT.out.slice
  have c1 := HT.out.c1
  have HC := Aside0.mk hC
  have HE := Aside0.mk (keys_eq xs HT.out.small)
  clear hC
  go_wp2_with (go_at_call 33; with_reducible refine (table_keys_int_string.calls _ A c xs _ _ HC.out hc HE.out).mono ?_; rintro e w' ⟨u, rfl, hr, hb⟩; have HR := Aside0.mk (Kd.R_lower hr (below_size HB.out)); have n0_ := Aside0.mk (below_step (by repeat (first | (with_reducible first | exact HB.out | apply below_alloc | apply pw_below_drewN | apply below_drew1) | exact HB.out)) hb); clear HB; have HB := n0_; clear n0_ hb; clear hr)
  go_ret
  exact ⟨u, rfl, HR.out, by repeat (first | (with_reducible first | exact HB.out | apply below_alloc | apply pw_below_drewN | apply below_drew1) | exact HB.out)⟩

theorem cutX (A : Option Addr) (n c i : Nat) (h : i ≤ n) : ∀ W : World, (Instr.slice 42 (.slice A n c) (some (.int .i64 i)) none none).run Try.prog W = .ok (.slice (if c = i then A else A.map (·.add (i * k64.sz))) (n - i) (c - i)) W := by
  obtain ⟨i0, hi, hz⟩ := Option.map_eq_some_iff.1 size64
  intro W
  have := cut_from (P := Try.prog) 42 64 .i64 Try.underlying42 hi 2 hz A n c (i : Int) (by omega) (by omega) W
  rw [Int.toNat_natCast] at this
  exact this

set_option maxHeartbeats 8000000 in
set_option maxRecDepth 100000 in
theorem From.calls (gt : Nat) (most : Int) (B : Nat) (v : Value) (xs : List S64) (k : Int) (w : World) (hT : Tab w gt most B v xs) : Calls Try.prog 17 #[.pointer (some ⟨gt, 0, none⟩), .int .i64 k] w fun e w' => ∃ u, e = .returned u ∧ Kd.R (Kd.int .i64) 3 w' w.heap.size (fun _ => True) u ((xs.drop (ix xs k)).map (·.f0)) ∧ Below w.heap.size w w' := by
  have HB := Aside0.mk (Below.refl w.heap.size w)
  have HT := Aside0.mk hT
  clear hT
  go_enter Try.func17, Try.ntmps17
  go_upto_region 4 with (first | (go_at_call 31; with_reducible refine (noneT.calls gt most B v xs _ HT.out).mono ?_; rintro e w' ⟨rfl, hb⟩; have n9_ := Aside0.mk (Tab.below (by with_reducible exact HT.out) hb); have n8_ := Aside0.mk (below_step (by repeat (first | (with_reducible first | exact HB.out | apply below_alloc | apply pw_below_drewN | apply below_drew1) | exact HB.out)) hb); clear HT HB hb; have HT := n9_; have HB := n8_; clear n9_ n8_) | (go_at_call 30; with_reducible refine (find.calls gt most B v xs k _ HT.out).mono ?_; rintro e w' ⟨rfl, hb⟩; have n9_ := Aside0.mk (Tab.below (by with_reducible exact HT.out) hb); have n8_ := Aside0.mk (below_step (by repeat (first | (with_reducible first | exact HB.out | apply below_alloc | apply pw_below_drewN | apply below_drew1) | exact HB.out)) hb); clear HT HB hb; have HT := n9_; have HB := n8_; clear n9_ n8_))
  obtain ⟨A, c, rfl, hc, hC⟩ := HT.out.slice
  have c1 := HT.out.c1
  have hi := ix_le xs k
  have hcut := cutX A xs.length c (ix xs k) hi
  have hD := Kd.C_drop hC hi hc
  have HE := Aside0.mk (keys_eq (xs.drop (ix xs k)) (by rw [List.length_drop]; have := HT.out.small; omega))
  have hcc : xs.length - ix xs k ≤ c - ix xs k := by omega
  have hdl : (xs.drop (ix xs k)).length = xs.length - ix xs k := List.length_drop
  clear hC
  generalize (if c = ix xs k then A else A.map (·.add (ix xs k * k64.sz))) = A2 at hcut hD
  generalize hys : xs.drop (ix xs k) = ys at hD HE hdl
  rw [← hdl] at hcut hcc
  have HY := Aside0.mk hys
  have HD2 := Aside0.mk hD
  clear hD hi hys hdl
  go_wp2_with (go_at_call 33; with_reducible refine (table_keys_int_string.calls _ A2 _ ys _ _ HD2.out hcc HE.out).mono ?_; rintro e w' ⟨u, rfl, hr, hb⟩; have HR := Aside0.mk (Kd.R_lower hr (below_size HB.out)); have n0_ := Aside0.mk (below_step (by repeat (first | (with_reducible first | exact HB.out | apply below_alloc | apply pw_below_drewN | apply below_drew1) | exact HB.out)) hb); clear HB; have HB := n0_; clear n0_ hb; clear hr)
  go_ret
  exact ⟨u, rfl, by rw [HY.out]; exact HR.out, by repeat (first | (with_reducible first | exact HB.out | apply below_alloc | apply pw_below_drewN | apply below_drew1) | exact HB.out)⟩

end Go.Proofs.Ytghgadfcnggapaa.GA
