/- The wheel, read. No condition. -/
import Derived.Test.YtgfekeicgcnjfaaA6
import Derived.Laws.CopyOwn
import Derived.Laws.CopyRow
import Derived.ChangeKeysEq
import Derived.Deep.RegionHeld3
import Derived.Deep.MidRow
import Derived.Shelf.Abstract
import Derived.Lib.Overlaps
import Derived.Lib.AppendZerosOnto
import Derived.Shelf.Spec.SlicesInsertGrow
import Derived.Maps.OwnSet
import Derived.WalkSpells
namespace Go.Proofs.Ytgfekeicgcnjfaa.GA
open Go.RowKit Go.Shelf Go.Proofs.YtgfekeicgcnjfaaW.PrintWords Go.Proofs.YtgfekeicgcnjfaaW.PrintLast Go.Proofs.YtgfekeicgcnjfaaW.PrintMore
set_option linter.unusedVariables false
set_option linter.unusedSimpArgs false

/-- a wheel in memory -/
def Whl (w : World) (gt mb B : Nat) (most : Int) (v : Value) (xs : List S71) (ord : Int) : Prop := w.heap[gt]? = some (.cells #[.int .i64 most, v, .map (some mb), .int .u64 ord] 56 (0, 0)) ∧ TRow w B v xs ∧ MapIs w mb xs ∧ B ≤ gt ∧ B ≤ mb ∧ xs.length ≤ 1000000
theorem Whl.below {w w' : World} {gt mb B : Nat} {most : Int} {v : Value} {xs : List S71} {ord : Int} (h : Whl w gt mb B most v xs ord) (hb : Below w.heap.size w w') : Whl w' gt mb B most v xs ord := by
  obtain ⟨h1, h2, h3, h4⟩ := h
  exact ⟨blk_below h1 hb, TRow.ofR (Kd.R_below h2.toR hb), h3.kept (hb.block mb h3.lt), h4⟩
theorem Whl.lt {w : World} {gt mb B : Nat} {most : Int} {v : Value} {xs : List S71} {ord : Int} (h : Whl w gt mb B most v xs ord) : gt < w.heap.size := blk_lt h.1
theorem Whl.base {w : World} {gt mb B : Nat} {most : Int} {v : Value} {xs : List S71} {ord : Int} (h : Whl w gt mb B most v xs ord) : B ≤ w.heap.size := Nat.le_trans h.2.2.2.1 (Nat.le_of_lt h.lt)
theorem Whl.slice {w : World} {gt mb B : Nat} {most : Int} {v : Value} {xs : List S71} {ord : Int} (h : Whl w gt mb B most v xs ord) : ∃ A c, v = .slice A xs.length c ∧ xs.length ≤ c ∧ Kd.C k71 w A xs.length xs := Kd.R_reads h.2.1.toR
theorem Whl.c0 {w : World} {gt mb B : Nat} {most : Int} {v : Value} {xs : List S71} {ord : Int} (h : Whl w gt mb B most v xs ord) : w.cell? ⟨gt, 0, none⟩ = some (.int .i64 most) := (blk_cell h.1 0).trans rfl
theorem Whl.c1 {w : World} {gt mb B : Nat} {most : Int} {v : Value} {xs : List S71} {ord : Int} (h : Whl w gt mb B most v xs ord) : w.cell? ⟨gt, 1, none⟩ = some v := (blk_cell h.1 1).trans rfl
theorem Whl.c2 {w : World} {gt mb B : Nat} {most : Int} {v : Value} {xs : List S71} {ord : Int} (h : Whl w gt mb B most v xs ord) : w.cell? ⟨gt, 2, none⟩ = some (.map (some mb)) := (blk_cell h.1 2).trans rfl
theorem Whl.c3 {w : World} {gt mb B : Nat} {most : Int} {v : Value} {xs : List S71} {ord : Int} (h : Whl w gt mb B most v xs ord) : w.cell? ⟨gt, 3, none⟩ = some (.int .u64 ord) := (blk_cell h.1 3).trans rfl
theorem Whl.fz {w : World} {gt mb B : Nat} {most : Int} {v : Value} {xs : List S71} {ord : Int} (h : Whl w gt mb B most v xs ord) (k : Nat) : w.frozen? ⟨gt, k, none⟩ = false := blk_frozen h.1 k
theorem Whl.small {w : World} {gt mb B : Nat} {most : Int} {v : Value} {xs : List S71} {ord : Int} (h : Whl w gt mb B most v xs ord) : xs.length ≤ 1000000 := h.2.2.2.2.2
theorem Whl.mapIs {w : World} {gt mb B : Nat} {most : Int} {v : Value} {xs : List S71} {ord : Int} (h : Whl w gt mb B most v xs ord) : MapIs w mb xs := h.2.2.1
theorem Whl.row {w : World} {gt mb B : Nat} {most : Int} {v : Value} {xs : List S71} {ord : Int} (h : Whl w gt mb B most v xs ord) : TRow w B v xs := h.2.1
/-- what is not the wheel's own stays -/
def Fw (w w' : World) (gt mb : Nat) (v : Value) : Prop := ∀ k, k < w.heap.size → k ≠ gt → k ≠ mb → some k ≠ v.ownBlock → w'.heap[k]? = w.heap[k]?
theorem Fw.of {w w' : World} (gt mb : Nat) (v : Value) (h : Below w.heap.size w w') : Fw w w' gt mb v := fun k hk _ _ _ => h.block k hk
theorem bsF_lt {α : Type} (lt : α → Bool) (z : α) (l : List α) (F i j : Nat) (h : i ≤ j) : bsF lt z l F i j ≤ j := bsF_le lt z l F i j h
theorem ix_le (xs : List S71) (k : S71) : ix xs k ≤ xs.length := bsF_le _ _ _ _ _ _ (Nat.zero_le _)
theorem hit_lt {xs : List S71} {k : S71} (h : hit xs k = true) : ix xs k < xs.length := by
  unfold hit at h
  rw [Bool.and_eq_true] at h
  exact of_decide_eq_true h.1

set_option maxHeartbeats 8000000 in
set_option maxRecDepth 100000 in
theorem noneW.calls (gt mb B : Nat) (most : Int) (v : Value) (xs : List S71) (ord : Int) (w : World) (hT : Whl w gt mb B most v xs ord) : Calls Try.prog 31 #[.pointer (some ⟨gt, 0, none⟩)] w fun e w' => e = .returned (.bool false) ∧ Below w.heap.size w w' := by
  have HB := Aside0.mk (Below.refl w.heap.size w)
  have c2 := hT.c2
  have hn : (binOp .eql 54 (.map (some mb)) (.map none)).run Try.prog w = .ok (.bool false) w := run_eql_nil_map w 54 9 71 (some mb) Try.underlying54
  clear hT
  go_enter Try.func31, Try.ntmps31
  go_wp2
  go_ret
  exact ⟨rfl, by repeat (first | (with_reducible first | exact HB.out | apply below_alloc | apply pw_below_drewN | apply below_drew1) | exact HB.out)⟩

set_option maxHeartbeats 8000000 in
set_option maxRecDepth 100000 in
theorem noneN.calls (w : World) : Calls Try.prog 31 #[.pointer none] w fun e w' => e = .returned (.bool true) ∧ Below w.heap.size w w' := by
  have HB := Aside0.mk (Below.refl w.heap.size w)
  go_enter Try.func31, Try.ntmps31
  go_wp2
  go_ret
  exact ⟨rfl, by repeat (first | (with_reducible first | exact HB.out | apply below_alloc | apply pw_below_drewN | apply below_drew1) | exact HB.out)⟩

set_option maxHeartbeats 8000000 in
set_option maxRecDepth 100000 in
theorem noneZ.calls (gt : Nat) (x v y : Value) (w : World) (hh : w.heap[gt]? = some (.cells #[x, v, .map none, y] 56 (0, 0))) : Calls Try.prog 31 #[.pointer (some ⟨gt, 0, none⟩)] w fun e w' => e = .returned (.bool true) ∧ Below w.heap.size w w' := by
  have HB := Aside0.mk (Below.refl w.heap.size w)
  have c2 : w.cell? ⟨gt, 2, none⟩ = some (.map none) := (blk_cell hh 2).trans rfl
  have hn : (binOp .eql 54 (.map none) (.map none)).run Try.prog w = .ok (.bool true) w := run_eql_nil_map w 54 9 71 none Try.underlying54
  clear hh
  go_enter Try.func31, Try.ntmps31
  go_wp2
  go_ret
  exact ⟨rfl, by repeat (first | (with_reducible first | exact HB.out | apply below_alloc | apply pw_below_drewN | apply below_drew1) | exact HB.out)⟩

set_option maxHeartbeats 8000000 in
set_option maxRecDepth 100000 in
theorem Len.calls (gt mb B : Nat) (most : Int) (v : Value) (xs : List S71) (ord : Int) (w : World) (hT : Whl w gt mb B most v xs ord) : Calls Try.prog 25 #[.pointer (some ⟨gt, 0, none⟩)] w fun e w' => e = .returned (.int .i64 (xs.length : Nat)) ∧ Below w.heap.size w w' := by
  have HB := Aside0.mk (Below.refl w.heap.size w)
  have HT := Aside0.mk hT
  clear hT
  go_enter Try.func25, Try.ntmps25
  go_upto_region 3 with (first | (go_at_call 31; with_reducible refine (noneW.calls gt mb B most v xs ord _ HT.out).mono ?_; rintro e w' ⟨rfl, hb⟩; have n9_ := Aside0.mk (Whl.below (by with_reducible exact HT.out) hb); have n8_ := Aside0.mk (below_step (by repeat (first | (with_reducible first | exact HB.out | apply below_alloc | apply pw_below_drewN | apply below_drew1) | exact HB.out)) hb); clear HT HB hb; have HT := n9_; have HB := n8_; clear n9_ n8_))
  obtain ⟨A, c, rfl, hc, hC⟩ := HT.out.slice
  have c1 := HT.out.c1
  clear hC
  go_wp2
  go_ret
  exact ⟨rfl, by repeat (first | (with_reducible first | exact HB.out | apply below_alloc | apply pw_below_drewN | apply below_drew1) | exact HB.out)⟩

set_option maxHeartbeats 8000000 in
set_option maxRecDepth 100000 in
theorem Next.nil_ (gt mb B : Nat) (most : Int) (v : Value) (ord : Int) (w : World) (hT : Whl w gt mb B most v [] ord) : Calls Try.prog 23 #[.pointer (some ⟨gt, 0, none⟩)] w fun e w' => e = .returned (.tuple #[.int .u64 0, .bool false]) ∧ Below w.heap.size w w' := by
  have HB := Aside0.mk (Below.refl w.heap.size w)
  have HT := Aside0.mk hT
  clear hT
  go_enter Try.func23, Try.ntmps23
  go_wp2_with (first
    | (go_at_call 25; with_reducible refine (Len.calls gt mb B most v [] ord _ HT.out).mono ?_; rintro e w' ⟨rfl, hb⟩; have n9_ := Aside0.mk (Whl.below (by with_reducible exact HT.out) hb); have n8_ := Aside0.mk (below_step (by repeat (first | (with_reducible first | exact HB.out | apply below_alloc | apply pw_below_drewN | apply below_drew1) | exact HB.out)) hb); clear HT HB hb; have HT := n9_; have HB := n8_; clear n9_ n8_))
  go_ret2
  exact ⟨rfl, by repeat (first | (with_reducible first | exact HB.out | apply below_alloc | apply pw_below_drewN | apply below_drew1) | exact HB.out)⟩

set_option maxHeartbeats 8000000 in
set_option maxRecDepth 100000 in
theorem Next.cons_ (gt mb B : Nat) (most : Int) (v : Value) (x : S71) (xs : List S71) (ord : Int) (w : World) (hT : Whl w gt mb B most v (x :: xs) ord) : Calls Try.prog 23 #[.pointer (some ⟨gt, 0, none⟩)] w fun e w' => e = .returned (.tuple #[.int .u64 x.f1, .bool true]) ∧ Below w.heap.size w w' := by
  have HB := Aside0.mk (Below.refl w.heap.size w)
  have HT := Aside0.mk hT
  clear hT
  have hz : ((((x :: xs).length : Nat) : Int) == 0) = false := beq_false_of_ne (by rw [List.length_cons]; omega)
  go_enter Try.func23, Try.ntmps23
  go_upto_region 3 with (first | (go_at_call 25; with_reducible refine (Len.calls gt mb B most v (x :: xs) ord _ HT.out).mono ?_; rintro e w' ⟨rfl, hb⟩; have n9_ := Aside0.mk (Whl.below (by with_reducible exact HT.out) hb); have n8_ := Aside0.mk (below_step (by repeat (first | (with_reducible first | exact HB.out | apply below_alloc | apply pw_below_drewN | apply below_drew1) | exact HB.out)) hb); clear HT HB hb; have HT := n9_; have HB := n8_; clear n9_ n8_))
  obtain ⟨A, c, rfl, hc, hC⟩ := HT.out.slice
  have c1 := HT.out.c1
  obtain ⟨ad, e, x0, x1, x2⟩ := at_T71 hC 0 (by omega) (by rw [List.length_cons]; omega)
  cases e
  rw [show rd_T71 (x :: xs) 0 = x from rfl] at x0 x1 x2
  simp only [Int.toNat_zero, Nat.zero_mul, Go.Addr.add_zero'] at x0 x1 x2
  clear hC hz
  go_wp2
  go_ret2
  exact ⟨rfl, by repeat (first | (with_reducible first | exact HB.out | apply below_alloc | apply pw_below_drewN | apply below_drew1) | exact HB.out)⟩

set_option maxHeartbeats 8000000 in
set_option maxRecDepth 100000 in
theorem When.hit (gt mb B : Nat) (most : Int) (v : Value) (xs : List S71) (ord : Int) (hk : Keys xs) (k : ByteArray) (w : World) (hT : Whl w gt mb B most v xs ord) {x : S71} (hx : x ∈ xs) (hkx : x.f0 = k) : Calls Try.prog 21 #[.pointer (some ⟨gt, 0, none⟩), .string k] w fun e w' => e = .returned (.tuple #[.int .u64 x.f1, .bool true]) ∧ Below w.heap.size w w' := by
  have HB := Aside0.mk (Below.refl w.heap.size w)
  have HT := Aside0.mk hT
  clear hT
  have HK := Aside0.mk hk
  have HX := Aside0.mk hx
  subst hkx
  clear hk hx
  go_enter Try.func21, Try.ntmps21
  go_upto_region 3 with (first | (go_at_call 31; with_reducible refine (noneW.calls gt mb B most v xs ord _ HT.out).mono ?_; rintro e w' ⟨rfl, hb⟩; have n9_ := Aside0.mk (Whl.below (by with_reducible exact HT.out) hb); have n8_ := Aside0.mk (below_step (by repeat (first | (with_reducible first | exact HB.out | apply below_alloc | apply pw_below_drewN | apply below_drew1) | exact HB.out)) hb); clear HT HB hb; have HT := n9_; have HB := n8_; clear n9_ n8_))
  have c2 := HT.out.c2
  obtain ⟨w0, hw0⟩ : ∃ u, u = w' := ⟨_, rfl⟩
  have hl : (Instr.lookup 54 (.map (some mb)) (.string x.f0) true).run Try.prog w' = .ok (.tuple #[.agg #[.string x.f0, .int .u64 x.f1, .int .u64 x.f2], .bool true]) w' := HT.out.mapIs.hit HK.out HX.out
  clear hw0 w0
  go_wp2
  go_ret2
  exact ⟨rfl, by repeat (first | (with_reducible first | exact HB.out | apply below_alloc | apply pw_below_drewN | apply below_drew1) | exact HB.out)⟩

set_option maxHeartbeats 8000000 in
set_option maxRecDepth 100000 in
theorem When.miss (gt mb B : Nat) (most : Int) (v : Value) (xs : List S71) (ord : Int) (hk : Keys xs) (k : ByteArray) (w : World) (hT : Whl w gt mb B most v xs ord) (ho : okK k) (hx : ∀ x ∈ xs, x.f0 ≠ k) : Calls Try.prog 21 #[.pointer (some ⟨gt, 0, none⟩), .string k] w fun e w' => e = .returned (.tuple #[.int .u64 0, .bool false]) ∧ Below w.heap.size w w' := by
  have HB := Aside0.mk (Below.refl w.heap.size w)
  have HT := Aside0.mk hT
  clear hT
  have HK := Aside0.mk hk
  have HX := Aside0.mk hx
  have HO := Aside0.mk ho
  clear ho
  clear hk hx
  go_enter Try.func21, Try.ntmps21
  go_upto_region 3 with (first | (go_at_call 31; with_reducible refine (noneW.calls gt mb B most v xs ord _ HT.out).mono ?_; rintro e w' ⟨rfl, hb⟩; have n9_ := Aside0.mk (Whl.below (by with_reducible exact HT.out) hb); have n8_ := Aside0.mk (below_step (by repeat (first | (with_reducible first | exact HB.out | apply below_alloc | apply pw_below_drewN | apply below_drew1) | exact HB.out)) hb); clear HT HB hb; have HT := n9_; have HB := n8_; clear n9_ n8_))
  have c2 := HT.out.c2
  obtain ⟨w0, hw0⟩ : ∃ u, u = w' := ⟨_, rfl⟩
  have hl : (Instr.lookup 54 (.map (some mb)) (.string k) true).run Try.prog w' = .ok (.tuple #[.agg #[.string z71.f0, .int .u64 0, .int .u64 0], .bool false]) w' := HT.out.mapIs.miss HK.out HO.out HX.out
  clear hw0 w0
  go_wp2
  go_ret2
  exact ⟨rfl, by repeat (first | (with_reducible first | exact HB.out | apply below_alloc | apply pw_below_drewN | apply below_drew1) | exact HB.out)⟩

end Go.Proofs.Ytgfekeicgcnjfaa.GA
