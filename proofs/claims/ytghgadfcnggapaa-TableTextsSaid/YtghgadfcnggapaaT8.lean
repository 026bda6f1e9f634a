/- No table; lives. No condition. -/
import Derived.Test.YtghgadfcnggapaaT7
import Derived.Laws.CopyOwn
import Derived.Laws.CopyRow
import Derived.ChangeKeysEq
import Derived.Deep.RegionHeld3
import Derived.Deep.MidRow
import Derived.Shelf.Abstract
import Derived.Lib.Overlaps
import Derived.Lib.AppendZerosOnto
import Derived.Shelf.Spec.SlicesInsertGrow
namespace Go.Proofs.Ytghgadfcnggapaa.GA
open Go.RowKit Go.Shelf Go.Proofs.YtghgadfcnggapaaW.PrintWords Go.Proofs.YtghgadfcnggapaaW.PrintLast Go.Proofs.YtghgadfcnggapaaW.PrintMore
set_option linter.unusedVariables false
set_option linter.unusedSimpArgs false

/-- no table, or a zero one -/
def ZT (w : World) (v : Value) : Prop := v = .pointer none ∨ ∃ g, v = .pointer (some ⟨g, 0, none⟩) ∧ w.heap[g]? = some (.cells #[.int .i64 0, .slice none 0 0] 44 (0, 0))
theorem ZT.below {w w' : World} {v : Value} (h : ZT w v) (hb : Below w.heap.size w w') : ZT w' v := by
  rcases h with rfl | ⟨g, rfl, hg⟩
  · exact .inl rfl
  · exact .inr ⟨g, rfl, blk_below hg hb⟩
theorem noneX.calls (v : Value) (w : World) (hz : ZT w v) : Calls Try.prog 31 #[v] w fun e w' => e = .returned (.bool true) ∧ Below w.heap.size w w' := by
  rcases hz with rfl | ⟨g, rfl, hg⟩
  · exact noneN.calls w
  · exact noneZ.calls g _ w hg

set_option maxHeartbeats 8000000 in
set_option maxRecDepth 100000 in
theorem find.zt (v : Value) (k : Int) (w : World) (hz : ZT w v) : Calls Try.prog 30 #[v, .int .i64 k] w fun e w' => e = .returned (.tuple #[.int .i64 0, .bool false]) ∧ Below w.heap.size w w' := by
  have HB := Aside0.mk (Below.refl w.heap.size w)
  have HZ := Aside0.mk hz
  clear hz
  go_enter Try.func30, Try.ntmps30
  go_wp2_with (first
    | (go_at_call 31; with_reducible refine (noneX.calls v _ HZ.out).mono ?_; rintro e w' ⟨rfl, hb⟩; have n9_ := Aside0.mk (ZT.below (by with_reducible exact HZ.out) hb); have n8_ := Aside0.mk (below_step (by repeat (first | (with_reducible first | exact HB.out | apply below_alloc | apply pw_below_drewN | apply below_drew1) | exact HB.out)) hb); clear HZ HB hb; have HZ := n9_; have HB := n8_; clear n9_ n8_))
  go_ret2
  exact ⟨rfl, by repeat (first | (with_reducible first | exact HB.out | apply below_alloc | apply pw_below_drewN | apply below_drew1) | exact HB.out)⟩

set_option maxHeartbeats 8000000 in
set_option maxRecDepth 100000 in
theorem held.zt (v : Value) (k : Int) (w : World) (hz : ZT w v) : Calls Try.prog 34 #[v, .int .i64 k] w fun e w' => e = .returned (.tuple #[.int .i64 0, .int .i64 1]) ∧ Below w.heap.size w w' := by
  have HB := Aside0.mk (Below.refl w.heap.size w)
  have HZ := Aside0.mk hz
  clear hz
  go_enter Try.func34, Try.ntmps34
  go_wp2_with (first
    | (go_at_call 31; with_reducible refine (noneX.calls v _ HZ.out).mono ?_; rintro e w' ⟨rfl, hb⟩; have n9_ := Aside0.mk (ZT.below (by with_reducible exact HZ.out) hb); have n8_ := Aside0.mk (below_step (by repeat (first | (with_reducible first | exact HB.out | apply below_alloc | apply pw_below_drewN | apply below_drew1) | exact HB.out)) hb); clear HZ HB hb; have HZ := n9_; have HB := n8_; clear n9_ n8_)
    | (go_at_call 30; with_reducible refine (find.zt v k _ HZ.out).mono ?_; rintro e w' ⟨rfl, hb⟩; have n9_ := Aside0.mk (ZT.below (by with_reducible exact HZ.out) hb); have n8_ := Aside0.mk (below_step (by repeat (first | (with_reducible first | exact HB.out | apply below_alloc | apply pw_below_drewN | apply below_drew1) | exact HB.out)) hb); clear HZ HB hb; have HZ := n9_; have HB := n8_; clear n9_ n8_))
  go_ret2
  exact ⟨rfl, by repeat (first | (with_reducible first | exact HB.out | apply below_alloc | apply pw_below_drewN | apply below_drew1) | exact HB.out)⟩

set_option maxHeartbeats 8000000 in
set_option maxRecDepth 100000 in
theorem Get.zt (v : Value) (k : Int) (w : World) (hz : ZT w v) : Calls Try.prog 19 #[v, .int .i64 k] w fun e w' => e = .returned (.tuple #[.string ⟨#[]⟩, .bool false]) ∧ Below w.heap.size w w' := by
  have HB := Aside0.mk (Below.refl w.heap.size w)
  have HZ := Aside0.mk hz
  clear hz
  go_enter Try.func19, Try.ntmps19
  go_wp2_with (first
    | (go_at_call 34; with_reducible refine (held.zt v k _ HZ.out).mono ?_; rintro e w' ⟨rfl, hb⟩; have n9_ := Aside0.mk (ZT.below (by with_reducible exact HZ.out) hb); have n8_ := Aside0.mk (below_step (by repeat (first | (with_reducible first | exact HB.out | apply below_alloc | apply pw_below_drewN | apply below_drew1) | exact HB.out)) hb); clear HZ HB hb; have HZ := n9_; have HB := n8_; clear n9_ n8_))
  go_ret2
  exact ⟨rfl, by repeat (first | (with_reducible first | exact HB.out | apply below_alloc | apply pw_below_drewN | apply below_drew1) | exact HB.out)⟩

set_option maxHeartbeats 8000000 in
set_option maxRecDepth 100000 in
theorem Len.zt (v : Value)  (w : World) (hz : ZT w v) : Calls Try.prog 23 #[v] w fun e w' => e = .returned (.int .i64 0) ∧ Below w.heap.size w w' := by
  have HB := Aside0.mk (Below.refl w.heap.size w)
  have HZ := Aside0.mk hz
  clear hz
  go_enter Try.func23, Try.ntmps23
  go_wp2_with (first
    | (go_at_call 31; with_reducible refine (noneX.calls v _ HZ.out).mono ?_; rintro e w' ⟨rfl, hb⟩; have n9_ := Aside0.mk (ZT.below (by with_reducible exact HZ.out) hb); have n8_ := Aside0.mk (below_step (by repeat (first | (with_reducible first | exact HB.out | apply below_alloc | apply pw_below_drewN | apply below_drew1) | exact HB.out)) hb); clear HZ HB hb; have HZ := n9_; have HB := n8_; clear n9_ n8_))
  go_ret
  exact ⟨rfl, by repeat (first | (with_reducible first | exact HB.out | apply below_alloc | apply pw_below_drewN | apply below_drew1) | exact HB.out)⟩

set_option maxHeartbeats 8000000 in
set_option maxRecDepth 100000 in
theorem First.zt (v : Value)  (w : World) (hz : ZT w v) : Calls Try.prog 20 #[v] w fun e w' => e = .returned (.tuple #[.int .i64 0, .string ⟨#[]⟩, .bool false]) ∧ Below w.heap.size w w' := by
  have HB := Aside0.mk (Below.refl w.heap.size w)
  have HZ := Aside0.mk hz
  clear hz
  go_enter Try.func20, Try.ntmps20
  go_wp2_with (first
    | (go_at_call 23; with_reducible refine (Len.zt v _ HZ.out).mono ?_; rintro e w' ⟨rfl, hb⟩; have n9_ := Aside0.mk (ZT.below (by with_reducible exact HZ.out) hb); have n8_ := Aside0.mk (below_step (by repeat (first | (with_reducible first | exact HB.out | apply below_alloc | apply pw_below_drewN | apply below_drew1) | exact HB.out)) hb); clear HZ HB hb; have HZ := n9_; have HB := n8_; clear n9_ n8_))
  go_ret3
  exact ⟨rfl, by repeat (first | (with_reducible first | exact HB.out | apply below_alloc | apply pw_below_drewN | apply below_drew1) | exact HB.out)⟩

set_option maxHeartbeats 8000000 in
set_option maxRecDepth 100000 in
theorem Add.zt (v : Value) (k : Int) (x : ByteArray) (w : World) (hz : ZT w v) : Calls Try.prog 15 #[v, .int .i64 k, .string x] w fun e w' => e = .returned (.int .i64 1) ∧ Below w.heap.size w w' := by
  have HB := Aside0.mk (Below.refl w.heap.size w)
  have HZ := Aside0.mk hz
  clear hz
  go_enter Try.func15, Try.ntmps15
  go_wp2_with (first
    | (go_at_call 31; with_reducible refine (noneX.calls v _ HZ.out).mono ?_; rintro e w' ⟨rfl, hb⟩; have n9_ := Aside0.mk (ZT.below (by with_reducible exact HZ.out) hb); have n8_ := Aside0.mk (below_step (by repeat (first | (with_reducible first | exact HB.out | apply below_alloc | apply pw_below_drewN | apply below_drew1) | exact HB.out)) hb); clear HZ HB hb; have HZ := n9_; have HB := n8_; clear n9_ n8_)
    | (go_at_call 30; with_reducible refine (find.zt v k _ HZ.out).mono ?_; rintro e w' ⟨rfl, hb⟩; have n9_ := Aside0.mk (ZT.below (by with_reducible exact HZ.out) hb); have n8_ := Aside0.mk (below_step (by repeat (first | (with_reducible first | exact HB.out | apply below_alloc | apply pw_below_drewN | apply below_drew1) | exact HB.out)) hb); clear HZ HB hb; have HZ := n9_; have HB := n8_; clear n9_ n8_))
  go_ret
  exact ⟨rfl, by repeat (first | (with_reducible first | exact HB.out | apply below_alloc | apply pw_below_drewN | apply below_drew1) | exact HB.out)⟩

set_option maxHeartbeats 8000000 in
set_option maxRecDepth 100000 in
theorem Set.zt (v : Value) (k : Int) (x : ByteArray) (w : World) (hz : ZT w v) : Calls Try.prog 21 #[v, .int .i64 k, .string x] w fun e w' => e = .returned (.int .i64 1) ∧ Below w.heap.size w w' := by
  have HB := Aside0.mk (Below.refl w.heap.size w)
  have HZ := Aside0.mk hz
  clear hz
  go_enter Try.func21, Try.ntmps21
  go_wp2_with (first
    | (go_at_call 34; with_reducible refine (held.zt v k _ HZ.out).mono ?_; rintro e w' ⟨rfl, hb⟩; have n9_ := Aside0.mk (ZT.below (by with_reducible exact HZ.out) hb); have n8_ := Aside0.mk (below_step (by repeat (first | (with_reducible first | exact HB.out | apply below_alloc | apply pw_below_drewN | apply below_drew1) | exact HB.out)) hb); clear HZ HB hb; have HZ := n9_; have HB := n8_; clear n9_ n8_))
  go_ret
  exact ⟨rfl, by repeat (first | (with_reducible first | exact HB.out | apply below_alloc | apply pw_below_drewN | apply below_drew1) | exact HB.out)⟩

set_option maxHeartbeats 8000000 in
set_option maxRecDepth 100000 in
theorem Drop.zt (v : Value) (k : Int) (w : World) (hz : ZT w v) : Calls Try.prog 22 #[v, .int .i64 k] w fun e w' => e = .returned (.int .i64 1) ∧ Below w.heap.size w w' := by
  have HB := Aside0.mk (Below.refl w.heap.size w)
  have HZ := Aside0.mk hz
  clear hz
  go_enter Try.func22, Try.ntmps22
  go_wp2_with (first
    | (go_at_call 34; with_reducible refine (held.zt v k _ HZ.out).mono ?_; rintro e w' ⟨rfl, hb⟩; have n9_ := Aside0.mk (ZT.below (by with_reducible exact HZ.out) hb); have n8_ := Aside0.mk (below_step (by repeat (first | (with_reducible first | exact HB.out | apply below_alloc | apply pw_below_drewN | apply below_drew1) | exact HB.out)) hb); clear HZ HB hb; have HZ := n9_; have HB := n8_; clear n9_ n8_))
  go_ret
  exact ⟨rfl, by repeat (first | (with_reducible first | exact HB.out | apply below_alloc | apply pw_below_drewN | apply below_drew1) | exact HB.out)⟩

set_option maxHeartbeats 8000000 in
set_option maxRecDepth 100000 in
theorem Keys.zt (v : Value)  (w : World) (hz : ZT w v) : Calls Try.prog 16 #[v] w fun e w' => e = .returned (.slice none 0 0) ∧ Below w.heap.size w w' := by
  have HB := Aside0.mk (Below.refl w.heap.size w)
  have HZ := Aside0.mk hz
  clear hz
  go_enter Try.func16, Try.ntmps16
  go_wp2_with (first
    | (go_at_call 31; with_reducible refine (noneX.calls v _ HZ.out).mono ?_; rintro e w' ⟨rfl, hb⟩; have n9_ := Aside0.mk (ZT.below (by with_reducible exact HZ.out) hb); have n8_ := Aside0.mk (below_step (by repeat (first | (with_reducible first | exact HB.out | apply below_alloc | apply pw_below_drewN | apply below_drew1) | exact HB.out)) hb); clear HZ HB hb; have HZ := n9_; have HB := n8_; clear n9_ n8_))
  go_ret
  exact ⟨rfl, by repeat (first | (with_reducible first | exact HB.out | apply below_alloc | apply pw_below_drewN | apply below_drew1) | exact HB.out)⟩

set_option maxHeartbeats 8000000 in
set_option maxRecDepth 100000 in
theorem From.zt (v : Value) (k : Int) (w : World) (hz : ZT w v) : Calls Try.prog 17 #[v, .int .i64 k] w fun e w' => e = .returned (.slice none 0 0) ∧ Below w.heap.size w w' := by
  have HB := Aside0.mk (Below.refl w.heap.size w)
  have HZ := Aside0.mk hz
  clear hz
  go_enter Try.func17, Try.ntmps17
  go_wp2_with (first
    | (go_at_call 31; with_reducible refine (noneX.calls v _ HZ.out).mono ?_; rintro e w' ⟨rfl, hb⟩; have n9_ := Aside0.mk (ZT.below (by with_reducible exact HZ.out) hb); have n8_ := Aside0.mk (below_step (by repeat (first | (with_reducible first | exact HB.out | apply below_alloc | apply pw_below_drewN | apply below_drew1) | exact HB.out)) hb); clear HZ HB hb; have HZ := n9_; have HB := n8_; clear n9_ n8_))
  go_ret
  exact ⟨rfl, by repeat (first | (with_reducible first | exact HB.out | apply below_alloc | apply pw_below_drewN | apply below_drew1) | exact HB.out)⟩

def ls1 : List S64 := [(⟨5, ⟨#[97]⟩⟩ : S64)]
def ls2 : List S64 := [(⟨3, ⟨#[98]⟩⟩ : S64), (⟨5, ⟨#[97]⟩⟩ : S64)]
def ls3 : List S64 := [(⟨3, ⟨#[98]⟩⟩ : S64), (⟨5, ⟨#[101]⟩⟩ : S64)]
def ls4 : List S64 := [(⟨5, ⟨#[101]⟩⟩ : S64)]
def ls0 : List S64 := []
def k35 : List Int := [3, 5]
deriving instance DecidableEq for S64
theorem lv.a5 (gt B : Nat) (v : Value) (w : World) (hT : Tab w gt 2 B v ls0) : Calls Try.prog 15 #[.pointer (some ⟨gt, 0, none⟩), .int .i64 5, .string ⟨#[97]⟩] w (fun e w' => ∃ v', e = .returned (.int .i64 0) ∧ Tab w' gt 2 B v' ls1 ∧ Below B w w' ∧ FrT w w' ∧ w.heap.size ≤ w'.heap.size) := by
  have h := Add.ok gt 2 B v ls0 5 ⟨#[97]⟩ w hT (by decide) (by decide)
  rw [show ins ls0 (ix ls0 5) ⟨5, ⟨#[97]⟩⟩ = ls1 from by decide] at h
  exact h
theorem lv.b3 (gt B : Nat) (v : Value) (w : World) (hT : Tab w gt 2 B v ls1) : Calls Try.prog 15 #[.pointer (some ⟨gt, 0, none⟩), .int .i64 3, .string ⟨#[98]⟩] w (fun e w' => ∃ v', e = .returned (.int .i64 0) ∧ Tab w' gt 2 B v' ls2 ∧ Below B w w' ∧ FrT w w' ∧ w.heap.size ≤ w'.heap.size) := by
  have h := Add.ok gt 2 B v ls1 3 ⟨#[98]⟩ w hT (by decide) (by decide)
  rw [show ins ls1 (ix ls1 3) ⟨3, ⟨#[98]⟩⟩ = ls2 from by decide] at h
  exact h
theorem lv.c5 (gt B : Nat) (v : Value) (w : World) (hT : Tab w gt 2 B v ls2) : Calls Try.prog 15 #[.pointer (some ⟨gt, 0, none⟩), .int .i64 5, .string ⟨#[99]⟩] w (fun e w' => ∃ v', e = .returned (.int .i64 8) ∧ Tab w' gt 2 B v' ls2 ∧ Below B w w' ∧ FrT w w' ∧ w.heap.size ≤ w'.heap.size) := by
  refine (Add.twice gt 2 B v ls2 5 ⟨#[99]⟩ w hT (by decide)).mono ?_
  rintro e w' ⟨rfl, hb⟩
  exact ⟨v, rfl, hT.below hb, hb.mono hT.base, FrT.of hb, hb.size⟩
theorem lv.d9 (gt B : Nat) (v : Value) (w : World) (hT : Tab w gt 2 B v ls2) : Calls Try.prog 15 #[.pointer (some ⟨gt, 0, none⟩), .int .i64 9, .string ⟨#[100]⟩] w (fun e w' => ∃ v', e = .returned (.int .i64 10) ∧ Tab w' gt 2 B v' ls2 ∧ Below B w w' ∧ FrT w w' ∧ w.heap.size ≤ w'.heap.size) := by
  refine (Add.full gt 2 B v ls2 9 ⟨#[100]⟩ w hT (by decide) (by decide)).mono ?_
  rintro e w' ⟨rfl, hb⟩
  exact ⟨v, rfl, hT.below hb, hb.mono hT.base, FrT.of hb, hb.size⟩
theorem lv.e5 (gt B : Nat) (v : Value) (w : World) (hT : Tab w gt 2 B v ls2) : Calls Try.prog 21 #[.pointer (some ⟨gt, 0, none⟩), .int .i64 5, .string ⟨#[101]⟩] w (fun e w' => ∃ v', e = .returned (.int .i64 0) ∧ Tab w' gt 2 B v' ls3 ∧ Below B w w' ∧ FrT w w' ∧ w.heap.size ≤ w'.heap.size) := by
  have h := Set.yes gt 2 B v ls2 5 ⟨#[101]⟩ w hT (by decide)
  rw [show upd ls2 (ix ls2 5) ⟨#[101]⟩ = ls3 from by decide] at h
  exact h
theorem lv.f9 (gt B : Nat) (v : Value) (w : World) (hT : Tab w gt 2 B v ls3) : Calls Try.prog 21 #[.pointer (some ⟨gt, 0, none⟩), .int .i64 9, .string ⟨#[102]⟩] w (fun e w' => ∃ v', e = .returned (.int .i64 7) ∧ Tab w' gt 2 B v' ls3 ∧ Below B w w' ∧ FrT w w' ∧ w.heap.size ≤ w'.heap.size) := by
  refine (Set.not gt 2 B v ls3 9 ⟨#[102]⟩ w hT (by decide)).mono ?_
  rintro e w' ⟨rfl, hb⟩
  exact ⟨v, rfl, hT.below hb, hb.mono hT.base, FrT.of hb, hb.size⟩
theorem lv.g3 (gt B : Nat) (v : Value) (w : World) (hT : Tab w gt 2 B v ls3) : Calls Try.prog 22 #[.pointer (some ⟨gt, 0, none⟩), .int .i64 3] w (fun e w' => ∃ v', e = .returned (.int .i64 0) ∧ Tab w' gt 2 B v' ls4 ∧ Below B w w' ∧ FrT w w' ∧ w.heap.size ≤ w'.heap.size) := by
  have h := Drop.yes gt 2 B v ls3 3 w hT (by decide)
  rw [show ls3.eraseIdx (ix ls3 3) = ls4 from by decide] at h
  exact h
theorem lv.h3 (gt B : Nat) (v : Value) (w : World) (hT : Tab w gt 2 B v ls4) : Calls Try.prog 22 #[.pointer (some ⟨gt, 0, none⟩), .int .i64 3] w (fun e w' => ∃ v', e = .returned (.int .i64 7) ∧ Tab w' gt 2 B v' ls4 ∧ Below B w w' ∧ FrT w w' ∧ w.heap.size ≤ w'.heap.size) := by
  refine (Drop.not gt 2 B v ls4 3 w hT (by decide)).mono ?_
  rintro e w' ⟨rfl, hb⟩
  exact ⟨v, rfl, hT.below hb, hb.mono hT.base, FrT.of hb, hb.size⟩
theorem lv.first (gt B : Nat) (v : Value) (w : World) (hT : Tab w gt 2 B v ls3) : Calls Try.prog 20 #[.pointer (some ⟨gt, 0, none⟩)] w fun e w' => e = .returned (.tuple #[.int .i64 3, .string ⟨#[98]⟩, .bool true]) ∧ Below w.heap.size w w' := First.some_ gt 2 B v ⟨3, ⟨#[98]⟩⟩ [⟨5, ⟨#[101]⟩⟩] w hT
theorem lv.keys (gt B : Nat) (v : Value) (w : World) (hT : Tab w gt 2 B v ls3) : Calls Try.prog 16 #[.pointer (some ⟨gt, 0, none⟩)] w fun e w' => ∃ u, e = .returned u ∧ Kd.R (Kd.int .i64) 3 w' w.heap.size (fun _ => True) u k35 ∧ Below w.heap.size w w' := Keys.calls gt 2 B v ls3 w hT
theorem lv.get (gt B : Nat) (v : Value) (w : World) (hT : Tab w gt 2 B v ls4) : Calls Try.prog 19 #[.pointer (some ⟨gt, 0, none⟩), .int .i64 5] w fun e w' => e = .returned (.tuple #[.string ⟨#[101]⟩, .bool true]) ∧ Below w.heap.size w w' := by
  have h := Get.yes gt 2 B v ls4 5 w hT (by decide)
  rw [show (rd_T64 ls4 ((ix ls4 5 : Nat) : Int)).f1 = ⟨#[101]⟩ from by decide] at h
  exact h
theorem R_frame3 {w w' : World} {base : Nat} {v : Value} {xs : List Int} (h : (Kd.int .i64).R 3 w base (fun _ => True) v xs) (hf : FrT w w') : (Kd.int .i64).R 3 w' base (fun _ => True) v xs := R_frame h hf (by decide) (by intro q hq; cases hq)
theorem ls_new : ([] : List S64) = ls0 := rfl
theorem lit35 (W : World) (fr : Nat × Nat) : Kd.C (Kd.int .i64) (W.alloc (.cells #[.int .i64 3, .int .i64 5] 3 fr)) (some ⟨W.heap.size, 0, none⟩) k35.length k35 := by
  refine Kd.C_of_reads (d := 0) ⟨rfl, by decide, fun _ => ⟨_, rfl, ?_⟩⟩
  intro j hj
  have e : (⟨W.heap.size, 0, none⟩ : Addr).add j = ⟨W.heap.size, j, none⟩ := by unfold Addr.add; split <;> simp_all
  rw [e, World.cell?_alloc_mark]
  have hj : j < 2 := hj
  rcases (by omega : j = 0 ∨ j = 1) with rfl | rfl <;> rfl
theorem lv.ints (base : Nat) (A : Option Addr) (c : Nat) (W : World) (hr : Kd.R (Kd.int .i64) 3 W base (fun _ => True) (.slice A k35.length c) k35) : Calls Try.prog 18 #[.slice A k35.length c, .slice (some ⟨W.heap.size, 0, none⟩) 2 2] (W.alloc (.cells #[.int .i64 3, .int .i64 5] 3)) fun e w' => e = .returned (.bool true) ∧ Below W.heap.size W w' := by
  have hb0 : Below W.heap.size W (W.alloc (.cells #[.int .i64 3, .int .i64 5] 3)) := below_alloc (Below.refl _ _) _
  obtain ⟨_, hc, hC⟩ := Kd.R_reads' hr
  refine (cohortref00_Ints.calls 5 A c k35 (some ⟨W.heap.size, 0, none⟩) 2 k35 true _ (Kd.C_below hC hb0) hc (lit35 W (0, 0)) (Nat.le_refl _) (by decide +kernel)).mono ?_
  rintro e w' ⟨rfl, nd, rfl⟩
  exact ⟨rfl, pw_below_drewN hb0 nd⟩

set_option maxHeartbeats 8000000 in
set_option maxRecDepth 100000 in
theorem lives.calls (w : World) : Calls Try.prog 13 #[] w fun e w' => e = .returned (.bool true) ∧ Below w.heap.size w w' := by
  have HX := Aside0.mk (Below.refl w.heap.size w)
  go_enter Try.func13, Try.ntmps13
  go_upto_region 12 with (first | (go_at_call 14; with_reducible refine (New.calls 2 w (by decide) (by decide)).mono ?_; rintro e w' ⟨rfl, ht, hb, hs⟩; rw [ls_new] at ht; have HT := Aside0.mk ht; have HS := Aside0.mk (Nat.le_of_lt hs); have HB := Aside0.mk hb; clear ht hb hs HX) | (go_at_call 14; with_reducible refine (New.none_ 0 _ (by decide)).mono ?_; rintro e w' ⟨rfl, hb⟩; have ht := HT.out.below hb; have n8_ := Aside0.mk (Below.trans HB.out (Below.mono hb HS.out)); have n7_ := Aside0.mk (Nat.le_trans HS.out hb.size); clear HT HB HS hb; have HT := Aside0.mk ht; have HB := n8_; have HS := n7_; clear ht n8_ n7_) | (go_at_call 15; with_reducible refine (lv.a5 _ _ _ _ HT.out).mono ?_; rintro e w' ⟨v', rfl, ht, hb, hf, hs⟩; clear hf; have n8_ := Aside0.mk (Below.trans HB.out hb); have n7_ := Aside0.mk (Nat.le_trans HS.out hs); clear HT HB HS hb hs; have HT := Aside0.mk ht; have HB := n8_; have HS := n7_; clear ht n8_ n7_) | (go_at_call 15; with_reducible refine (lv.b3 _ _ _ _ HT.out).mono ?_; rintro e w' ⟨v', rfl, ht, hb, hf, hs⟩; clear hf; have n8_ := Aside0.mk (Below.trans HB.out hb); have n7_ := Aside0.mk (Nat.le_trans HS.out hs); clear HT HB HS hb hs; have HT := Aside0.mk ht; have HB := n8_; have HS := n7_; clear ht n8_ n7_) | (go_at_call 15; with_reducible refine (lv.c5 _ _ _ _ HT.out).mono ?_; rintro e w' ⟨v', rfl, ht, hb, hf, hs⟩; clear hf; have n8_ := Aside0.mk (Below.trans HB.out hb); have n7_ := Aside0.mk (Nat.le_trans HS.out hs); clear HT HB HS hb hs; have HT := Aside0.mk ht; have HB := n8_; have HS := n7_; clear ht n8_ n7_) | (go_at_call 15; with_reducible refine (lv.d9 _ _ _ _ HT.out).mono ?_; rintro e w' ⟨v', rfl, ht, hb, hf, hs⟩; clear hf; have n8_ := Aside0.mk (Below.trans HB.out hb); have n7_ := Aside0.mk (Nat.le_trans HS.out hs); clear HT HB HS hb hs; have HT := Aside0.mk ht; have HB := n8_; have HS := n7_; clear ht n8_ n7_) | (go_at_call 21; with_reducible refine (lv.e5 _ _ _ _ HT.out).mono ?_; rintro e w' ⟨v', rfl, ht, hb, hf, hs⟩; clear hf; have n8_ := Aside0.mk (Below.trans HB.out hb); have n7_ := Aside0.mk (Nat.le_trans HS.out hs); clear HT HB HS hb hs; have HT := Aside0.mk ht; have HB := n8_; have HS := n7_; clear ht n8_ n7_) | (go_at_call 21; with_reducible refine (lv.f9 _ _ _ _ HT.out).mono ?_; rintro e w' ⟨v', rfl, ht, hb, hf, hs⟩; clear hf; have n8_ := Aside0.mk (Below.trans HB.out hb); have n7_ := Aside0.mk (Nat.le_trans HS.out hs); clear HT HB HS hb hs; have HT := Aside0.mk ht; have HB := n8_; have HS := n7_; clear ht n8_ n7_) | (go_at_call 20; with_reducible refine (lv.first _ _ _ _ HT.out).mono ?_; rintro e w' ⟨rfl, hb⟩; have ht := HT.out.below hb; have n8_ := Aside0.mk (Below.trans HB.out (Below.mono hb HS.out)); have n7_ := Aside0.mk (Nat.le_trans HS.out hb.size); clear HT HB HS hb; have HT := Aside0.mk ht; have HB := n8_; have HS := n7_; clear ht n8_ n7_) | (go_at_call 16; with_reducible refine (lv.keys _ _ _ _ HT.out).mono ?_; rintro e w' ⟨u, rfl, hk, hb⟩; obtain ⟨Ak, ck, rfl⟩ := Kd.R_slice hk; have HK := Aside0.mk hk; clear hk; have ht := HT.out.below hb; have n8_ := Aside0.mk (Below.trans HB.out (Below.mono hb HS.out)); have n7_ := Aside0.mk (Nat.le_trans HS.out hb.size); clear HT HB HS hb; have HT := Aside0.mk ht; have HB := n8_; have HS := n7_; clear ht n8_ n7_))
  go_wp2_with (first | (go_at_call 22; with_reducible refine (lv.g3 _ _ _ _ HT.out).mono ?_; rintro e w' ⟨v', rfl, ht, hb, hf, hs⟩; have m1_ := Aside0.mk (R_frame3 HK.out hf); clear HK; have HK := m1_; clear m1_; clear hf; have n8_ := Aside0.mk (Below.trans HB.out hb); have n7_ := Aside0.mk (Nat.le_trans HS.out hs); clear HT HB HS hb hs; have HT := Aside0.mk ht; have HB := n8_; have HS := n7_; clear ht n8_ n7_) | (go_at_call 22; with_reducible refine (lv.h3 _ _ _ _ HT.out).mono ?_; rintro e w' ⟨v', rfl, ht, hb, hf, hs⟩; have m1_ := Aside0.mk (R_frame3 HK.out hf); clear HK; have HK := m1_; clear m1_; clear hf; have n8_ := Aside0.mk (Below.trans HB.out hb); have n7_ := Aside0.mk (Nat.le_trans HS.out hs); clear HT HB HS hb hs; have HT := Aside0.mk ht; have HB := n8_; have HS := n7_; clear ht n8_ n7_) | (go_at_call 19; with_reducible refine (lv.get _ _ _ _ HT.out).mono ?_; rintro e w' ⟨rfl, hb⟩; have m1_ := Aside0.mk (Kd.R_below HK.out hb); clear HK; have HK := m1_; clear m1_; have ht := HT.out.below hb; have n8_ := Aside0.mk (Below.trans HB.out (Below.mono hb HS.out)); have n7_ := Aside0.mk (Nat.le_trans HS.out hb.size); clear HT HB HS hb; have HT := Aside0.mk ht; have HB := n8_; have HS := n7_; clear ht n8_ n7_) | (go_at_call 18; with_reducible refine (lv.ints _ Ak ck _ HK.out).mono ?_; rintro e w' ⟨rfl, hb⟩; have n8_ := Aside0.mk (Below.trans HB.out (Below.mono hb HS.out)); clear HB hb HK; have HB := n8_; clear n8_))
  go_ret
  exact ⟨rfl, HB.out⟩

end Go.Proofs.Ytghgadfcnggapaa.GA
