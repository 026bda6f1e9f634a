/- No wheel; lives. No condition. -/
import Derived.Test.YtgfekeicgcnjfaaA11
import Derived.Laws.CopyOwn
import Derived.Laws.CopyRow
import Derived.ChangeKeysEq
import Derived.Deep.RegionHeld3
import Derived.Deep.MidRow
import Derived.Shelf.Abstract
import Derived.Lib.Overlaps
import Derived.Lib.AppendZerosOnto
import Derived.Shelf.Spec.SlicesInsertGrow
import Derived.Maps.OwnSet
import Derived.WalkSpells
namespace Go.Proofs.Ytgfekeicgcnjfaa.GA
open Go.RowKit Go.Shelf Go.Proofs.YtgfekeicgcnjfaaW.PrintWords Go.Proofs.YtgfekeicgcnjfaaW.PrintLast Go.Proofs.YtgfekeicgcnjfaaW.PrintMore
set_option linter.unusedVariables false
set_option linter.unusedSimpArgs false

/-- no wheel, or a zero one -/
def ZW (w : World) (v : Value) : Prop := v = .pointer none ∨ ∃ g, v = .pointer (some ⟨g, 0, none⟩) ∧ w.heap[g]? = some (.cells #[.int .i64 0, .slice none 0 0, .map none, .int .u64 0] 56 (0, 0))
theorem ZW.below {w w' : World} {v : Value} (h : ZW w v) (hb : Below w.heap.size w w') : ZW w' v := by
  rcases h with rfl | ⟨g, rfl, hg⟩
  · exact .inl rfl
  · exact .inr ⟨g, rfl, blk_below hg hb⟩
theorem noneX.calls (v : Value) (w : World) (hz : ZW w v) : Calls Try.prog 31 #[v] w fun e w' => e = .returned (.bool true) ∧ Below w.heap.size w w' := by
  rcases hz with rfl | ⟨g, rfl, hg⟩
  · exact noneN.calls w
  · exact noneZ.calls g _ _ _ w hg

set_option maxHeartbeats 8000000 in
set_option maxRecDepth 100000 in
theorem Len.zt (v : Value)  (w : World) (hz : ZW w v) : Calls Try.prog 25 #[v] w fun e w' => e = .returned (.int .i64 0) ∧ Below w.heap.size w w' := by
  have HB := Aside0.mk (Below.refl w.heap.size w)
  have HZ := Aside0.mk hz
  clear hz
  go_enter Try.func25, Try.ntmps25
  go_wp2_with (first
    | (go_at_call 31; with_reducible refine (noneX.calls v _ HZ.out).mono ?_; rintro e w' ⟨rfl, hb⟩; have n9_ := Aside0.mk (ZW.below (by with_reducible exact HZ.out) hb); have n8_ := Aside0.mk (below_step (by repeat (first | (with_reducible first | exact HB.out | apply below_alloc | apply pw_below_drewN | apply below_drew1) | exact HB.out)) hb); clear HZ HB hb; have HZ := n9_; have HB := n8_; clear n9_ n8_))
  go_ret
  exact ⟨rfl, by repeat (first | (with_reducible first | exact HB.out | apply below_alloc | apply pw_below_drewN | apply below_drew1) | exact HB.out)⟩

set_option maxHeartbeats 8000000 in
set_option maxRecDepth 100000 in
theorem Next.zt (v : Value)  (w : World) (hz : ZW w v) : Calls Try.prog 23 #[v] w fun e w' => e = .returned (.tuple #[.int .u64 0, .bool false]) ∧ Below w.heap.size w w' := by
  have HB := Aside0.mk (Below.refl w.heap.size w)
  have HZ := Aside0.mk hz
  clear hz
  go_enter Try.func23, Try.ntmps23
  go_wp2_with (first
    | (go_at_call 25; with_reducible refine (Len.zt v _ HZ.out).mono ?_; rintro e w' ⟨rfl, hb⟩; have n9_ := Aside0.mk (ZW.below (by with_reducible exact HZ.out) hb); have n8_ := Aside0.mk (below_step (by repeat (first | (with_reducible first | exact HB.out | apply below_alloc | apply pw_below_drewN | apply below_drew1) | exact HB.out)) hb); clear HZ HB hb; have HZ := n9_; have HB := n8_; clear n9_ n8_))
  go_ret2
  exact ⟨rfl, by repeat (first | (with_reducible first | exact HB.out | apply below_alloc | apply pw_below_drewN | apply below_drew1) | exact HB.out)⟩

set_option maxHeartbeats 8000000 in
set_option maxRecDepth 100000 in
theorem When.zt (v : Value) (k : ByteArray) (w : World) (hz : ZW w v) : Calls Try.prog 21 #[v, .string k] w fun e w' => e = .returned (.tuple #[.int .u64 0, .bool false]) ∧ Below w.heap.size w w' := by
  have HB := Aside0.mk (Below.refl w.heap.size w)
  have HZ := Aside0.mk hz
  clear hz
  go_enter Try.func21, Try.ntmps21
  go_wp2_with (first
    | (go_at_call 31; with_reducible refine (noneX.calls v _ HZ.out).mono ?_; rintro e w' ⟨rfl, hb⟩; have n9_ := Aside0.mk (ZW.below (by with_reducible exact HZ.out) hb); have n8_ := Aside0.mk (below_step (by repeat (first | (with_reducible first | exact HB.out | apply below_alloc | apply pw_below_drewN | apply below_drew1) | exact HB.out)) hb); clear HZ HB hb; have HZ := n9_; have HB := n8_; clear n9_ n8_))
  go_ret2
  exact ⟨rfl, by repeat (first | (with_reducible first | exact HB.out | apply below_alloc | apply pw_below_drewN | apply below_drew1) | exact HB.out)⟩

set_option maxHeartbeats 8000000 in
set_option maxRecDepth 100000 in
theorem Set.zt (v : Value) (k : ByteArray) (x : Int) (w : World) (hz : ZW w v) : Calls Try.prog 14 #[v, .string k, .int .u64 x] w fun e w' => e = .returned (.int .i64 1) ∧ Below w.heap.size w w' := by
  have HB := Aside0.mk (Below.refl w.heap.size w)
  have HZ := Aside0.mk hz
  clear hz
  go_enter Try.func14, Try.ntmps14
  go_wp2_with (first
    | (go_at_call 31; with_reducible refine (noneX.calls v _ HZ.out).mono ?_; rintro e w' ⟨rfl, hb⟩; have n9_ := Aside0.mk (ZW.below (by with_reducible exact HZ.out) hb); have n8_ := Aside0.mk (below_step (by repeat (first | (with_reducible first | exact HB.out | apply below_alloc | apply pw_below_drewN | apply below_drew1) | exact HB.out)) hb); clear HZ HB hb; have HZ := n9_; have HB := n8_; clear n9_ n8_))
  go_ret
  exact ⟨rfl, by repeat (first | (with_reducible first | exact HB.out | apply below_alloc | apply pw_below_drewN | apply below_drew1) | exact HB.out)⟩

set_option maxHeartbeats 8000000 in
set_option maxRecDepth 100000 in
theorem Stop.zt (v : Value) (k : ByteArray) (w : World) (hz : ZW w v) : Calls Try.prog 16 #[v, .string k] w fun e w' => e = .returned (.int .i64 1) ∧ Below w.heap.size w w' := by
  have HB := Aside0.mk (Below.refl w.heap.size w)
  have HZ := Aside0.mk hz
  clear hz
  go_enter Try.func16, Try.ntmps16
  go_wp2_with (first
    | (go_at_call 31; with_reducible refine (noneX.calls v _ HZ.out).mono ?_; rintro e w' ⟨rfl, hb⟩; have n9_ := Aside0.mk (ZW.below (by with_reducible exact HZ.out) hb); have n8_ := Aside0.mk (below_step (by repeat (first | (with_reducible first | exact HB.out | apply below_alloc | apply pw_below_drewN | apply below_drew1) | exact HB.out)) hb); clear HZ HB hb; have HZ := n9_; have HB := n8_; clear n9_ n8_))
  go_ret
  exact ⟨rfl, by repeat (first | (with_reducible first | exact HB.out | apply below_alloc | apply pw_below_drewN | apply below_drew1) | exact HB.out)⟩

set_option maxHeartbeats 8000000 in
set_option maxRecDepth 100000 in
theorem Turn.zt (v : Value) (x : Int) (w : World) (hz : ZW w v) : Calls Try.prog 19 #[v, .int .u64 x] w fun e w' => e = .returned (.slice none 0 0) ∧ Below w.heap.size w w' := by
  have HB := Aside0.mk (Below.refl w.heap.size w)
  have HZ := Aside0.mk hz
  clear hz
  go_enter Try.func19, Try.ntmps19
  go_wp2_with (first
    | (go_at_call 31; with_reducible refine (noneX.calls v _ HZ.out).mono ?_; rintro e w' ⟨rfl, hb⟩; have n9_ := Aside0.mk (ZW.below (by with_reducible exact HZ.out) hb); have n8_ := Aside0.mk (below_step (by repeat (first | (with_reducible first | exact HB.out | apply below_alloc | apply pw_below_drewN | apply below_drew1) | exact HB.out)) hb); clear HZ HB hb; have HZ := n9_; have HB := n8_; clear n9_ n8_))
  go_ret
  exact ⟨rfl, by repeat (first | (with_reducible first | exact HB.out | apply below_alloc | apply pw_below_drewN | apply below_drew1) | exact HB.out)⟩

def ws1 : List S71 := [(⟨⟨#[97]⟩, 5, 1⟩ : S71)]
def ws2 : List S71 := [(⟨⟨#[97]⟩, 5, 1⟩ : S71), (⟨⟨#[98]⟩, 5, 2⟩ : S71)]
def ws3 : List S71 := [(⟨⟨#[98]⟩, 5, 2⟩ : S71), (⟨⟨#[97]⟩, 5, 3⟩ : S71)]
def ws0 : List S71 := []
def kba : List ByteArray := [⟨#[98]⟩, ⟨#[97]⟩]
deriving instance DecidableEq for S71
theorem okk (k : ByteArray) (h : k.size ≤ 100) : okK k := Nat.le_trans h (by decide)
theorem wp0 : Wp ws0 0 := ⟨⟨List.Pairwise.nil, fun x h => nomatch h⟩, List.Pairwise.nil, fun x h => nomatch h⟩
theorem wp1 : Wp ws1 1 := by
  have h := wp0.ins (d := (⟨⟨#[97]⟩, 5, 1⟩ : S71)) rfl (okk _ (by decide)) (by decide)
  rw [show ins ws0 (⟨⟨#[97]⟩, 5, 1⟩ : S71) = ws1 from by decide] at h
  exact h
theorem wp2 : Wp ws2 2 := by
  have h := wp1.ins (d := (⟨⟨#[98]⟩, 5, 2⟩ : S71)) rfl (okk _ (by decide)) (by decide)
  rw [show ins ws1 (⟨⟨#[98]⟩, 5, 2⟩ : S71) = ws2 from by decide] at h
  exact h
theorem mem2 : (⟨⟨#[97]⟩, 5, 1⟩ : S71) ∈ ws2 := by decide
theorem wp3 : Wp ws3 3 := by
  have h := (wp2.out (⟨⟨#[97]⟩, 5, 1⟩ : S71)).ins (d := (⟨⟨#[97]⟩, 5, 3⟩ : S71)) rfl (okk _ (by decide)) (by decide)
  rw [show ins (out ws2 (⟨⟨#[97]⟩, 5, 1⟩ : S71)) (⟨⟨#[97]⟩, 5, 3⟩ : S71) = ws3 from by decide] at h
  exact h

theorem lv.a5 (gt mb B : Nat) (v : Value) (w : World) (hT : Whl w gt mb B 2 v ws0 0) : Calls Try.prog 14 #[.pointer (some ⟨gt, 0, none⟩), .string ⟨#[97]⟩, .int .u64 5] w (fun e w' => ∃ v', e = .returned (.int .i64 0) ∧ Whl w' gt mb B 2 v' ws1 1 ∧ Below B w w' ∧ w.heap.size ≤ w'.heap.size) := by
  refine (Set.new gt mb B 2 v ws0 0 wp0 ⟨#[97]⟩ 5 (by decide) (by decide) (by decide) (by decide) (by decide) w hT (okk _ (by decide)) (by decide)).mono ?_
  rintro e w' ⟨v', rfl, h1, h2, -, -⟩
  rw [show ins ws0 ⟨⟨#[97]⟩, 5, 0 + 1⟩ = ws1 from by decide] at h1
  exact ⟨v', rfl, h1, h2, h2.size⟩
theorem lv.b5 (gt mb B : Nat) (v : Value) (w : World) (hT : Whl w gt mb B 2 v ws1 1) : Calls Try.prog 14 #[.pointer (some ⟨gt, 0, none⟩), .string ⟨#[98]⟩, .int .u64 5] w (fun e w' => ∃ v', e = .returned (.int .i64 0) ∧ Whl w' gt mb B 2 v' ws2 2 ∧ Below B w w' ∧ w.heap.size ≤ w'.heap.size) := by
  refine (Set.new gt mb B 2 v ws1 1 wp1 ⟨#[98]⟩ 5 (by decide) (by decide) (by decide) (by decide) (by decide) w hT (okk _ (by decide)) (by decide)).mono ?_
  rintro e w' ⟨v', rfl, h1, h2, -, -⟩
  rw [show ins ws1 ⟨⟨#[98]⟩, 5, 1 + 1⟩ = ws2 from by decide] at h1
  exact ⟨v', rfl, h1, h2, h2.size⟩
theorem lv.c1 (gt mb B : Nat) (v : Value) (w : World) (hT : Whl w gt mb B 2 v ws2 2) : Calls Try.prog 14 #[.pointer (some ⟨gt, 0, none⟩), .string ⟨#[99]⟩, .int .u64 1] w (fun e w' => ∃ v', e = .returned (.int .i64 10) ∧ Whl w' gt mb B 2 v' ws2 2 ∧ Below B w w' ∧ w.heap.size ≤ w'.heap.size) := by
  refine (Set.full gt mb B 2 v ws2 2 wp2 ⟨#[99]⟩ 1 (by decide) (by decide) w hT (okk _ (by decide)) (by decide)).mono ?_
  rintro e w' ⟨rfl, hb⟩
  exact ⟨v, rfl, hT.below hb, hb.mono hT.base, hb.size⟩
theorem lv.a6 (gt mb B : Nat) (v : Value) (w : World) (hT : Whl w gt mb B 2 v ws2 2) : Calls Try.prog 14 #[.pointer (some ⟨gt, 0, none⟩), .string ⟨#[97]⟩, .int .u64 5] w (fun e w' => ∃ v', e = .returned (.int .i64 0) ∧ Whl w' gt mb B 2 v' ws3 3 ∧ Below B w w' ∧ w.heap.size ≤ w'.heap.size) := by
  refine (Set.again gt mb B 2 v ws2 2 wp2 ⟨#[97]⟩ 5 (by decide) (by decide) (by decide) w hT mem2 rfl).mono ?_
  rintro e w' ⟨v', rfl, h1, h2, -, -⟩
  rw [show ins (out ws2 (⟨⟨#[97]⟩, 5, 1⟩ : S71)) ⟨⟨#[97]⟩, 5, 2 + 1⟩ = ws3 from by decide] at h1
  exact ⟨v', rfl, h1, h2, h2.size⟩
theorem lv.next (gt mb B : Nat) (v : Value) (w : World) (hT : Whl w gt mb B 2 v ws3 3) : Calls Try.prog 23 #[.pointer (some ⟨gt, 0, none⟩)] w fun e w' => e = .returned (.tuple #[.int .u64 5, .bool true]) ∧ Below w.heap.size w w' := Next.cons_ gt mb B 2 v (⟨⟨#[98]⟩, 5, 2⟩ : S71) [(⟨⟨#[97]⟩, 5, 3⟩ : S71)] 3 w hT
theorem lv.t4 (gt mb B : Nat) (v : Value) (w : World) (hT : Whl w gt mb B 2 v ws3 3) : Calls Try.prog 19 #[.pointer (some ⟨gt, 0, none⟩), .int .u64 4] w fun e w' => ∃ A c v', e = .returned (.slice A 0 c) ∧ Whl w' gt mb B 2 v' ws3 3 ∧ Below B w w' ∧ w.heap.size ≤ w'.heap.size := by
  refine (Turn.calls gt mb B 2 v ws3 3 wp3 4 w hT).mono ?_
  rintro e w' ⟨A, c, ks, v', rfl, hk, hr, hT', hb, -, -⟩
  rw [show (due ws3 4).map (·.f0) = [] from by decide] at hk
  subst hk
  rw [show later ws3 4 = ws3 from by decide] at hT'
  exact ⟨A, c, v', rfl, hT', hb, hb.size⟩
theorem lv.t5 (gt mb B : Nat) (v : Value) (w : World) (hT : Whl w gt mb B 2 v ws3 3) : Calls Try.prog 19 #[.pointer (some ⟨gt, 0, none⟩), .int .u64 5] w fun e w' => ∃ A c v', e = .returned (.slice A kba.length c) ∧ Kd.R Kd.string 9 w' w.heap.size (fun _ => True) (.slice A kba.length c) kba ∧ Whl w' gt mb B 2 v' ws0 3 ∧ Below B w w' ∧ w.heap.size ≤ w'.heap.size := by
  refine (Turn.calls gt mb B 2 v ws3 3 wp3 5 w hT).mono ?_
  rintro e w' ⟨A, c, ks, v', rfl, hk, hr, hT', hb, -, -⟩
  rw [show (due ws3 5).map (·.f0) = kba from by decide] at hk
  subst hk
  rw [show later ws3 5 = ws0 from by decide] at hT'
  exact ⟨A, c, v', rfl, hr, hT', hb, hb.size⟩
theorem lv.len (gt mb B : Nat) (v : Value) (w : World) (hT : Whl w gt mb B 2 v ws0 3) : Calls Try.prog 25 #[.pointer (some ⟨gt, 0, none⟩)] w fun e w' => e = .returned (.int .i64 0) ∧ Below w.heap.size w w' := Len.calls gt mb B 2 v ws0 3 w hT
theorem lv.stop (gt mb B : Nat) (v : Value) (w : World) (hT : Whl w gt mb B 2 v ws0 3) : Calls Try.prog 16 #[.pointer (some ⟨gt, 0, none⟩), .string ⟨#[97]⟩] w fun e w' => e = .returned (.int .i64 7) ∧ Below w.heap.size w w' :=
  Stop.miss gt mb B 2 v ws0 3 ⟨wp0.1, wp0.2.1, fun x h => nomatch h⟩ ⟨#[97]⟩ w hT (okk _ (by decide)) (fun x h => nomatch h)
theorem litba (W : World) (fr : Nat × Nat) : Kd.C Kd.string (W.alloc (.cells #[.string ⟨#[98]⟩, .string ⟨#[97]⟩] 9 fr)) (some ⟨W.heap.size, 0, none⟩) kba.length kba := by
  refine Kd.C_of_reads (enc := Value.string) (d := ByteArray.empty) (h1 := fun _ => rfl) ⟨rfl, by decide, fun _ => ⟨_, rfl, ?_⟩⟩
  intro j hj
  have e : (⟨W.heap.size, 0, none⟩ : Addr).add j = ⟨W.heap.size, j, none⟩ := by unfold Addr.add; split <;> simp_all
  rw [e, World.cell?_alloc_mark]
  have hj : j < 2 := hj
  rcases (by omega : j = 0 ∨ j = 1) with rfl | rfl <;> rfl
theorem lv.texts (base : Nat) (A : Option Addr) (c : Nat) (W : World) (hr : Kd.R Kd.string 9 W base (fun _ => True) (.slice A kba.length c) kba) : Calls Try.prog 18 #[.slice A kba.length c, .slice (some ⟨W.heap.size, 0, none⟩) 2 2] (W.alloc (.cells #[.string ⟨#[98]⟩, .string ⟨#[97]⟩] 9)) fun e w' => e = .returned (.bool true) ∧ Below W.heap.size W w' := by
  have hb0 : Below W.heap.size W (W.alloc (.cells #[.string ⟨#[98]⟩, .string ⟨#[97]⟩] 9)) := below_alloc (Below.refl _ _) _
  obtain ⟨_, hc, hC⟩ := Kd.R_reads' hr
  refine (cohortref00_Texts.calls 5 A c kba (some ⟨W.heap.size, 0, none⟩) 2 kba true _ (Kd.C_below hC hb0) hc (litba W (0, 0)) (Nat.le_refl _) (by decide +kernel)).mono ?_
  rintro e w' ⟨rfl, nd, rfl⟩
  exact ⟨rfl, pw_below_drewN hb0 nd⟩
theorem ls_new : ([] : List S71) = ws0 := rfl

set_option maxHeartbeats 8000000 in
set_option maxRecDepth 100000 in
theorem lives.calls (w : World) : Calls Try.prog 11 #[] w fun e w' => e = .returned (.bool true) ∧ Below w.heap.size w w' := by
  have HX := Aside0.mk (Below.refl w.heap.size w)
  go_enter Try.func11, Try.ntmps11
  go_upto_region 11 with (first | (go_at_call 12; with_reducible refine (New.calls 2 w (by decide)).mono ?_; rintro e w' ⟨rfl, ht, hb, hs⟩; rw [ls_new] at ht; have HT := Aside0.mk ht; have HS := Aside0.mk hb.size; have HB := Aside0.mk hb; clear ht hb hs HX) | (go_at_call 12; with_reducible refine (New.none_ 0 _ (by decide)).mono ?_; rintro e w' ⟨rfl, hb⟩; have ht := HT.out.below hb; have n8_ := Aside0.mk (Below.trans HB.out (Below.mono hb HS.out)); have n7_ := Aside0.mk (Nat.le_trans HS.out hb.size); clear HT HB HS hb; have HT := Aside0.mk ht; have HB := n8_; have HS := n7_; clear ht n8_ n7_) | (go_at_call 14; with_reducible refine (lv.a5 _ _ _ _ _ HT.out).mono ?_; rintro e w' ⟨v', rfl, ht, hb, hs⟩; have n8_ := Aside0.mk (Below.trans HB.out hb); have n7_ := Aside0.mk (Nat.le_trans HS.out hs); clear HT HB HS hb hs; have HT := Aside0.mk ht; have HB := n8_; have HS := n7_; clear ht n8_ n7_) | (go_at_call 14; with_reducible refine (lv.b5 _ _ _ _ _ HT.out).mono ?_; rintro e w' ⟨v', rfl, ht, hb, hs⟩; have n8_ := Aside0.mk (Below.trans HB.out hb); have n7_ := Aside0.mk (Nat.le_trans HS.out hs); clear HT HB HS hb hs; have HT := Aside0.mk ht; have HB := n8_; have HS := n7_; clear ht n8_ n7_) | (go_at_call 14; with_reducible refine (lv.c1 _ _ _ _ _ HT.out).mono ?_; rintro e w' ⟨v', rfl, ht, hb, hs⟩; have n8_ := Aside0.mk (Below.trans HB.out hb); have n7_ := Aside0.mk (Nat.le_trans HS.out hs); clear HT HB HS hb hs; have HT := Aside0.mk ht; have HB := n8_; have HS := n7_; clear ht n8_ n7_) | (go_at_call 14; with_reducible refine (lv.a6 _ _ _ _ _ HT.out).mono ?_; rintro e w' ⟨v', rfl, ht, hb, hs⟩; have n8_ := Aside0.mk (Below.trans HB.out hb); have n7_ := Aside0.mk (Nat.le_trans HS.out hs); clear HT HB HS hb hs; have HT := Aside0.mk ht; have HB := n8_; have HS := n7_; clear ht n8_ n7_) | (go_at_call 23; with_reducible refine (lv.next _ _ _ _ _ HT.out).mono ?_; rintro e w' ⟨rfl, hb⟩; have ht := HT.out.below hb; have n8_ := Aside0.mk (Below.trans HB.out (Below.mono hb HS.out)); have n7_ := Aside0.mk (Nat.le_trans HS.out hb.size); clear HT HB HS hb; have HT := Aside0.mk ht; have HB := n8_; have HS := n7_; clear ht n8_ n7_) | (go_at_call 19; with_reducible refine (lv.t4 _ _ _ _ _ HT.out).mono ?_; rintro e w' ⟨Ax, cx, v', rfl, ht, hb, hs⟩; have n8_ := Aside0.mk (Below.trans HB.out hb); have n7_ := Aside0.mk (Nat.le_trans HS.out hs); clear HT HB HS hb hs; have HT := Aside0.mk ht; have HB := n8_; have HS := n7_; clear ht n8_ n7_) | (go_at_call 19; with_reducible refine (lv.t5 _ _ _ _ _ HT.out).mono ?_; rintro e w' ⟨Ak, ck, v', rfl, hk, ht, hb, hs⟩; have HK := Aside0.mk hk; clear hk; have n8_ := Aside0.mk (Below.trans HB.out hb); have n7_ := Aside0.mk (Nat.le_trans HS.out hs); clear HT HB HS hb hs; have HT := Aside0.mk ht; have HB := n8_; have HS := n7_; clear ht n8_ n7_))
  go_wp2_with (first | (go_at_call 18; with_reducible refine (lv.texts _ Ak ck _ HK.out).mono ?_; rintro e w' ⟨rfl, hb⟩; have ht := HT.out.below hb; have n8_ := Aside0.mk (Below.trans HB.out (Below.mono hb HS.out)); have n7_ := Aside0.mk (Nat.le_trans HS.out hb.size); clear HT HB HS hb HK; have HT := Aside0.mk ht; have HB := n8_; have HS := n7_; clear ht n8_ n7_) | (go_at_call 25; with_reducible refine (lv.len _ _ _ _ _ HT.out).mono ?_; rintro e w' ⟨rfl, hb⟩; have ht := HT.out.below hb; have n8_ := Aside0.mk (Below.trans HB.out (Below.mono hb HS.out)); have n7_ := Aside0.mk (Nat.le_trans HS.out hb.size); clear HT HB HS hb; have HT := Aside0.mk ht; have HB := n8_; have HS := n7_; clear ht n8_ n7_) | (go_at_call 16; with_reducible refine (lv.stop _ _ _ _ _ HT.out).mono ?_; rintro e w' ⟨rfl, hb⟩; have ht := HT.out.below hb; have n8_ := Aside0.mk (Below.trans HB.out (Below.mono hb HS.out)); have n7_ := Aside0.mk (Nat.le_trans HS.out hb.size); clear HT HB HS hb; have HT := Aside0.mk ht; have HB := n8_; have HS := n7_; clear ht n8_ n7_))
  go_ret
  exact ⟨rfl, HB.out⟩

end Go.Proofs.Ytgfekeicgcnjfaa.GA
