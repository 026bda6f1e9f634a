/- A launch that the document tells: the steps. No condition. -/
import Derived.Test.YtfhopjigdkjnoaaK29
import Derived.Laws.CopyOwn
import Derived.Laws.CopyRow
import Derived.ChangeKeysEq
import Derived.Deep.RegionHeld3
import Derived.Deep.MidRow
import Derived.Shelf.Abstract
import Derived.Maps.OwnSet
import Derived.Maps.AppendAt
import Derived.WalkSpells
namespace Go.Proofs.Ytfhopjigdkjnoaa.GA
open Go.RowKit Go.Shelf Go.Proofs.YtfhopjigdkjnoaaW.PrintWords Go.Proofs.YtfhopjigdkjnoaaW.PrintLast Go.Proofs.YtfhopjigdkjnoaaW.PrintMore
set_option linter.unusedVariables false
set_option linter.unusedSimpArgs false

def rA : S27 := ⟨1, 5, 0, false, 0⟩
def rE : S27 := ⟨2, 6, 0, false, 1⟩
def eG : SE := ⟨10, 5, 1, 0, 0, 0, 0⟩
def eR : SE := ⟨12, 0, 1, 0, 0, 0, 0⟩
def eX : SE := ⟨15, 0, 1, 0, 0, 0, 0⟩
def lv1 : CS := ⟨[], [rA], []⟩
def lv2 : CS := ⟨[⟨1, 5, 0, 1, 0⟩], [], [(5, eG)]⟩
def lv3 : CS := ⟨[⟨1, 5, 0, 2, 0⟩], [], [(5, eG)]⟩
def lv4 : CS := ⟨[⟨1, 5, 0, 2, 0⟩], [rE], [(5, eG)]⟩
def lv5 : CS := ⟨[⟨1, 5, 0, 4, 0⟩], [], [(5, eG)]⟩
theorem st_a : askS emp rA = (lv1, none) := rfl
theorem st_b : askS lv1 rA = (lv1, none) := rfl
theorem st_d : actS lv1 1 0 0 = (lv2, some eG) := rfl
theorem st_e : askS lv2 rA = (lv2, some eG) := rfl
theorem st_f : actS lv2 3 0 0 = (lv3, some eR) := rfl
theorem st_g : actS lv3 3 0 0 = (lv3, none) := rfl
theorem st_h : askS lv3 rE = (lv4, none) := rfl
theorem st_i : actS lv4 9 0 0 = (lv5, some eX) := rfl
theorem st_j : askS lv5 rE = (lv5, some eX) := rfl
theorem ok1 : Ok lv1 := by have := (askS_ok emp_ok rA rfl).1; rwa [st_a] at this
theorem ok2 : Ok lv2 := by have := (actS_ok ok1 1 0 0).1; rwa [st_d] at this
theorem ok3 : Ok lv3 := by have := (actS_ok ok2 3 0 0).1; rwa [st_f] at this
theorem ok4 : Ok lv4 := by have := (askS_ok ok3 rE rfl).1; rwa [st_h] at this
theorem ok5 : Ok lv5 := by have := (actS_ok ok4 9 0 0).1; rwa [st_i] at this
/-- what was answered stays, whatever befalls the cloud -/
theorem Evs.far {w w' : World} {gc mb B B' : Nat} {vl vw v : Value} {s : CS} {o : Option SE} (h : Evs w B' v o) (hC : Cl w gc mb B vl vw s) (f : Fr w w' gc mb vl vw) : Evs w' B' v o := by
  cases o with
  | none => exact h
  | some e =>
    obtain ⟨g, h1, h2, h3⟩ := h
    refine ⟨g, h1, h2, (f g (blk_lt h3) (fun e => ?_) (fun e => ?_) (hC.rowL.ne h3 (by decide)) (hC.rowW.ne h3 (by decide))).trans h3⟩
    · have h4 := hC.1
      rw [e, h4] at h3
      injection h3 with h3
      injection h3 with _ h3
      cases h3
    · obtain ⟨es, c, h4, _⟩ := hC.mapIs
      rw [e, h4] at h3
      injection h3 with h3
      cases h3
theorem Evs.nil_ {w : World} {B : Nat} {v : Value} (h : Evs w B v none) : v = .slice none 0 0 := h
/-- a step of a cloud: from a world to the next, with what was answered -/
def Lv (w w' : World) (gc mb B : Nat) (vl vw : Value) (v : Value) (o : Option SE) (t : CS) : Prop := ∃ vl' vw', Cl w' gc mb B vl' vw' t ∧ Evs w' B v o ∧ Below B w w' ∧ Fr w w' gc mb vl vw ∧ Nw w vw vw'
theorem Lv.take {w w' : World} {gc mb B : Nat} {vl vw v : Value} {o : Option SE} {t : CS} (h : Lv w w' gc mb B vl vw v o t) : ∃ vl' vw', Cl w' gc mb B vl' vw' t ∧ Evs w' B v o ∧ Below B w w' ∧ Fr w w' gc mb vl vw ∧ Nw w vw vw' := h
theorem Lv.of {w w' : World} {gc mb B : Nat} {vl vw v : Value} {o : Option SE} {s t : CS} (hC : Cl w gc mb B vl vw s) (h1 : Evs w' w.heap.size v o) (h2 : Post w w' gc mb B vl vw t) : Lv w w' gc mb B vl vw v o t := by
  obtain ⟨vl', vw', h3, -, h6, h4, h5⟩ := h2
  exact ⟨vl', vw', h3, h1.base hC.base, h4, h5, h6⟩

theorem lv.a (w : World) (gc mb B : Nat) (vl vw : Value) (hC : Cl w gc mb B vl vw emp) : Calls Try.prog 7 #[.pointer (some ⟨gc, 0, none⟩), .agg #[.int .u8 1, .int .u64 5, .int .i64 0, .bool false, .int .u64 0]] w fun e w' => ∃ v, e = .returned v ∧ Lv w w' gc mb B vl vw v (none) lv1 := by
  refine (AskS.calls w gc mb B vl vw emp hC emp_ok (by decide) (by decide) rA rfl (by decide)).mono ?_
  rintro e w' ⟨v, h1, h2, h3⟩
  rw [st_a] at h2 h3
  exact ⟨v, h1, Lv.of hC h2 h3⟩
theorem lv.b (w : World) (gc mb B : Nat) (vl vw : Value) (hC : Cl w gc mb B vl vw lv1) : Calls Try.prog 7 #[.pointer (some ⟨gc, 0, none⟩), .agg #[.int .u8 1, .int .u64 5, .int .i64 0, .bool false, .int .u64 0]] w fun e w' => ∃ v, e = .returned v ∧ Lv w w' gc mb B vl vw v (none) lv1 := by
  refine (AskS.calls w gc mb B vl vw lv1 hC ok1 (by decide) (by decide) rA rfl (by decide)).mono ?_
  rintro e w' ⟨v, h1, h2, h3⟩
  rw [st_b] at h2 h3
  exact ⟨v, h1, Lv.of hC h2 h3⟩
theorem lv.d (w : World) (gc mb B : Nat) (vl vw : Value) (hC : Cl w gc mb B vl vw lv1) : Calls Try.prog 8 #[.pointer (some ⟨gc, 0, none⟩), .agg #[.int .u8 1, .int .i64 0, .int .i64 0, .int .i64 0, .int .u64 0]] w fun e w' => ∃ v, e = .returned v ∧ Lv w w' gc mb B vl vw v (some eG) lv2 := by
  refine (ActS.calls w gc mb B vl vw lv1 hC ok1 (by decide) (by decide) 1 0 0 0 0 rfl).mono ?_
  rintro e w' ⟨v, h1, h2, h3⟩
  have h2 := h2 (by decide)
  rw [st_d] at h2 h3
  exact ⟨v, h1, Lv.of hC h2 h3⟩
theorem lv.e (w : World) (gc mb B : Nat) (vl vw : Value) (hC : Cl w gc mb B vl vw lv2) : Calls Try.prog 7 #[.pointer (some ⟨gc, 0, none⟩), .agg #[.int .u8 1, .int .u64 5, .int .i64 0, .bool false, .int .u64 0]] w fun e w' => ∃ v, e = .returned v ∧ Lv w w' gc mb B vl vw v (some eG) lv2 := by
  refine (AskS.calls w gc mb B vl vw lv2 hC ok2 (by decide) (by decide) rA rfl (by decide)).mono ?_
  rintro e w' ⟨v, h1, h2, h3⟩
  rw [st_e] at h2 h3
  exact ⟨v, h1, Lv.of hC h2 h3⟩
theorem lv.f (w : World) (gc mb B : Nat) (vl vw : Value) (hC : Cl w gc mb B vl vw lv2) : Calls Try.prog 8 #[.pointer (some ⟨gc, 0, none⟩), .agg #[.int .u8 3, .int .i64 0, .int .i64 0, .int .i64 0, .int .u64 0]] w fun e w' => ∃ v, e = .returned v ∧ Lv w w' gc mb B vl vw v (some eR) lv3 := by
  refine (ActS.calls w gc mb B vl vw lv2 hC ok2 (by decide) (by decide) 3 0 0 0 0 rfl).mono ?_
  rintro e w' ⟨v, h1, h2, h3⟩
  have h2 := h2 (by decide)
  rw [st_f] at h2 h3
  exact ⟨v, h1, Lv.of hC h2 h3⟩
theorem lv.g (w : World) (gc mb B : Nat) (vl vw : Value) (hC : Cl w gc mb B vl vw lv3) : Calls Try.prog 8 #[.pointer (some ⟨gc, 0, none⟩), .agg #[.int .u8 3, .int .i64 0, .int .i64 0, .int .i64 0, .int .u64 0]] w fun e w' => ∃ v, e = .returned v ∧ Lv w w' gc mb B vl vw v (none) lv3 := by
  refine (ActS.calls w gc mb B vl vw lv3 hC ok3 (by decide) (by decide) 3 0 0 0 0 rfl).mono ?_
  rintro e w' ⟨v, h1, h2, h3⟩
  have h2 := h2 (by decide)
  rw [st_g] at h2 h3
  exact ⟨v, h1, Lv.of hC h2 h3⟩
theorem lv.h (w : World) (gc mb B : Nat) (vl vw : Value) (hC : Cl w gc mb B vl vw lv3) : Calls Try.prog 7 #[.pointer (some ⟨gc, 0, none⟩), .agg #[.int .u8 2, .int .u64 6, .int .i64 0, .bool false, .int .u64 1]] w fun e w' => ∃ v, e = .returned v ∧ Lv w w' gc mb B vl vw v (none) lv4 := by
  refine (AskS.calls w gc mb B vl vw lv3 hC ok3 (by decide) (by decide) rE rfl (by decide)).mono ?_
  rintro e w' ⟨v, h1, h2, h3⟩
  rw [st_h] at h2 h3
  exact ⟨v, h1, Lv.of hC h2 h3⟩
theorem lv.i (w : World) (gc mb B : Nat) (vl vw : Value) (hC : Cl w gc mb B vl vw lv4) : Calls Try.prog 8 #[.pointer (some ⟨gc, 0, none⟩), .agg #[.int .u8 9, .int .i64 0, .int .i64 0, .int .i64 0, .int .u64 0]] w fun e w' => ∃ v, e = .returned v ∧ Lv w w' gc mb B vl vw v (some eX) lv5 := by
  refine (ActS.calls w gc mb B vl vw lv4 hC ok4 (by decide) (by decide) 9 0 0 0 0 rfl).mono ?_
  rintro e w' ⟨v, h1, h2, h3⟩
  have h2 := h2 (by decide)
  rw [st_i] at h2 h3
  exact ⟨v, h1, Lv.of hC h2 h3⟩
theorem lv.j (w : World) (gc mb B : Nat) (vl vw : Value) (hC : Cl w gc mb B vl vw lv5) : Calls Try.prog 7 #[.pointer (some ⟨gc, 0, none⟩), .agg #[.int .u8 2, .int .u64 6, .int .i64 0, .bool false, .int .u64 1]] w fun e w' => ∃ v, e = .returned v ∧ Lv w w' gc mb B vl vw v (some eX) lv5 := by
  refine (AskS.calls w gc mb B vl vw lv5 hC ok5 (by decide) (by decide) rE rfl (by decide)).mono ?_
  rintro e w' ⟨v, h1, h2, h3⟩
  rw [st_j] at h2 h3
  exact ⟨v, h1, Lv.of hC h2 h3⟩

/-- a request in a block that is not the cloud's -/
def Fb (w : World) (vw : Value) (g : Nat) (r : S27) : Prop := w.heap[g]? = some (.cells #[.int .u8 r.f0, .int .u64 r.f1, .int .i64 r.f2, .bool r.f3, .int .u64 r.f4] 27 (0, 0)) ∧ some g ≠ vw.ownBlock
theorem Fb.next {w w' : World} {gc mb B g : Nat} {vl vw vw' : Value} {s : CS} {r : S27} (h : Fb w vw g r) (hC : Cl w gc mb B vl vw s) (f : Fr w w' gc mb vl vw) (hn : Nw w vw vw') : Fb w' vw' g r := ⟨hC.far27 f h.1 h.2, hn.ne (blk_lt h.1) h.2⟩
theorem Fb.below {w w' : World} {g : Nat} {vw : Value} {r : S27} (h : Fb w vw g r) (hb : Below w.heap.size w w') : Fb w' vw g r := ⟨blk_below h.1 hb, h.2⟩
theorem Fb.c0 {w : World} {g : Nat} {vw : Value} {r : S27} (h : Fb w vw g r) : w.cell? ⟨g, 0, none⟩ = some (.int .u8 r.f0) := (blk_cell h.1 0).trans rfl
theorem Fb.c1 {w : World} {g : Nat} {vw : Value} {r : S27} (h : Fb w vw g r) : w.cell? ⟨g, 1, none⟩ = some (.int .u64 r.f1) := (blk_cell h.1 1).trans rfl
theorem Fb.c2 {w : World} {g : Nat} {vw : Value} {r : S27} (h : Fb w vw g r) : w.cell? ⟨g, 2, none⟩ = some (.int .i64 r.f2) := (blk_cell h.1 2).trans rfl
theorem Fb.c3 {w : World} {g : Nat} {vw : Value} {r : S27} (h : Fb w vw g r) : w.cell? ⟨g, 3, none⟩ = some (.bool r.f3) := (blk_cell h.1 3).trans rfl
theorem Fb.c4 {w : World} {g : Nat} {vw : Value} {r : S27} (h : Fb w vw g r) : w.cell? ⟨g, 4, none⟩ = some (.int .u64 r.f4) := (blk_cell h.1 4).trans rfl

set_option maxHeartbeats 8000000 in
set_option maxRecDepth 100000 in
theorem lives.calls (w : World) : Calls Try.prog 10 #[] w fun e w' => e = .returned (.bool true) ∧ Below w.heap.size w w' := by
  go_enter Try.func10, Try.ntmps10
  go_upto_region 2 with (go_at_call 6; with_reducible refine (New.calls _).mono ?_; rintro e w1 ⟨gc, mb, rfl, h1, h2⟩; have HC := Aside0.mk h1; have HB := Aside0.mk h2; clear h1 h2)
  go_upto_region 3 with fail
  have kN := Aside0.mk (blk_new w1 (.cells #[.int .u8 1, .int .u64 5, .int .i64 0, .bool false, .int .u64 0] 27))
  have hb := below_alloc (Below.refl w1.heap.size w1) (.cells #[.int .u8 1, .int .u64 5, .int .i64 0, .bool false, .int .u64 0] 27)
  have k1 := Aside0.mk (HC.out.below hb)
  have k2 := Aside0.mk (HB.out.trans (Below.mono hb HC.out.base))
  obtain ⟨g2, hg2⟩ : ∃ g, g = w1.heap.size := ⟨_, rfl⟩
  rw [← hg2]
  rw [← hg2] at kN
  generalize World.alloc w1 _ = w2 at kN k1 k2 hb ⊢
  have FA : Aside0 (Fb w2 (.slice none 0 0) g2 rA) := ⟨kN.out, fun e => by simp [Value.ownBlock] at e⟩
  clear HC HB hb kN hg2
  go_upto_region 4 with fail
  have kN := Aside0.mk (blk_new w2 (.cells #[.int .u8 2, .int .u64 6, .int .i64 0, .bool false, .int .u64 1] 27))
  have hb := below_alloc (Below.refl w2.heap.size w2) (.cells #[.int .u8 2, .int .u64 6, .int .i64 0, .bool false, .int .u64 1] 27)
  have HC := Aside0.mk (k1.out.below hb)
  have HB := Aside0.mk (k2.out.trans (Below.mono hb k1.out.base))
  have kA := Aside0.mk (FA.out.below hb)
  obtain ⟨g3, hg3⟩ : ∃ g, g = w2.heap.size := ⟨_, rfl⟩
  rw [← hg3]
  rw [← hg3] at kN
  clear k1 k2 FA
  have FA := kA
  generalize World.alloc w2 _ = w3 at kN HC HB FA ⊢
  have FE : Aside0 (Fb w3 (.slice none 0 0) g3 rE) := ⟨kN.out, fun e => by simp [Value.ownBlock] at e⟩
  clear hb kN hg3 kA
  have x0 : w3.cell? ⟨g2, 0, none⟩ = some (.int .u8 1) := FA.out.c0
  have x1 : w3.cell? ⟨g2, 1, none⟩ = some (.int .u64 5) := FA.out.c1
  have x2 : w3.cell? ⟨g2, 2, none⟩ = some (.int .i64 0) := FA.out.c2
  have x3 : w3.cell? ⟨g2, 3, none⟩ = some (.bool false) := FA.out.c3
  have x4 : w3.cell? ⟨g2, 4, none⟩ = some (.int .u64 0) := FA.out.c4
  go_upto_region 5 with (go_at_call 7; with_reducible refine (lv.a _ gc mb _ _ _ HC.out).mono ?_; rintro e w4 ⟨v_a, rfl, hv⟩; obtain ⟨vl4, vw4, h1, h2, h3, h4, h5⟩ := Lv.take hv; clear hv; obtain rfl := Evs.nil_ h2; have kA := Aside0.mk (FA.out.next HC.out h4 h5); have kE := Aside0.mk (FE.out.next HC.out h4 h5); have kB := Aside0.mk (HB.out.trans h3); clear HC HB FA FE ; have HC := Aside0.mk h1; have HB := kB; have FA := kA; have FE := kE; clear h1 h3 h4 h5 kB kA kE )
  clear x0 x1 x2 x3 x4
  have x0 : w4.cell? ⟨g2, 0, none⟩ = some (.int .u8 1) := FA.out.c0
  have x1 : w4.cell? ⟨g2, 1, none⟩ = some (.int .u64 5) := FA.out.c1
  have x2 : w4.cell? ⟨g2, 2, none⟩ = some (.int .i64 0) := FA.out.c2
  have x3 : w4.cell? ⟨g2, 3, none⟩ = some (.bool false) := FA.out.c3
  have x4 : w4.cell? ⟨g2, 4, none⟩ = some (.int .u64 0) := FA.out.c4
  go_upto_region 6 with (go_at_call 7; with_reducible refine (lv.b _ gc mb _ _ _ HC.out).mono ?_; rintro e w5 ⟨v_b, rfl, hv⟩; obtain ⟨vl5, vw5, h1, h2, h3, h4, h5⟩ := Lv.take hv; clear hv; obtain rfl := Evs.nil_ h2; have kA := Aside0.mk (FA.out.next HC.out h4 h5); have kE := Aside0.mk (FE.out.next HC.out h4 h5); have kB := Aside0.mk (HB.out.trans h3); clear HC HB FA FE ; have HC := Aside0.mk h1; have HB := kB; have FA := kA; have FE := kE; clear h1 h3 h4 h5 kB kA kE )
  clear x0 x1 x2 x3 x4
  go_upto_region 7 with (go_at_call 9; with_reducible refine (Waits.calls _ gc mb _ _ _ lv1 HC.out (by decide)).mono ?_; rintro e w6 ⟨v_n, rfl, hr, hb⟩; obtain ⟨A_n, c_n, en, -, -⟩ := hr.slice; rw [show lv1.W.length = 1 from rfl] at en; subst en; have kC := Aside0.mk (HC.out.below hb); have kA := Aside0.mk (FA.out.below hb); have kE := Aside0.mk (FE.out.below hb); have kB := Aside0.mk (HB.out.trans (Below.mono hb HC.out.base)); clear HC HB FA FE hb hr; have HC := kC; have HB := kB; have FA := kA; have FE := kE; clear kC kB kA kE)
  go_upto_region 8 with (go_at_call 8; with_reducible refine (lv.d _ gc mb _ _ _ HC.out).mono ?_; rintro e w7 ⟨v_d, rfl, hv⟩; obtain ⟨vl7, vw7, h1, h2, h3, h4, h5⟩ := Lv.take hv; clear hv; have kA := Aside0.mk (FA.out.next HC.out h4 h5); have kE := Aside0.mk (FE.out.next HC.out h4 h5); have kB := Aside0.mk (HB.out.trans h3); clear HC HB FA FE ; have HC := Aside0.mk h1; have HB := kB; have FA := kA; have FE := kE; have Ed := Aside0.mk h2; clear h1 h3 h4 h5 kB kA kE ; clear h2)
  have x0 : w7.cell? ⟨g2, 0, none⟩ = some (.int .u8 1) := FA.out.c0
  have x1 : w7.cell? ⟨g2, 1, none⟩ = some (.int .u64 5) := FA.out.c1
  have x2 : w7.cell? ⟨g2, 2, none⟩ = some (.int .i64 0) := FA.out.c2
  have x3 : w7.cell? ⟨g2, 3, none⟩ = some (.bool false) := FA.out.c3
  have x4 : w7.cell? ⟨g2, 4, none⟩ = some (.int .u64 0) := FA.out.c4
  go_upto_region 9 with (go_at_call 7; with_reducible refine (lv.e _ gc mb _ _ _ HC.out).mono ?_; rintro e w8 ⟨v_e, rfl, hv⟩; obtain ⟨vl8, vw8, h1, h2, h3, h4, h5⟩ := Lv.take hv; clear hv; have kA := Aside0.mk (FA.out.next HC.out h4 h5); have kE := Aside0.mk (FE.out.next HC.out h4 h5); have kd := Aside0.mk (Ed.out.far HC.out h4); have kB := Aside0.mk (HB.out.trans h3); clear HC HB FA FE Ed; have HC := Aside0.mk h1; have HB := kB; have FA := kA; have FE := kE; have Ed := kd; have Ee := Aside0.mk h2; clear h1 h3 h4 h5 kB kA kE kd; clear h2)
  clear x0 x1 x2 x3 x4
  go_upto_region 10 with (go_at_call 8; with_reducible refine (lv.f _ gc mb _ _ _ HC.out).mono ?_; rintro e w9 ⟨v_f, rfl, hv⟩; obtain ⟨vl9, vw9, h1, h2, h3, h4, h5⟩ := Lv.take hv; clear hv; have kA := Aside0.mk (FA.out.next HC.out h4 h5); have kE := Aside0.mk (FE.out.next HC.out h4 h5); have kd := Aside0.mk (Ed.out.far HC.out h4); have ke := Aside0.mk (Ee.out.far HC.out h4); have kB := Aside0.mk (HB.out.trans h3); clear HC HB FA FE Ed Ee; have HC := Aside0.mk h1; have HB := kB; have FA := kA; have FE := kE; have Ed := kd; have Ee := ke; have Ef := Aside0.mk h2; clear h1 h3 h4 h5 kB kA kE kd ke; clear h2)
  go_upto_region 11 with (go_at_call 8; with_reducible refine (lv.g _ gc mb _ _ _ HC.out).mono ?_; rintro e w10 ⟨v_g, rfl, hv⟩; obtain ⟨vl10, vw10, h1, h2, h3, h4, h5⟩ := Lv.take hv; clear hv; obtain rfl := Evs.nil_ h2; have kA := Aside0.mk (FA.out.next HC.out h4 h5); have kE := Aside0.mk (FE.out.next HC.out h4 h5); have kd := Aside0.mk (Ed.out.far HC.out h4); have ke := Aside0.mk (Ee.out.far HC.out h4); have kf := Aside0.mk (Ef.out.far HC.out h4); have kB := Aside0.mk (HB.out.trans h3); clear HC HB FA FE Ed Ee Ef; have HC := Aside0.mk h1; have HB := kB; have FA := kA; have FE := kE; have Ed := kd; have Ee := ke; have Ef := kf; clear h1 h3 h4 h5 kB kA kE kd ke kf)
  have x0 : w10.cell? ⟨g3, 0, none⟩ = some (.int .u8 2) := FE.out.c0
  have x1 : w10.cell? ⟨g3, 1, none⟩ = some (.int .u64 6) := FE.out.c1
  have x2 : w10.cell? ⟨g3, 2, none⟩ = some (.int .i64 0) := FE.out.c2
  have x3 : w10.cell? ⟨g3, 3, none⟩ = some (.bool false) := FE.out.c3
  have x4 : w10.cell? ⟨g3, 4, none⟩ = some (.int .u64 1) := FE.out.c4
  go_upto_region 12 with (go_at_call 7; with_reducible refine (lv.h _ gc mb _ _ _ HC.out).mono ?_; rintro e w11 ⟨v_h, rfl, hv⟩; obtain ⟨vl11, vw11, h1, h2, h3, h4, h5⟩ := Lv.take hv; clear hv; obtain rfl := Evs.nil_ h2; have kA := Aside0.mk (FA.out.next HC.out h4 h5); have kE := Aside0.mk (FE.out.next HC.out h4 h5); have kd := Aside0.mk (Ed.out.far HC.out h4); have ke := Aside0.mk (Ee.out.far HC.out h4); have kf := Aside0.mk (Ef.out.far HC.out h4); have kB := Aside0.mk (HB.out.trans h3); clear HC HB FA FE Ed Ee Ef; have HC := Aside0.mk h1; have HB := kB; have FA := kA; have FE := kE; have Ed := kd; have Ee := ke; have Ef := kf; clear h1 h3 h4 h5 kB kA kE kd ke kf)
  clear x0 x1 x2 x3 x4
  go_upto_region 13 with (go_at_call 8; with_reducible refine (lv.i _ gc mb _ _ _ HC.out).mono ?_; rintro e w12 ⟨v_i, rfl, hv⟩; obtain ⟨vl12, vw12, h1, h2, h3, h4, h5⟩ := Lv.take hv; clear hv; have kA := Aside0.mk (FA.out.next HC.out h4 h5); have kE := Aside0.mk (FE.out.next HC.out h4 h5); have kd := Aside0.mk (Ed.out.far HC.out h4); have ke := Aside0.mk (Ee.out.far HC.out h4); have kf := Aside0.mk (Ef.out.far HC.out h4); have kB := Aside0.mk (HB.out.trans h3); clear HC HB FA FE Ed Ee Ef; have HC := Aside0.mk h1; have HB := kB; have FA := kA; have FE := kE; have Ed := kd; have Ee := ke; have Ef := kf; have Ei := Aside0.mk h2; clear h1 h3 h4 h5 kB kA kE kd ke kf; clear h2)
  have x0 : w12.cell? ⟨g3, 0, none⟩ = some (.int .u8 2) := FE.out.c0
  have x1 : w12.cell? ⟨g3, 1, none⟩ = some (.int .u64 6) := FE.out.c1
  have x2 : w12.cell? ⟨g3, 2, none⟩ = some (.int .i64 0) := FE.out.c2
  have x3 : w12.cell? ⟨g3, 3, none⟩ = some (.bool false) := FE.out.c3
  have x4 : w12.cell? ⟨g3, 4, none⟩ = some (.int .u64 1) := FE.out.c4
  go_upto_region 14 with (go_at_call 7; with_reducible refine (lv.j _ gc mb _ _ _ HC.out).mono ?_; rintro e w13 ⟨v_j, rfl, hv⟩; obtain ⟨vl13, vw13, h1, h2, h3, h4, h5⟩ := Lv.take hv; clear hv; have kA := Aside0.mk (FA.out.next HC.out h4 h5); have kE := Aside0.mk (FE.out.next HC.out h4 h5); have kd := Aside0.mk (Ed.out.far HC.out h4); have ke := Aside0.mk (Ee.out.far HC.out h4); have kf := Aside0.mk (Ef.out.far HC.out h4); have ki := Aside0.mk (Ei.out.far HC.out h4); have kB := Aside0.mk (HB.out.trans h3); clear HC HB FA FE Ed Ee Ef Ei; have HC := Aside0.mk h1; have HB := kB; have FA := kA; have FE := kE; have Ed := kd; have Ee := ke; have Ef := kf; have Ei := ki; have Ej := Aside0.mk h2; clear h1 h3 h4 h5 kB kA kE kd ke kf ki; clear h2)
  clear x0 x1 x2 x3 x4
  have HS := Aside0.mk HC.out.base
  clear HC FA FE
  go_upto_region 15 with ((with_reducible refine gate_dst (N := 50) rfl ?_); refine mk_event rfl (N := 50) rfl (cs := row eG) (t := 45) (n := 1) (evS_run eG rfl rfl _) ?_; intro ga hg w_ga hbox hb; have Ega : Aside0 (Evs w_ga 0 (.slice (some ⟨ga, 0, none⟩) 1 1) (some eG)) := ⟨⟨ga, rfl, Nat.zero_le _, hbox⟩⟩; clear hg hbox; have kS := Aside0.mk (Nat.le_trans HS.out hb.size); have kB := Aside0.mk (HB.out.trans (Below.mono hb HS.out)); have kd := Aside0.mk (Ed.out.below hb); have ke := Aside0.mk (Ee.out.below hb); have kf := Aside0.mk (Ef.out.below hb); have ki := Aside0.mk (Ei.out.below hb); have kj := Aside0.mk (Ej.out.below hb); clear HS HB Ed Ee Ef Ei Ej; have HS := kS; have HB := kB; have Ed := kd; have Ee := ke; have Ef := kf; have Ei := ki; have Ej := kj; clear kS kB kd ke kf ki kj hb)
  go_upto_region 16 with ((with_reducible refine gate_dst (N := 52) rfl ?_); refine mk_event rfl (N := 52) rfl (cs := row eX) (t := 45) (n := 1) (evS_run eX rfl rfl _) ?_; intro gb hg w_gb hbox hb; have Egb : Aside0 (Evs w_gb 0 (.slice (some ⟨gb, 0, none⟩) 1 1) (some eX)) := ⟨⟨gb, rfl, Nat.zero_le _, hbox⟩⟩; clear hg hbox; have kS := Aside0.mk (Nat.le_trans HS.out hb.size); have kB := Aside0.mk (HB.out.trans (Below.mono hb HS.out)); have kd := Aside0.mk (Ed.out.below hb); have ke := Aside0.mk (Ee.out.below hb); have kf := Aside0.mk (Ef.out.below hb); have ki := Aside0.mk (Ei.out.below hb); have kj := Aside0.mk (Ej.out.below hb); have kga := Aside0.mk (Ega.out.below hb); clear HS HB Ed Ee Ef Ei Ej Ega; have HS := kS; have HB := kB; have Ed := kd; have Ee := ke; have Ef := kf; have Ei := ki; have Ej := kj; have Ega := kga; clear kS kB kd ke kf ki kj kga hb)
  go_wp2_with (first
    | (go_at_call 11; with_reducible refine (Events.same v_d (.slice (some ⟨ga, 0, none⟩) 1 1) w.heap.size 0 eG _ Ed.out Ega.out).mono ?_; rintro e wn ⟨rfl, hb⟩; have kS := Aside0.mk (Nat.le_trans HS.out hb.size); have kB := Aside0.mk (HB.out.trans (Below.mono hb HS.out)); have kd := Aside0.mk (Ed.out.below hb); have ke := Aside0.mk (Ee.out.below hb); have kf := Aside0.mk (Ef.out.below hb); have ki := Aside0.mk (Ei.out.below hb); have kj := Aside0.mk (Ej.out.below hb); have kga := Aside0.mk (Ega.out.below hb); have kgb := Aside0.mk (Egb.out.below hb); clear HS HB Ed Ee Ef Ei Ej Ega Egb; have HS := kS; have HB := kB; have Ed := kd; have Ee := ke; have Ef := kf; have Ei := ki; have Ej := kj; have Ega := kga; have Egb := kgb; clear kS kB kd ke kf ki kj kga kgb hb)
    | (go_at_call 11; with_reducible refine (Events.same v_e (.slice (some ⟨ga, 0, none⟩) 1 1) w.heap.size 0 eG _ Ee.out Ega.out).mono ?_; rintro e wn ⟨rfl, hb⟩; have kS := Aside0.mk (Nat.le_trans HS.out hb.size); have kB := Aside0.mk (HB.out.trans (Below.mono hb HS.out)); have kd := Aside0.mk (Ed.out.below hb); have ke := Aside0.mk (Ee.out.below hb); have kf := Aside0.mk (Ef.out.below hb); have ki := Aside0.mk (Ei.out.below hb); have kj := Aside0.mk (Ej.out.below hb); have kga := Aside0.mk (Ega.out.below hb); have kgb := Aside0.mk (Egb.out.below hb); clear HS HB Ed Ee Ef Ei Ej Ega Egb; have HS := kS; have HB := kB; have Ed := kd; have Ee := ke; have Ef := kf; have Ei := ki; have Ej := kj; have Ega := kga; have Egb := kgb; clear kS kB kd ke kf ki kj kga kgb hb)
    | ((with_reducible refine gate_dst (N := 82) rfl ?_); refine gate_guard (by rfl) ?_; dsimp only; refine mk_event rfl (N := 82) rfl (cs := row eR) (t := 45) (n := 1) (evS_run eR rfl rfl _) ?_; intro gr hg w_gr hbox hb; have Egr : Aside0 (Evs w_gr 0 (.slice (some ⟨gr, 0, none⟩) 1 1) (some eR)) := ⟨⟨gr, rfl, Nat.zero_le _, hbox⟩⟩; clear hg hbox; have kS := Aside0.mk (Nat.le_trans HS.out hb.size); have kB := Aside0.mk (HB.out.trans (Below.mono hb HS.out)); have kd := Aside0.mk (Ed.out.below hb); have ke := Aside0.mk (Ee.out.below hb); have kf := Aside0.mk (Ef.out.below hb); have ki := Aside0.mk (Ei.out.below hb); have kj := Aside0.mk (Ej.out.below hb); have kga := Aside0.mk (Ega.out.below hb); have kgb := Aside0.mk (Egb.out.below hb); clear HS HB Ed Ee Ef Ei Ej Ega Egb; have HS := kS; have HB := kB; have Ed := kd; have Ee := ke; have Ef := kf; have Ei := ki; have Ej := kj; have Ega := kga; have Egb := kgb; clear kS kB kd ke kf ki kj kga kgb hb)
    | (go_at_call 11; with_reducible refine (Events.same v_f (.slice (some ⟨gr, 0, none⟩) 1 1) w.heap.size 0 eR _ Ef.out Egr.out).mono ?_; rintro e wn ⟨rfl, hb⟩; have kS := Aside0.mk (Nat.le_trans HS.out hb.size); have kB := Aside0.mk (HB.out.trans (Below.mono hb HS.out)); have kd := Aside0.mk (Ed.out.below hb); have ke := Aside0.mk (Ee.out.below hb); have kf := Aside0.mk (Ef.out.below hb); have ki := Aside0.mk (Ei.out.below hb); have kj := Aside0.mk (Ej.out.below hb); have kga := Aside0.mk (Ega.out.below hb); have kgb := Aside0.mk (Egb.out.below hb); have kgr := Aside0.mk (Egr.out.below hb); clear HS HB Ed Ee Ef Ei Ej Ega Egb Egr; have HS := kS; have HB := kB; have Ed := kd; have Ee := ke; have Ef := kf; have Ei := ki; have Ej := kj; have Ega := kga; have Egb := kgb; have Egr := kgr; clear kS kB kd ke kf ki kj kga kgb kgr hb)
    | (go_at_call 11; with_reducible refine (Events.same v_i (.slice (some ⟨gb, 0, none⟩) 1 1) w.heap.size 0 eX _ Ei.out Egb.out).mono ?_; rintro e wn ⟨rfl, hb⟩; have kS := Aside0.mk (Nat.le_trans HS.out hb.size); have kB := Aside0.mk (HB.out.trans (Below.mono hb HS.out)); have kd := Aside0.mk (Ed.out.below hb); have ke := Aside0.mk (Ee.out.below hb); have kf := Aside0.mk (Ef.out.below hb); have ki := Aside0.mk (Ei.out.below hb); have kj := Aside0.mk (Ej.out.below hb); have kga := Aside0.mk (Ega.out.below hb); have kgb := Aside0.mk (Egb.out.below hb); have kgr := Aside0.mk (Egr.out.below hb); clear HS HB Ed Ee Ef Ei Ej Ega Egb Egr; have HS := kS; have HB := kB; have Ed := kd; have Ee := ke; have Ef := kf; have Ei := ki; have Ej := kj; have Ega := kga; have Egb := kgb; have Egr := kgr; clear kS kB kd ke kf ki kj kga kgb kgr hb)
    | (go_at_call 11; with_reducible refine (Events.same v_j (.slice (some ⟨gb, 0, none⟩) 1 1) w.heap.size 0 eX _ Ej.out Egb.out).mono ?_; rintro e wn ⟨rfl, hb⟩; have kS := Aside0.mk (Nat.le_trans HS.out hb.size); have kB := Aside0.mk (HB.out.trans (Below.mono hb HS.out)); have kd := Aside0.mk (Ed.out.below hb); have ke := Aside0.mk (Ee.out.below hb); have kf := Aside0.mk (Ef.out.below hb); have ki := Aside0.mk (Ei.out.below hb); have kj := Aside0.mk (Ej.out.below hb); have kga := Aside0.mk (Ega.out.below hb); have kgb := Aside0.mk (Egb.out.below hb); have kgr := Aside0.mk (Egr.out.below hb); clear HS HB Ed Ee Ef Ei Ej Ega Egb Egr; have HS := kS; have HB := kB; have Ed := kd; have Ee := ke; have Ef := kf; have Ei := ki; have Ej := kj; have Ega := kga; have Egb := kgb; have Egr := kgr; clear kS kB kd ke kf ki kj kga kgb kgr hb))
  go_ret
  exact ⟨rfl, HB.out⟩

end Go.Proofs.Ytfhopjigdkjnoaa.GA
