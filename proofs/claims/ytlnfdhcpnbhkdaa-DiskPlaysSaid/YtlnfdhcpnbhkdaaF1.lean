/- Blocks in memory: loads, stores and copies of 64 bytes. No condition. -/
import Derived.Test.YtlnfdhcpnbhkdaaE21
import Derived.Laws.CopyOwn
import Derived.ChangeKeysEq
import Derived.Deep.RegionHeld3
import Derived.Deep.MidRow
import Derived.Great.Walk
import Derived.Deep.LoopGhost
import Derived.Deep.DeepCutAuto
namespace Go.Proofs.Ytlnfdhcpnbhkdaa.GA.F
open Go.RowKit Go.Proofs.YtlnfdhcpnbhkdaaW.PrintWords Go.Proofs.YtlnfdhcpnbhkdaaW.PrintLast Go.Proofs.YtlnfdhcpnbhkdaaW.PrintMore
set_option linter.unusedVariables false
set_option linter.unusedSimpArgs false

/-- the document's disk: what is held, the writes that are not, the alarm, the steps, is it night -/
structure RS where
  held : List Int
  list : List (Int × List Int)
  al : Int
  st : Int
  ni : Bool
def rrow (H : Option Addr) (n c : Nat) (lt : Value) (al st : Int) (ni : Bool) : Array Value := #[.slice H n c, lt, .int .i64 al, .int .i64 st, .bool ni]
def AskR (B : Nat) (w : World) (v : Value) (l : List (Int × List Int)) : Prop := kAsk.R 76 w B (fun _ => True) v l
theorem AskR.move {B : Nat} {w w1 : World} {v : Value} {l : List (Int × List Int)} (h : AskR B w v l) (hm : ∀ k, v.ownBlock = some k → w1.heap[k]? = w.heap[k]?) : AskR B w1 v l := by
  have h1 : kAsk.R 76 w B (fun k => v.ownBlock = some k) v l := ⟨fun k hk => hk, h.2⟩
  exact Kd.R_mono (Kd.R_move h1 hm) (fun _ _ => trivial)
theorem AskR.ne {B : Nat} {w : World} {v : Value} {l : List (Int × List Int)} (h : AskR B w v l) {g t : Nat} {cells : Array Value} (hb : w.heap[g]? = some (.cells cells t (0, 0))) (ht : 76 ≠ t) {k : Nat} (hk : v.ownBlock = some k) : k ≠ g := fun e => by
  subst e
  exact Kd.R_ne h hb ht hk.symm
/-- what it is in memory -/
structure RRep (B : Nat) (w : World) (gr gH cH n : Nat) (lt : Value) (s : RS) : Prop where
  d : w.heap[gr]? = some (.cells (rrow (some ⟨gH, 0, none⟩) n cH lt s.al s.st s.ni) 73 (0, 0))
  h : w.heap[gH]? = some (.cells (bcells s.held) 29 (0, 0))
  l : AskR B w lt s.list
  bd : B ≤ gr
  bh : B ≤ gH
  lh : n * 64 ≤ s.held.length
  ok : ∀ x ∈ s.list, 0 ≤ x.1 ∧ x.1 < n ∧ x.2.length = 64
  al0 : 0 ≤ s.al
  al1 : s.al < 9223372036854775808
  st0 : 0 ≤ s.st
  n0 : 0 < n
theorem RRep.ne {B : Nat} {w : World} {gr gH cH n : Nat} {lt : Value} {s : RS} (r : RRep B w gr gH cH n lt s) : gH ≠ gr := fun e => by
  have h1 := r.h
  rw [e, r.d] at h1
  injection h1 with h1
  injection h1 with _ h2 _
  exact absurd h2 (by decide)
theorem RRep.below {B : Nat} {w w' : World} {gr gH cH n : Nat} {lt : Value} {s : RS} (r : RRep B w gr gH cH n lt s) (hb : Below w.heap.size w w') : RRep B w' gr gH cH n lt s := ⟨blk_below r.d hb, blk_below r.h hb, Kd.R_below r.l hb, r.bd, r.bh, r.lh, r.ok, r.al0, r.al1, r.st0, r.n0⟩
/-- what isn't this disk's stays -/
def RFx (gr gH : Nat) (lt : Value) (w w' : World) : Prop := ∀ (k : Nat) (o : Obj), w.heap[k]? = some o → k ≠ gr → k ≠ gH → lt.ownBlock ≠ some k → w'.heap[k]? = some o
theorem RFx.refl (gr gH : Nat) (lt : Value) (w : World) : RFx gr gH lt w w := fun _ _ h _ _ _ => h
theorem RFx.below (gr gH : Nat) (lt : Value) {w w' : World} (h : Below w.heap.size w w') : RFx gr gH lt w w' := fun k o hk _ _ _ => blk_below hk h
theorem RFx.d (gr gH : Nat) (lt : Value) {w w' : World} (ho : ∀ k, k ≠ gr → w'.heap[k]? = w.heap[k]?) : RFx gr gH lt w w' := fun k o h a _ _ => (ho k a).trans h
theorem RFx.h (gr gH : Nat) (lt : Value) {w w' : World} (ho : ∀ k, k ≠ gH → w'.heap[k]? = w.heap[k]?) : RFx gr gH lt w w' := fun k o h _ a _ => (ho k a).trans h
theorem RFx.trans {gr gH : Nat} {lt : Value} {w w1 w2 : World} (h1 : RFx gr gH lt w w1) (h2 : RFx gr gH lt w1 w2) : RFx gr gH lt w w2 := fun k o h a b d => h2 k o (h1 k o h a b d) a b d
/-- the row of it is another one -/
theorem RRep.row {B : Nat} {w w' : World} {gr gH cH n : Nat} {lt : Value} {s : RS} (r : RRep B w gr gH cH n lt s) (al st : Int) (ni : Bool) (h0 : 0 ≤ al) (h1 : al < 9223372036854775808) (h2 : 0 ≤ st) (hd : w'.heap[gr]? = some (.cells (rrow (some ⟨gH, 0, none⟩) n cH lt al st ni) 73 (0, 0))) (ho : ∀ k, k ≠ gr → w'.heap[k]? = w.heap[k]?) : RRep B w' gr gH cH n lt { s with al := al, st := st, ni := ni } :=
  ⟨hd, (ho gH r.ne).trans r.h, r.l.move (fun k hk => ho k (r.l.ne r.d (by decide) hk)), r.bd, r.bh, r.lh, r.ok, h0, h1, h2, r.n0⟩
theorem RRep.x {B : Nat} {w : World} {gr gH cH n : Nat} {lt : Value} {s : RS} (r : RRep B w gr gH cH n lt s) : w.cell? ⟨gr, 0, none⟩ = some (.slice (some ⟨gH, 0, none⟩) n cH) ∧ w.cell? ⟨gr, 1, none⟩ = some lt ∧ w.cell? ⟨gr, 2, none⟩ = some (.int .i64 s.al) ∧ w.cell? ⟨gr, 3, none⟩ = some (.int .i64 s.st) ∧ w.cell? ⟨gr, 4, none⟩ = some (.bool s.ni) :=
  ⟨(blk_cell r.d 0).trans rfl, (blk_cell r.d 1).trans rfl, (blk_cell r.d 2).trans rfl, (blk_cell r.d 3).trans rfl, (blk_cell r.d 4).trans rfl⟩
theorem rrow_al (H : Option Addr) (n c : Nat) (lt : Value) (al st : Int) (ni : Bool) (x : Int) : (rrow H n c lt al st ni).setIfInBounds 2 (.int .i64 x) = rrow H n c lt x st ni := rfl
theorem rrow_st (H : Option Addr) (n c : Nat) (lt : Value) (al st : Int) (ni : Bool) (x : Int) : (rrow H n c lt al st ni).setIfInBounds 3 (.int .i64 x) = rrow H n c lt al x ni := rfl
theorem rrow_ni (H : Option Addr) (n c : Nat) (lt : Value) (al st : Int) (ni : Bool) (x : Bool) : (rrow H n c lt al st ni).setIfInBounds 4 (.bool x) = rrow H n c lt al st x := rfl
theorem rrow_lt (H : Option Addr) (n c : Nat) (lt : Value) (al st : Int) (ni : Bool) (x : Value) : (rrow H n c lt al st ni).setIfInBounds 1 x = rrow H n c x al st ni := rfl
theorem wrap_ok {x : Int} (h0 : -9223372036854775808 ≤ x) (h1 : x < 9223372036854775808) : wrap64 x = x := by unfold wrap64; omega

set_option maxHeartbeats 8000000 in
set_option maxRecDepth 100000 in
theorem Blocks.row (w : World) (gr : Nat) (H : Option Addr) (n c : Nat) (lt : Value) (al st : Int) (ni : Bool) (hg : w.heap[gr]? = some (.cells (rrow H n c lt al st ni) 73 (0, 0))) : Calls Try.prog 36 #[.pointer (some ⟨gr, 0, none⟩)] w fun e w' => e = .returned (.int .i64 (n : Int)) ∧ w' = w := by
  have x0 : w.cell? ⟨gr, 0, none⟩ = some (.slice H n c) := (blk_cell hg 0).trans rfl
  clear hg
  go_enter Try.func36, Try.ntmps36
  go_wp2
  go_ret
  exact ⟨rfl, rfl⟩

set_option maxHeartbeats 8000000 in
set_option maxRecDepth 100000 in
theorem has.neg (w : World) (gr : Nat) (H : Option Addr) (n c : Nat) (lt : Value) (al st : Int) (ni : Bool) (hg : w.heap[gr]? = some (.cells (rrow H n c lt al st ni) 73 (0, 0))) (i : Int) (h0 : i < 0) : Calls Try.prog 43 #[.pointer (some ⟨gr, 0, none⟩), .int .i64 i] w fun e w' => e = .returned (.int .i64 2) ∧ w' = w := by
  have x0 : w.cell? ⟨gr, 0, none⟩ = some (.slice H n c) := (blk_cell hg 0).trans rfl
  clear hg
  have d1 : decide (i < 0) = true := decide_eq_true h0
  go_enter Try.func43, Try.ntmps43
  go_wp2
  go_ret
  exact ⟨rfl, rfl⟩

set_option maxHeartbeats 8000000 in
set_option maxRecDepth 100000 in
theorem has.far (w : World) (gr : Nat) (H : Option Addr) (n c : Nat) (lt : Value) (al st : Int) (ni : Bool) (hg : w.heap[gr]? = some (.cells (rrow H n c lt al st ni) 73 (0, 0))) (i : Int) (h0 : 0 ≤ i) (h1 : (n : Int) ≤ i) : Calls Try.prog 43 #[.pointer (some ⟨gr, 0, none⟩), .int .i64 i] w fun e w' => e = .returned (.int .i64 2) ∧ w' = w := by
  have x0 : w.cell? ⟨gr, 0, none⟩ = some (.slice H n c) := (blk_cell hg 0).trans rfl
  clear hg
  have d1 : decide (i < 0) = false := decide_eq_false (by omega)
  have d2 : decide (i ≥ (n : Int)) = true := decide_eq_true h1
  have d3 : decide ((n : Int) ≤ i) = true := decide_eq_true h1
  go_enter Try.func43, Try.ntmps43
  go_wp2
  go_ret
  exact ⟨rfl, rfl⟩

set_option maxHeartbeats 8000000 in
set_option maxRecDepth 100000 in
theorem has.ok (w : World) (gr : Nat) (H : Option Addr) (n c : Nat) (lt : Value) (al st : Int) (ni : Bool) (hg : w.heap[gr]? = some (.cells (rrow H n c lt al st ni) 73 (0, 0))) (i : Int) (h0 : 0 ≤ i) (h1 : i < (n : Int)) : Calls Try.prog 43 #[.pointer (some ⟨gr, 0, none⟩), .int .i64 i] w fun e w' => e = .returned (.int .i64 0) ∧ w' = w := by
  have x0 : w.cell? ⟨gr, 0, none⟩ = some (.slice H n c) := (blk_cell hg 0).trans rfl
  clear hg
  have d1 : decide (i < 0) = false := decide_eq_false (by omega)
  have d2 : decide (i ≥ (n : Int)) = false := decide_eq_false (by omega)
  have d3 : decide ((n : Int) ≤ i) = false := decide_eq_false (by omega)
  go_enter Try.func43, Try.ntmps43
  go_wp2
  go_ret
  exact ⟨rfl, rfl⟩

theorem has.bad (w : World) (gr : Nat) (H : Option Addr) (n c : Nat) (lt : Value) (al st : Int) (ni : Bool) (hg : w.heap[gr]? = some (.cells (rrow H n c lt al st ni) 73 (0, 0))) (i : Int) (hi : i < 0 ∨ (n : Int) ≤ i) : Calls Try.prog 43 #[.pointer (some ⟨gr, 0, none⟩), .int .i64 i] w fun e w' => e = .returned (.int .i64 2) ∧ w' = w := by
  by_cases h0 : i < 0
  · exact has.neg w gr H n c lt al st ni hg i h0
  · exact has.far w gr H n c lt al st ni hg i (by omega) (by omega)

set_option maxHeartbeats 8000000 in
set_option maxRecDepth 100000 in
theorem rings.yes (w : World) (B gr gH cH n : Nat) (lt : Value) (s : RS) (r : RRep B w gr gH cH n lt s) (hni : s.ni = false) (hal : s.al = 1) : Calls Try.prog 44 #[.pointer (some ⟨gr, 0, none⟩)] w fun e w' => e = .returned (.bool true) ∧ RRep B w' gr gH cH n lt { s with ni := true } ∧ Below B w w' ∧ RFx gr gH lt w w' := by
  have RR := Aside0.mk r
  have hg := r.d
  obtain ⟨-, -, x2, x3, x4⟩ := r.x
  have z2 := blk_frozen hg 2
  have z3 := blk_frozen hg 3
  have z4 := blk_frozen hg 4
  have A0 := Aside0.mk r.al0
  have A1 := Aside0.mk r.al1
  have S0 := Aside0.mk r.st0
  rw [hal] at x2
  rw [hni] at x4
  have AL := Aside0.mk hal
  clear hal
  clear r hni hg
  go_enter Try.func44, Try.ntmps44
  go_wp2
  go_ret
  have hd1 := blk_put RR.out.d 4 (.bool true) (rrow_ni _ _ _ _ _ _ _ _)
  have ho1 : ∀ k, k ≠ gr → (w.setCell ⟨gr, 4, none⟩ (.bool true)).heap[k]? = w.heap[k]? := fun k hk => heap_setCell_other _ _ k _ hk
  have b1 := (Below.refl B w).setCell (p := ⟨gr, 4, none⟩) (show B ≤ gr from RR.out.bd) (.bool true)
  exact ⟨rfl, RR.out.row s.al s.st true A0.out A1.out S0.out hd1 ho1, b1, .d _ _ _ ho1⟩

set_option maxHeartbeats 8000000 in
set_option maxRecDepth 100000 in
theorem rings.zero (w : World) (B gr gH cH n : Nat) (lt : Value) (s : RS) (r : RRep B w gr gH cH n lt s) (hni : s.ni = false) (hal : s.al = 0) (hst : s.st < 4611686018427387904) : Calls Try.prog 44 #[.pointer (some ⟨gr, 0, none⟩)] w fun e w' => e = .returned (.bool false) ∧ RRep B w' gr gH cH n lt { s with al := 0, st := s.st + 1 } ∧ Below B w w' ∧ RFx gr gH lt w w' := by
  have RR := Aside0.mk r
  have hg := r.d
  obtain ⟨-, -, x2, x3, x4⟩ := r.x
  have z2 := blk_frozen hg 2
  have z3 := blk_frozen hg 3
  have z4 := blk_frozen hg 4
  have A0 := Aside0.mk r.al0
  have A1 := Aside0.mk r.al1
  have S0 := Aside0.mk r.st0
  have NI := Aside0.mk hni
  rw [hal] at x2
  rw [hni] at x4
  have hs0 := S0.out
  have w1 : wrap64 (s.st + 1) = s.st + 1 := wrap_ok (by omega) (by omega)
  clear hal hs0 hst
  clear r hni hg
  go_enter Try.func44, Try.ntmps44
  go_wp2
  go_ret
  have hd1 := blk_put RR.out.d 4 (.bool false) (rrow_ni _ _ _ _ _ _ _ _)
  have ho1 : ∀ k, k ≠ gr → (w.setCell ⟨gr, 4, none⟩ (.bool false)).heap[k]? = w.heap[k]? := fun k hk => heap_setCell_other _ _ k _ hk
  have b1 := (Below.refl B w).setCell (p := ⟨gr, 4, none⟩) (show B ≤ gr from RR.out.bd) (.bool false)
  have hd2 := blk_put hd1 3 (.int .i64 (s.st + 1)) (rrow_st _ _ _ _ _ _ _ _)
  have ho2 : ∀ k, k ≠ gr → ((w.setCell ⟨gr, 4, none⟩ (.bool false)).setCell ⟨gr, 3, none⟩ (.int .i64 (s.st + 1))).heap[k]? = w.heap[k]? := fun k hk => (heap_setCell_other _ _ k _ hk).trans (ho1 k hk)
  have b2 := b1.setCell (p := ⟨gr, 3, none⟩) (show B ≤ gr from RR.out.bd) (.int .i64 (s.st + 1))
  have hd3 := blk_put hd2 2 (.int .i64 (0)) (rrow_al _ _ _ _ _ _ _ _)
  have ho3 : ∀ k, k ≠ gr → (((w.setCell ⟨gr, 4, none⟩ (.bool false)).setCell ⟨gr, 3, none⟩ (.int .i64 (s.st + 1))).setCell ⟨gr, 2, none⟩ (.int .i64 (0))).heap[k]? = w.heap[k]? := fun k hk => (heap_setCell_other _ _ k _ hk).trans (ho2 k hk)
  have b3 := b2.setCell (p := ⟨gr, 2, none⟩) (show B ≤ gr from RR.out.bd) (.int .i64 (0))
  have r3 := RR.out.row (0) (s.st + 1) false (by have := A0.out; have := A1.out; omega) (by have := A0.out; have := A1.out; omega) (by have := S0.out; omega) hd3 ho3
  have e3 : ({ s with al := (0), st := s.st + 1, ni := false } : RS) = { s with al := (0), st := s.st + 1 } := by rw [NI.out]
  rw [e3] at r3
  exact ⟨rfl, r3, b3, .d _ _ _ ho3⟩

set_option maxHeartbeats 8000000 in
set_option maxRecDepth 100000 in
theorem rings.more (w : World) (B gr gH cH n : Nat) (lt : Value) (s : RS) (r : RRep B w gr gH cH n lt s) (hni : s.ni = false) (hal : 1 < s.al) (hst : s.st < 4611686018427387904) : Calls Try.prog 44 #[.pointer (some ⟨gr, 0, none⟩)] w fun e w' => e = .returned (.bool false) ∧ RRep B w' gr gH cH n lt { s with al := s.al - 1, st := s.st + 1 } ∧ Below B w w' ∧ RFx gr gH lt w w' := by
  have RR := Aside0.mk r
  have hg := r.d
  obtain ⟨-, -, x2, x3, x4⟩ := r.x
  have z2 := blk_frozen hg 2
  have z3 := blk_frozen hg 3
  have z4 := blk_frozen hg 4
  have A0 := Aside0.mk r.al0
  have A1 := Aside0.mk r.al1
  have S0 := Aside0.mk r.st0
  have NI := Aside0.mk hni
  rw [hni] at x4
  have d0 : (s.al == 1) = false := beq_false_of_ne (by omega)
  have hs0 := S0.out
  have ha1 := A1.out
  have w1 : wrap64 (s.st + 1) = s.st + 1 := wrap_ok (by omega) (by omega)
  have w2 : wrap64 (s.al - 1) = s.al - 1 := wrap_ok (by omega) (by omega)
  have m1 : max (s.al - 1) 0 = s.al - 1 := Int.max_eq_left (by omega)
  have e1 : (s.al - 1 > 0) = True := eq_true (by omega)
  clear hs0 ha1 hst hal
  clear r hni hg
  go_enter Try.func44, Try.ntmps44
  go_wp2
  go_ret
  have hd1 := blk_put RR.out.d 4 (.bool false) (rrow_ni _ _ _ _ _ _ _ _)
  have ho1 : ∀ k, k ≠ gr → (w.setCell ⟨gr, 4, none⟩ (.bool false)).heap[k]? = w.heap[k]? := fun k hk => heap_setCell_other _ _ k _ hk
  have b1 := (Below.refl B w).setCell (p := ⟨gr, 4, none⟩) (show B ≤ gr from RR.out.bd) (.bool false)
  have hd2 := blk_put hd1 3 (.int .i64 (s.st + 1)) (rrow_st _ _ _ _ _ _ _ _)
  have ho2 : ∀ k, k ≠ gr → ((w.setCell ⟨gr, 4, none⟩ (.bool false)).setCell ⟨gr, 3, none⟩ (.int .i64 (s.st + 1))).heap[k]? = w.heap[k]? := fun k hk => (heap_setCell_other _ _ k _ hk).trans (ho1 k hk)
  have b2 := b1.setCell (p := ⟨gr, 3, none⟩) (show B ≤ gr from RR.out.bd) (.int .i64 (s.st + 1))
  have hd3 := blk_put hd2 2 (.int .i64 (s.al - 1)) (rrow_al _ _ _ _ _ _ _ _)
  have ho3 : ∀ k, k ≠ gr → (((w.setCell ⟨gr, 4, none⟩ (.bool false)).setCell ⟨gr, 3, none⟩ (.int .i64 (s.st + 1))).setCell ⟨gr, 2, none⟩ (.int .i64 (s.al - 1))).heap[k]? = w.heap[k]? := fun k hk => (heap_setCell_other _ _ k _ hk).trans (ho2 k hk)
  have b3 := b2.setCell (p := ⟨gr, 2, none⟩) (show B ≤ gr from RR.out.bd) (.int .i64 (s.al - 1))
  have r3 := RR.out.row (s.al - 1) (s.st + 1) false (by have := A0.out; have := A1.out; omega) (by have := A0.out; have := A1.out; omega) (by have := S0.out; omega) hd3 ho3
  have e3 : ({ s with al := (s.al - 1), st := s.st + 1, ni := false } : RS) = { s with al := (s.al - 1), st := s.st + 1 } := by rw [NI.out]
  rw [e3] at r3
  exact ⟨rfl, r3, b3, .d _ _ _ ho3⟩

end Go.Proofs.Ytlnfdhcpnbhkdaa.GA.F
