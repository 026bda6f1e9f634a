/- Blocks in memory: loads, stores and copies of 64 bytes. No condition. -/
import Derived.Test.YtlnfdhcpnbhkdaaD2
import Derived.Laws.CopyOwn
import Derived.ChangeKeysEq
import Derived.Deep.RegionHeld3
import Derived.Deep.MidRow
namespace Go.Proofs.Ytlnfdhcpnbhkdaa.GA
open Go.RowKit Go.Proofs.YtlnfdhcpnbhkdaaW.PrintWords Go.Proofs.YtlnfdhcpnbhkdaaW.PrintLast Go.Proofs.YtlnfdhcpnbhkdaaW.PrintMore
set_option linter.unusedVariables false
set_option linter.unusedSimpArgs false


/-- a write that is not held: its block's number and its bytes -/
def kAsk : Kd (Int × List Int) where
  sz := 65
  E := []
  K := fun _ x cs => cs = .int .i64 x.1 :: encs (Value.int .u8) x.2 ∧ x.2.length = 64
  M := fun _ _ _ x cs => cs = .int .i64 x.1 :: encs (Value.int .u8) x.2 ∧ x.2.length = 64
  K_len := fun h => by rw [h.1, List.length_cons, encs_length, h.2]
  K_one := fun h u hu => by
    rw [h.1] at hu
    rcases List.mem_cons.1 hu with rfl | hu
    · rfl
    · obtain ⟨y, _, rfl⟩ := List.mem_map.1 hu
      rfl
  K_below := fun _ h => h
  K_of_M := fun h => h
  M_mono := fun _ h => h
  M_bound := fun h => h
  M_move := fun _ h => h
  M_lower := fun _ h => h
/-- the state of a disk -/
structure DS where
  asked : List Int
  held : List Int
  btw : List (Int × List Int)
  al : Int
  st : Int
  ni : Bool
def AskOwn (B : Nat) (w : World) (bt : Value) (l : List (Int × List Int)) : Prop := kAsk.R 65 w B (fun _ => True) bt l
theorem AskOwn.move {B : Nat} {w w1 : World} {bt : Value} {l : List (Int × List Int)} (h : AskOwn B w bt l) (hm : ∀ k, bt.ownBlock = some k → w1.heap[k]? = w.heap[k]?) : AskOwn B w1 bt l := by
  have h1 : kAsk.R 65 w B (fun k => bt.ownBlock = some k) bt l := ⟨fun k hk => hk, h.2⟩
  exact Kd.R_mono (Kd.R_move h1 hm) (fun _ _ => trivial)
theorem AskOwn.ne {B : Nat} {w : World} {bt : Value} {l : List (Int × List Int)} (h : AskOwn B w bt l) {g t : Nat} {cells : Array Value} (hb : w.heap[g]? = some (.cells cells t (0, 0))) (ht : 65 ≠ t) {k : Nat} (hk : bt.ownBlock = some k) : k ≠ g := fun e => by
  subst e
  exact Kd.R_ne h hb ht hk.symm
/-- what a disk is in memory -/
structure Rep (B : Nat) (w : World) (gd ga gh n : Nat) (bt : Value) (s : DS) : Prop where
  d : w.heap[gd]? = some (.cells (drow (.slice (some ⟨ga, 0, none⟩) n n) (some ⟨gh, 0, none⟩) n n bt s.al s.st s.ni) 60 (0, 0))
  a : w.heap[ga]? = some (.cells (bcells s.asked) 29 (0, 0))
  h : w.heap[gh]? = some (.cells (bcells s.held) 29 (0, 0))
  b : AskOwn B w bt s.btw
  bd : B ≤ gd
  ba : B ≤ ga
  bh : B ≤ gh
  ne : ga ≠ gh
  la : s.asked.length = n * 64
  lh : s.held.length = n * 64
  n0 : 0 < n
  ok : ∀ x ∈ s.btw, 0 ≤ x.1 ∧ x.1 < n ∧ x.2.length = 64
  al0 : 0 ≤ s.al
  al1 : s.al < 9223372036854775808
  st0 : 0 ≤ s.st
theorem Rep.dne {B : Nat} {w : World} {gd ga gh n : Nat} {bt : Value} {s : DS} (r : Rep B w gd ga gh n bt s) : ga ≠ gd ∧ gh ≠ gd := by
  constructor
  · intro e
    have h1 := r.a
    rw [e, r.d] at h1
    injection h1 with h1
    injection h1 with _ h2 _
    exact absurd h2 (by decide)
  · intro e
    have h1 := r.h
    rw [e, r.d] at h1
    injection h1 with h1
    injection h1 with _ h2 _
    exact absurd h2 (by decide)
/-- what isn't a disk's stays -/
def Fr (w w' : World) : Prop := ∀ (k : Nat) (cells : Array Value) (t : TypeId), w.heap[k]? = some (.cells cells t (0, 0)) → t ≠ 60 → t ≠ 29 → t ≠ 65 → w'.heap[k]? = some (.cells cells t (0, 0))
theorem Fr.refl (w : World) : Fr w w := fun _ _ _ h _ _ _ => h
theorem Fr.trans {w w1 w2 : World} (h1 : Fr w w1) (h2 : Fr w1 w2) : Fr w w2 := fun k c t h a b d => h2 k c t (h1 k c t h a b d) a b d
theorem Fr.below {w w' : World} (h : Below w.heap.size w w') : Fr w w' := fun k c t hk _ _ _ => blk_below hk h
theorem Fr.but {w w' : World} {g ty : Nat} {cs : Array Value} (hg : w.heap[g]? = some (.cells cs ty (0, 0))) (ht : ty = 60 ∨ ty = 29 ∨ ty = 65) (h : ∀ k, k ≠ g → w'.heap[k]? = w.heap[k]?) : Fr w w' := fun k c t hk a b d => by
  refine (h k (fun e => ?_)).trans hk
  rw [e, hg] at hk
  injection hk with hk
  injection hk with _ h2 _
  rcases ht with h | h | h
  · exact absurd (h2.symm.trans h) a
  · exact absurd (h2.symm.trans h) b
  · exact absurd (h2.symm.trans h) d
/-- the disk's own row is another one, all else stays -/
theorem Rep.row {B : Nat} {w w' : World} {gd ga gh n : Nat} {bt : Value} {s : DS} (r : Rep B w gd ga gh n bt s) (al st : Int) (ni : Bool) (h0 : 0 ≤ al) (h1 : al < 9223372036854775808) (h2 : 0 ≤ st) (hd : w'.heap[gd]? = some (.cells (drow (.slice (some ⟨ga, 0, none⟩) n n) (some ⟨gh, 0, none⟩) n n bt al st ni) 60 (0, 0))) (ho : ∀ k, k ≠ gd → w'.heap[k]? = w.heap[k]?) : Rep B w' gd ga gh n bt { s with al := al, st := st, ni := ni } where
  d := hd
  a := (ho ga r.dne.1).trans r.a
  h := (ho gh r.dne.2).trans r.h
  b := r.b.move (fun k hk => ho k (r.b.ne r.d (by decide) hk))
  bd := r.bd
  ba := r.ba
  bh := r.bh
  ne := r.ne
  la := r.la
  lh := r.lh
  n0 := r.n0
  ok := r.ok
  al0 := h0
  al1 := h1
  st0 := h2
theorem Rep.below {B : Nat} {w w' : World} {gd ga gh n : Nat} {bt : Value} {s : DS} (r : Rep B w gd ga gh n bt s) (hb : Below w.heap.size w w') : Rep B w' gd ga gh n bt s where
  d := blk_below r.d hb
  a := blk_below r.a hb
  h := blk_below r.h hb
  b := Kd.R_below r.b hb
  bd := r.bd
  ba := r.ba
  bh := r.bh
  ne := r.ne
  la := r.la
  lh := r.lh
  n0 := r.n0
  ok := r.ok
  al0 := r.al0
  al1 := r.al1
  st0 := r.st0
theorem drow_al (a : Value) (H : Option Addr) (n c : Nat) (bt : Value) (al st : Int) (ni : Bool) (x : Int) : (drow a H n c bt al st ni).setIfInBounds 3 (.int .i64 x) = drow a H n c bt x st ni := rfl
theorem drow_st (a : Value) (H : Option Addr) (n c : Nat) (bt : Value) (al st : Int) (ni : Bool) (x : Int) : (drow a H n c bt al st ni).setIfInBounds 4 (.int .i64 x) = drow a H n c bt al x ni := rfl
theorem drow_ni (a : Value) (H : Option Addr) (n c : Nat) (bt : Value) (al st : Int) (ni x : Bool) : (drow a H n c bt al st ni).setIfInBounds 5 (.bool x) = drow a H n c bt al st x := rfl
theorem drow_bt (a : Value) (H : Option Addr) (n c : Nat) (bt : Value) (al st : Int) (ni : Bool) (x : Value) : (drow a H n c bt al st ni).setIfInBounds 2 x = drow a H n c x al st ni := rfl
theorem fcallL_ {P : Program} {ops : Array Oper} {rest : List Oper} {oi : Oper} {a : Act} {w : World} {Q : Exit → Act → World → Prop} (N : Option Tmp) (hd : oi.dst = N) (hg : oi.guard = none) {f : FuncId} {fn : Func} {x : Operand} {xs : Array Operand} {ts : Array TypeId} {caps : Array Value} (hf : P.funcs[f]? = some fn) (hname : (fn.name == "runtime.NumGoroutine") = false) (hb : fn.body.isSome = true) (args : Array Value)
    (hop : oi.op = .call { callee := .value x, args := xs, argTypes := ts }) (hx : a.eval x = .func (.func f) #[] caps) (hargs : xs.map a.eval ++ caps = args)
    (h : Calls P f args w fun e w' => ∃ v, e = .returned v ∧ wpList P ops Q rest (a.put N v) w') : wpList P ops Q (oi :: rest) a w := by
  refine wpList_plain hg fun K hK => ?_
  have he := enters_ hf hname hb args w
  have hrun : (execOp a.eval oi).run P w = .ok (.enter f args) w := by
    unfold execOp
    simp [hop, resolve, hx, Deferred.ofValue, invoke, hargs, he]
  unfold Oper.wp
  rw [hrun, Oper.upon_enter]
  refine h.mono fun e w'' hh => ?_
  obtain ⟨v, rfl, hk⟩ := hh
  subst hd
  exact hK _ _ hk

set_option maxHeartbeats 8000000 in
set_option maxRecDepth 100000 in
theorem step.night (w : World) (gd : Nat) (a : Value) (H : Option Addr) (n c : Nat) (bt : Value) (al st : Int)  (hg : w.heap[gd]? = some (.cells (drow a H n c bt al st true) 60 (0, 0))) (hn : 0 < n) (i : Int) (F : Value) :
    Calls Try.prog 28 #[.pointer (some ⟨gd, 0, none⟩), .int .i64 i, F] w fun e w' => e = .returned (.int .i64 9) ∧ w' = w := by
  go_enter Try.func28, Try.ntmps28
  go_wp2_with (first
    | (go_at_call 27; with_reducible refine (day.night _ gd a H n c bt al st hg hn).mono ?_; rintro e' w' ⟨rfl, hw⟩; subst w'))
  go_ret
  exact ⟨rfl, rfl⟩

set_option maxHeartbeats 8000000 in
set_option maxRecDepth 100000 in
theorem step.bad (w : World) (gd : Nat) (a : Value) (H : Option Addr) (n c : Nat) (bt : Value) (al st : Int) (hg : w.heap[gd]? = some (.cells (drow a H n c bt al st false) 60 (0, 0))) (hn : 0 < n) (i : Int) (hi : i < 0 ∨ (n : Int) ≤ i) (F : Value) :
    Calls Try.prog 28 #[.pointer (some ⟨gd, 0, none⟩), .int .i64 i, F] w fun e w' => e = .returned (.int .i64 2) ∧ w' = w := by
  have d1 : ((knownR n i) == 0) = false := by unfold knownR; rw [if_pos hi]; rfl
  have d2 : ((knownR n i) != 0) = true := by unfold knownR; rw [if_pos hi]; rfl
  have d3 : knownR n i = 2 := by unfold knownR; rw [if_pos hi]
  go_enter Try.func28, Try.ntmps28
  go_wp2_with (first
    | (go_at_call 27; with_reducible refine (day.ok _ gd a H n c bt al st hg hn).mono ?_; rintro e' w' ⟨rfl, hw⟩; subst w')
    | (go_at_call 31; with_reducible refine (known.row _ gd a H n c bt al st false hg i hn).mono ?_; rintro e' w' ⟨rfl, hw⟩; subst w'))
  go_ret
  exact ⟨rfl, rfl⟩

set_option maxHeartbeats 8000000 in
set_option maxRecDepth 100000 in
theorem step.ring (B0 : Nat) (w : World) (gd : Nat) (a : Value) (H : Option Addr) (n c : Nat) (bt : Value) (st : Int) (hg : w.heap[gd]? = some (.cells (drow a H n c bt 1 st false) 60 (0, 0))) (hn : 0 < n) (i : Int) (hi0 : 0 ≤ i) (hi1 : i < n) (F : Value) (hbd : B0 ≤ gd) :
    Calls Try.prog 28 #[.pointer (some ⟨gd, 0, none⟩), .int .i64 i, F] w fun e w' => e = .returned (.int .i64 9) ∧ w'.heap[gd]? = some (.cells (drow a H n c bt 0 st true) 60 (0, 0)) ∧ (∀ k, k ≠ gd → w'.heap[k]? = w.heap[k]?) ∧ Below B0 w w' := by
  have HBd := Aside0.mk hbd
  have SB := Aside0.mk (Below.refl B0 w)
  have x3 : w.cell? ⟨gd, 3, none⟩ = some (.int .i64 1) := (blk_cell hg 3).trans rfl
  have z3 := blk_frozen hg 3
  go_enter Try.func28, Try.ntmps28
  go_upto_region 8 with (first | (go_at_call 27; with_reducible refine (day.ok _ gd a H n c bt 1 st hg hn).mono ?_; rintro e' w' ⟨rfl, hw⟩; subst w') | (go_at_call 31; with_reducible refine (known.ok _ gd a H n c bt 1 st false hg i hn hi0 hi1).mono ?_; rintro e' w' ⟨rfl, hw⟩; subst w'))
  have R0 := Aside0.mk hg
  have R1 := Aside0.mk (blk_put R0.out 3 (.int .i64 0) (drow_al _ _ _ _ _ _ _ _ _))
  have OR1 := Aside0.mk (show ∀ k, k ≠ gd → (w.setCell ⟨gd, 3, none⟩ (.int .i64 0)).heap[k]? = w.heap[k]? from fun k hk => heap_setCell_other _ _ k _ hk)
  have SR1 := Aside0.mk (show Below B0 w (w.setCell ⟨gd, 3, none⟩ (.int .i64 0)) from SB.out.setCell (show B0 ≤ gd from HBd.out) _)
  generalize w.setCell ⟨gd, 3, none⟩ (.int .i64 0) = w1 at R1 OR1 SR1 ⊢
  clear x3 z3 R0 SB hg
  have SB := SR1
  have x3 : w1.cell? ⟨gd, 3, none⟩ = some (.int .i64 0) := (blk_cell R1.out 3).trans rfl
  have x5 : w1.cell? ⟨gd, 5, none⟩ = some (.bool false) := (blk_cell R1.out 5).trans rfl
  have z5 := blk_frozen R1.out 5
  go_upto_region 10 with (fail)
  have R2 := Aside0.mk (blk_put R1.out 5 (.bool true) (drow_ni _ _ _ _ _ _ _ _ _))
  have OR2 := Aside0.mk (show ∀ k, k ≠ gd → (w1.setCell ⟨gd, 5, none⟩ (.bool true)).heap[k]? = w1.heap[k]? from fun k hk => heap_setCell_other _ _ k _ hk)
  have SR2 := Aside0.mk (show Below B0 w (w1.setCell ⟨gd, 5, none⟩ (.bool true)) from SB.out.setCell (show B0 ≤ gd from HBd.out) _)
  generalize w1.setCell ⟨gd, 5, none⟩ (.bool true) = w2 at R2 OR2 SR2 ⊢
  clear x3 x5 z5 R1 SB SR1
  go_wp2
  go_ret
  exact ⟨rfl, R2.out, fun k hk => (OR2.out k hk).trans (OR1.out k hk), SR2.out⟩

set_option maxHeartbeats 8000000 in
set_option maxRecDepth 100000 in
theorem step.low (B0 : Nat) (w : World) (gd : Nat) (a : Value) (H : Option Addr) (n c : Nat) (bt : Value) (al st : Int) (hg : w.heap[gd]? = some (.cells (drow a H n c bt al st false) 60 (0, 0))) (hn : 0 < n) (i : Int) (hi0 : 0 ≤ i) (hi1 : i < n) (hal : al ≤ 0) (hal0 : 0 ≤ al) (hal1 : al < 9223372036854775808) (hst0 : 0 ≤ st) (hst1 : st < 4611686018427387904) (f : FuncId) (fn : Func) (hf : Try.prog.funcs[f]? = some fn) (hname : (fn.name == "runtime.NumGoroutine") = false) (hbody : fn.body.isSome = true) (caps : Array Value) (hbd : B0 ≤ gd) (Q : World → Prop)
    (hF : ∀ w1 : World, w1.heap[gd]? = some (.cells (drow a H n c bt 0 (st + 1) false) 60 (0, 0)) → (∀ k, k ≠ gd → w1.heap[k]? = w.heap[k]?) → Below B0 w w1 → Calls Try.prog f caps w1 fun e w' => e = .returned (.tuple #[]) ∧ Q w') :
    Calls Try.prog 28 #[.pointer (some ⟨gd, 0, none⟩), .int .i64 i, .func (.func f) #[] caps] w fun e w' => e = .returned (.int .i64 0) ∧ Q w' := by
  have HBd := Aside0.mk hbd
  have SB := Aside0.mk (Below.refl B0 w)
  have HF := Aside0.mk hF
  have HFN := Aside0.mk hf
  have HFM := Aside0.mk hname
  have HFB := Aside0.mk hbody
  have e1 : wrap64 (al - 1) = al - 1 := by unfold wrap64; omega
  have e2 : wrap64 (st + 1) = st + 1 := by unfold wrap64; omega
  have d1 : (al - 1 == 0) = false := by simp; omega
  have d2 : decide (al - 1 < 0) = true := decide_eq_true (by omega)
  have x3 : w.cell? ⟨gd, 3, none⟩ = some (.int .i64 al) := (blk_cell hg 3).trans rfl
  have z3 := blk_frozen hg 3
  clear hF hf hname hbody
  go_enter Try.func28, Try.ntmps28
  go_upto_region 8 with (first | (go_at_call 27; with_reducible refine (day.ok _ gd a H n c bt al st hg hn).mono ?_; rintro e' w' ⟨rfl, hw⟩; subst w') | (go_at_call 31; with_reducible refine (known.ok _ gd a H n c bt al st false hg i hn hi0 hi1).mono ?_; rintro e' w' ⟨rfl, hw⟩; subst w'))
  have R0 := Aside0.mk hg
  have R1 := Aside0.mk (blk_put R0.out 3 (.int .i64 (al - 1)) (drow_al _ _ _ _ _ _ _ _ _))
  have OR1 := Aside0.mk (show ∀ k, k ≠ gd → (w.setCell ⟨gd, 3, none⟩ (.int .i64 (al - 1))).heap[k]? = w.heap[k]? from fun k hk => heap_setCell_other _ _ k _ hk)
  have SR1 := Aside0.mk (show Below B0 w (w.setCell ⟨gd, 3, none⟩ (.int .i64 (al - 1))) from SB.out.setCell (show B0 ≤ gd from HBd.out) _)
  generalize w.setCell ⟨gd, 3, none⟩ (.int .i64 (al - 1)) = w1 at R1 OR1 SR1 ⊢
  clear x3 z3 R0 SB hg
  have SB := SR1
  have x3 : w1.cell? ⟨gd, 3, none⟩ = some (.int .i64 (al - 1)) := (blk_cell R1.out 3).trans rfl
  have z3 := blk_frozen R1.out 3
  go_upto_region 13 with (fail)
  have R2 := Aside0.mk (blk_put R1.out 3 (.int .i64 0) (drow_al _ _ _ _ _ _ _ _ _))
  have OR2 := Aside0.mk (show ∀ k, k ≠ gd → (w1.setCell ⟨gd, 3, none⟩ (.int .i64 0)).heap[k]? = w1.heap[k]? from fun k hk => heap_setCell_other _ _ k _ hk)
  have SR2 := Aside0.mk (show Below B0 w (w1.setCell ⟨gd, 3, none⟩ (.int .i64 0)) from SB.out.setCell (show B0 ≤ gd from HBd.out) _)
  generalize w1.setCell ⟨gd, 3, none⟩ (.int .i64 0) = w2 at R2 OR2 SR2 ⊢
  clear x3 z3 R1 SB SR1
  have SB := SR2
  have OW := Aside0.mk (fun k (hk : k ≠ gd) => (OR2.out k hk).trans (OR1.out k hk))
  have x4 : w2.cell? ⟨gd, 4, none⟩ = some (.int .i64 st) := (blk_cell R2.out 4).trans rfl
  have z4 := blk_frozen R2.out 4
  go_upto_region 14 with (fail)
  have R9 := Aside0.mk (blk_put R2.out 4 (.int .i64 (st + 1)) (drow_st _ _ _ _ _ _ _ _ _))
  have OR9 := Aside0.mk (show ∀ k, k ≠ gd → (w2.setCell ⟨gd, 4, none⟩ (.int .i64 (st + 1))).heap[k]? = w2.heap[k]? from fun k hk => heap_setCell_other _ _ k _ hk)
  have SR9 := Aside0.mk (show Below B0 w (w2.setCell ⟨gd, 4, none⟩ (.int .i64 (st + 1))) from SB.out.setCell (show B0 ≤ gd from HBd.out) _)
  generalize w2.setCell ⟨gd, 4, none⟩ (.int .i64 (st + 1)) = w9 at R9 OR9 SR9 ⊢
  clear x4 z4 R2 SB
  go_wp2_with ((with_reducible refine gate_dst (N := 53) rfl ?_); refine fcallL_ (some 53) rfl rfl HFN.out HFM.out HFB.out caps rfl rfl (by simp) ?_; refine (HF.out _ R9.out (fun k hk => (OR9.out k hk).trans (OW.out k hk)) SR9.out).mono ?_; rintro e w' ⟨rfl, hq⟩; refine ⟨_, rfl, ?_⟩)
  go_ret
  exact ⟨rfl, hq⟩

set_option maxHeartbeats 8000000 in
set_option maxRecDepth 100000 in
theorem step.high (B0 : Nat) (w : World) (gd : Nat) (a : Value) (H : Option Addr) (n c : Nat) (bt : Value) (al st : Int) (hg : w.heap[gd]? = some (.cells (drow a H n c bt al st false) 60 (0, 0))) (hn : 0 < n) (i : Int) (hi0 : 0 ≤ i) (hi1 : i < n) (hal : 1 < al) (hal0 : 0 ≤ al) (hal1 : al < 9223372036854775808) (hst0 : 0 ≤ st) (hst1 : st < 4611686018427387904) (f : FuncId) (fn : Func) (hf : Try.prog.funcs[f]? = some fn) (hname : (fn.name == "runtime.NumGoroutine") = false) (hbody : fn.body.isSome = true) (caps : Array Value) (hbd : B0 ≤ gd) (Q : World → Prop)
    (hF : ∀ w1 : World, w1.heap[gd]? = some (.cells (drow a H n c bt (al - 1) (st + 1) false) 60 (0, 0)) → (∀ k, k ≠ gd → w1.heap[k]? = w.heap[k]?) → Below B0 w w1 → Calls Try.prog f caps w1 fun e w' => e = .returned (.tuple #[]) ∧ Q w') :
    Calls Try.prog 28 #[.pointer (some ⟨gd, 0, none⟩), .int .i64 i, .func (.func f) #[] caps] w fun e w' => e = .returned (.int .i64 0) ∧ Q w' := by
  have HBd := Aside0.mk hbd
  have SB := Aside0.mk (Below.refl B0 w)
  have HF := Aside0.mk hF
  have HFN := Aside0.mk hf
  have HFM := Aside0.mk hname
  have HFB := Aside0.mk hbody
  have e1 : wrap64 (al - 1) = al - 1 := by unfold wrap64; omega
  have e2 : wrap64 (st + 1) = st + 1 := by unfold wrap64; omega
  have d1 : (al - 1 == 0) = false := by simp; omega
  have d2 : decide (al - 1 < 0) = false := decide_eq_false (by omega)
  have x3 : w.cell? ⟨gd, 3, none⟩ = some (.int .i64 al) := (blk_cell hg 3).trans rfl
  have z3 := blk_frozen hg 3
  clear hF hf hname hbody
  go_enter Try.func28, Try.ntmps28
  go_upto_region 8 with (first | (go_at_call 27; with_reducible refine (day.ok _ gd a H n c bt al st hg hn).mono ?_; rintro e' w' ⟨rfl, hw⟩; subst w') | (go_at_call 31; with_reducible refine (known.ok _ gd a H n c bt al st false hg i hn hi0 hi1).mono ?_; rintro e' w' ⟨rfl, hw⟩; subst w'))
  have R0 := Aside0.mk hg
  have R1 := Aside0.mk (blk_put R0.out 3 (.int .i64 (al - 1)) (drow_al _ _ _ _ _ _ _ _ _))
  have OR1 := Aside0.mk (show ∀ k, k ≠ gd → (w.setCell ⟨gd, 3, none⟩ (.int .i64 (al - 1))).heap[k]? = w.heap[k]? from fun k hk => heap_setCell_other _ _ k _ hk)
  have SR1 := Aside0.mk (show Below B0 w (w.setCell ⟨gd, 3, none⟩ (.int .i64 (al - 1))) from SB.out.setCell (show B0 ≤ gd from HBd.out) _)
  generalize w.setCell ⟨gd, 3, none⟩ (.int .i64 (al - 1)) = w1 at R1 OR1 SR1 ⊢
  clear x3 z3 R0 SB hg
  have SB := SR1
  have x3 : w1.cell? ⟨gd, 3, none⟩ = some (.int .i64 (al - 1)) := (blk_cell R1.out 3).trans rfl
  have z3 := blk_frozen R1.out 3
  go_upto_region 13 with (fail)
  have OW := OR1
  have R2 := R1
  clear x3 z3 R1
  have x4 : w1.cell? ⟨gd, 4, none⟩ = some (.int .i64 st) := (blk_cell R2.out 4).trans rfl
  have z4 := blk_frozen R2.out 4
  go_upto_region 14 with (fail)
  have R9 := Aside0.mk (blk_put R2.out 4 (.int .i64 (st + 1)) (drow_st _ _ _ _ _ _ _ _ _))
  have OR9 := Aside0.mk (show ∀ k, k ≠ gd → (w1.setCell ⟨gd, 4, none⟩ (.int .i64 (st + 1))).heap[k]? = w1.heap[k]? from fun k hk => heap_setCell_other _ _ k _ hk)
  have SR9 := Aside0.mk (show Below B0 w (w1.setCell ⟨gd, 4, none⟩ (.int .i64 (st + 1))) from SB.out.setCell (show B0 ≤ gd from HBd.out) _)
  generalize w1.setCell ⟨gd, 4, none⟩ (.int .i64 (st + 1)) = w9 at R9 OR9 SR9 ⊢
  clear x4 z4 R2 SB
  go_wp2_with ((with_reducible refine gate_dst (N := 53) rfl ?_); refine fcallL_ (some 53) rfl rfl HFN.out HFM.out HFB.out caps rfl rfl (by simp) ?_; refine (HF.out _ R9.out (fun k hk => (OR9.out k hk).trans (OW.out k hk)) SR9.out).mono ?_; rintro e w' ⟨rfl, hq⟩; refine ⟨_, rfl, ?_⟩)
  go_ret
  exact ⟨rfl, hq⟩
end Go.Proofs.Ytlnfdhcpnbhkdaa.GA
