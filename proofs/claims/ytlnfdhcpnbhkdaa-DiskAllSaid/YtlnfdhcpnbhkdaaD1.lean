/- Blocks in memory: loads, stores and copies of 64 bytes. No condition. -/
import Derived.Test.YtlnfdhcpnbhkdaaD0
import Derived.Laws.CopyOwn
import Derived.ChangeKeysEq
import Derived.Deep.RegionHeld3
import Derived.Deep.MidRow
namespace Go.Proofs.Ytlnfdhcpnbhkdaa.GA
open Go.RowKit Go.Proofs.YtlnfdhcpnbhkdaaW.PrintWords Go.Proofs.YtlnfdhcpnbhkdaaW.PrintLast Go.Proofs.YtlnfdhcpnbhkdaaW.PrintMore
set_option linter.unusedVariables false
set_option linter.unusedSimpArgs false


/-- the cells of a disk -/
def drow (a : Value) (H : Option Addr) (n c : Nat) (bt : Value) (al st : Int) (ni : Bool) : Array Value := #[a, .slice H n c, bt, .int .i64 al, .int .i64 st, .bool ni]
/-- none, or a zero one -/
def ZV (w : World) (v : Value) : Prop := v = .pointer none ∨ ∃ gd : Nat, v = .pointer (some ⟨gd, 0, none⟩) ∧ w.heap[gd]? = some (.cells (drow (.slice none 0 0) none 0 0 (.slice none 0 0) 0 0 false) 60 (0, 0))

set_option maxHeartbeats 4000000 in
set_option maxRecDepth 100000 in
theorem Blocks.row (w : World) (gd : Nat) (a : Value) (H : Option Addr) (n c : Nat) (bt : Value) (al st : Int) (ni : Bool) (hg : w.heap[gd]? = some (.cells (drow a H n c bt al st ni) 60 (0, 0))) :
    Calls Try.prog 26 #[.pointer (some ⟨gd, 0, none⟩)] w fun e w' => e = .returned (.int .i64 n) ∧ w' = w := by
  have x1 : w.cell? ⟨gd, 1, none⟩ = some (.slice H n c) := (blk_cell hg 1).trans rfl
  clear hg
  go_enter Try.func26, Try.ntmps26
  go_wp2
  go_ret
  exact ⟨rfl, rfl⟩

set_option maxHeartbeats 4000000 in
set_option maxRecDepth 100000 in
theorem Blocks.zero (w : World) (v : Value) (h : ZV w v) :
    Calls Try.prog 26 #[v] w fun e w' => e = .returned (.int .i64 0) ∧ w' = w := by
  rcases h with rfl | ⟨gd, rfl, hg⟩
  · go_enter Try.func26, Try.ntmps26
    go_wp2
    go_ret
    exact ⟨rfl, rfl⟩
  · have x1 : w.cell? ⟨gd, 1, none⟩ = some (.slice none 0 0) := (blk_cell hg 1).trans rfl
    clear hg
    go_enter Try.func26, Try.ntmps26
    go_wp2
    go_ret
    exact ⟨rfl, rfl⟩

set_option maxHeartbeats 4000000 in
set_option maxRecDepth 100000 in
theorem Dark.zero (w : World) (v : Value) (h : ZV w v) :
    Calls Try.prog 12 #[v] w fun e w' => e = .returned (.bool false) ∧ w' = w := by
  rcases h with rfl | ⟨gd, rfl, hg⟩
  · go_enter Try.func12, Try.ntmps12
    go_wp2
    go_ret
    exact ⟨rfl, rfl⟩
  · have x5 : w.cell? ⟨gd, 5, none⟩ = some (.bool false) := (blk_cell hg 5).trans rfl
    clear hg
    go_enter Try.func12, Try.ntmps12
    go_wp2
    go_ret
    exact ⟨rfl, rfl⟩

set_option maxHeartbeats 4000000 in
set_option maxRecDepth 100000 in
theorem Steps.zero (w : World) (v : Value) (h : ZV w v) :
    Calls Try.prog 13 #[v] w fun e w' => e = .returned (.int .i64 0) ∧ w' = w := by
  rcases h with rfl | ⟨gd, rfl, hg⟩
  · go_enter Try.func13, Try.ntmps13
    go_wp2
    go_ret
    exact ⟨rfl, rfl⟩
  · have x4 : w.cell? ⟨gd, 4, none⟩ = some (.int .i64 0) := (blk_cell hg 4).trans rfl
    clear hg
    go_enter Try.func13, Try.ntmps13
    go_wp2
    go_ret
    exact ⟨rfl, rfl⟩

set_option maxHeartbeats 4000000 in
set_option maxRecDepth 100000 in
theorem Loose.zero (w : World) (v : Value) (h : ZV w v) :
    Calls Try.prog 16 #[v] w fun e w' => e = .returned (.int .i64 0) ∧ w' = w := by
  rcases h with rfl | ⟨gd, rfl, hg⟩
  · go_enter Try.func16, Try.ntmps16
    go_wp2
    go_ret
    exact ⟨rfl, rfl⟩
  · have x2 : w.cell? ⟨gd, 2, none⟩ = some (.slice none 0 0) := (blk_cell hg 2).trans rfl
    clear hg
    go_enter Try.func16, Try.ntmps16
    go_wp2
    go_ret
    exact ⟨rfl, rfl⟩

set_option maxHeartbeats 4000000 in
set_option maxRecDepth 100000 in
theorem Dark.row (w : World) (gd : Nat) (a : Value) (H : Option Addr) (n c : Nat) (bt : Value) (al st : Int) (ni : Bool) (hg : w.heap[gd]? = some (.cells (drow a H n c bt al st ni) 60 (0, 0))) :
    Calls Try.prog 12 #[.pointer (some ⟨gd, 0, none⟩)] w fun e w' => e = .returned (.bool ni) ∧ w' = w := by
  have x5 : w.cell? ⟨gd, 5, none⟩ = some (.bool ni) := (blk_cell hg 5).trans rfl
  clear hg
  cases ni
  · go_enter Try.func12, Try.ntmps12
    go_wp2
    go_ret
    exact ⟨rfl, rfl⟩
  · go_enter Try.func12, Try.ntmps12
    go_wp2
    go_ret
    exact ⟨rfl, rfl⟩

set_option maxHeartbeats 4000000 in
set_option maxRecDepth 100000 in
theorem Steps.row (w : World) (gd : Nat) (a : Value) (H : Option Addr) (n c : Nat) (bt : Value) (al st : Int) (ni : Bool) (hg : w.heap[gd]? = some (.cells (drow a H n c bt al st ni) 60 (0, 0))) :
    Calls Try.prog 13 #[.pointer (some ⟨gd, 0, none⟩)] w fun e w' => e = .returned (.int .i64 st) ∧ w' = w := by
  have x4 : w.cell? ⟨gd, 4, none⟩ = some (.int .i64 st) := (blk_cell hg 4).trans rfl
  clear hg
  go_enter Try.func13, Try.ntmps13
  go_wp2
  go_ret
  exact ⟨rfl, rfl⟩

set_option maxHeartbeats 4000000 in
set_option maxRecDepth 100000 in
theorem Loose.row (w : World) (gd : Nat) (a : Value) (H : Option Addr) (n c : Nat) (B : Option Addr) (m cb : Nat) (al st : Int) (ni : Bool) (hg : w.heap[gd]? = some (.cells (drow a H n c (.slice B m cb) al st ni) 60 (0, 0))) :
    Calls Try.prog 16 #[.pointer (some ⟨gd, 0, none⟩)] w fun e w' => e = .returned (.int .i64 m) ∧ w' = w := by
  have x2 : w.cell? ⟨gd, 2, none⟩ = some (.slice B m cb) := (blk_cell hg 2).trans rfl
  clear hg
  go_enter Try.func16, Try.ntmps16
  go_wp2
  go_ret
  exact ⟨rfl, rfl⟩

set_option maxHeartbeats 4000000 in
set_option maxRecDepth 100000 in
theorem known.zero (w : World) (v : Value) (h : ZV w v) (i : Int) :
    Calls Try.prog 31 #[v, .int .i64 i] w fun e w' => e = .returned (.int .i64 1) ∧ w' = w := by
  go_enter Try.func31, Try.ntmps31
  go_wp2_with (first
    | (go_at_call 26; with_reducible refine (Blocks.zero _ v h).mono ?_; rintro e' w' ⟨rfl, rfl⟩))
  go_ret
  exact ⟨rfl, rfl⟩

set_option maxHeartbeats 4000000 in
set_option maxRecDepth 100000 in
theorem known.ok (w : World) (gd : Nat) (a : Value) (H : Option Addr) (n c : Nat) (bt : Value) (al st : Int) (ni : Bool) (hg : w.heap[gd]? = some (.cells (drow a H n c bt al st ni) 60 (0, 0))) (i : Int) (hn : 0 < n) (h0 : 0 ≤ i) (h1 : i < n) :
    Calls Try.prog 31 #[.pointer (some ⟨gd, 0, none⟩), .int .i64 i] w fun e w' => e = .returned (.int .i64 0) ∧ w' = w := by
  have d1 : ((n : Int) == 0) = false := by simp; omega
  have d2 : decide (i < 0) = false := decide_eq_false (by omega)
  have d3 : decide ((n : Int) ≤ i) = false := decide_eq_false (by omega)
  go_enter Try.func31, Try.ntmps31
  go_wp2_with (first
    | (go_at_call 26; with_reducible refine (Blocks.row _ gd a H n c bt al st ni hg).mono ?_; rintro e' w' ⟨rfl, rfl⟩))
  go_ret
  exact ⟨rfl, rfl⟩

set_option maxHeartbeats 4000000 in
set_option maxRecDepth 100000 in
theorem known.neg (w : World) (gd : Nat) (a : Value) (H : Option Addr) (n c : Nat) (bt : Value) (al st : Int) (ni : Bool) (hg : w.heap[gd]? = some (.cells (drow a H n c bt al st ni) 60 (0, 0))) (i : Int) (hn : 0 < n) (h0 : i < 0) :
    Calls Try.prog 31 #[.pointer (some ⟨gd, 0, none⟩), .int .i64 i] w fun e w' => e = .returned (.int .i64 2) ∧ w' = w := by
  have d1 : ((n : Int) == 0) = false := by simp; omega
  have d2 : decide (i < 0) = true := decide_eq_true h0
  go_enter Try.func31, Try.ntmps31
  go_wp2_with (first
    | (go_at_call 26; with_reducible refine (Blocks.row _ gd a H n c bt al st ni hg).mono ?_; rintro e' w' ⟨rfl, rfl⟩))
  go_ret
  exact ⟨rfl, rfl⟩

set_option maxHeartbeats 4000000 in
set_option maxRecDepth 100000 in
theorem known.far (w : World) (gd : Nat) (a : Value) (H : Option Addr) (n c : Nat) (bt : Value) (al st : Int) (ni : Bool) (hg : w.heap[gd]? = some (.cells (drow a H n c bt al st ni) 60 (0, 0))) (i : Int) (hn : 0 < n) (h0 : 0 ≤ i) (h1 : n ≤ i) :
    Calls Try.prog 31 #[.pointer (some ⟨gd, 0, none⟩), .int .i64 i] w fun e w' => e = .returned (.int .i64 2) ∧ w' = w := by
  have d1 : ((n : Int) == 0) = false := by simp; omega
  have d2 : decide (i < 0) = false := decide_eq_false (by omega)
  have d3 : decide ((n : Int) ≤ i) = true := decide_eq_true h1
  go_enter Try.func31, Try.ntmps31
  go_wp2_with (first
    | (go_at_call 26; with_reducible refine (Blocks.row _ gd a H n c bt al st ni hg).mono ?_; rintro e' w' ⟨rfl, rfl⟩))
  go_ret
  exact ⟨rfl, rfl⟩

/-- what known answers -/
def knownR (n : Nat) (i : Int) : Int := if i < 0 ∨ (n : Int) ≤ i then 2 else 0
theorem known.row (w : World) (gd : Nat) (a : Value) (H : Option Addr) (n c : Nat) (bt : Value) (al st : Int) (ni : Bool) (hg : w.heap[gd]? = some (.cells (drow a H n c bt al st ni) 60 (0, 0))) (i : Int) (hn : 0 < n) :
    Calls Try.prog 31 #[.pointer (some ⟨gd, 0, none⟩), .int .i64 i] w fun e w' => e = .returned (.int .i64 (knownR n i)) ∧ w' = w := by
  unfold knownR
  by_cases h0 : i < 0
  · rw [if_pos (.inl h0)]; exact known.neg w gd a H n c bt al st ni hg i hn h0
  · by_cases h1 : (n : Int) ≤ i
    · rw [if_pos (.inr h1)]; exact known.far w gd a H n c bt al st ni hg i hn (by omega) h1
    · rw [if_neg (fun h => h.elim h0 h1)]; exact known.ok w gd a H n c bt al st ni hg i hn (by omega) (by omega)

set_option maxHeartbeats 4000000 in
set_option maxRecDepth 100000 in
theorem day.zero (w : World) (v : Value) (h : ZV w v) :
    Calls Try.prog 27 #[v] w fun e w' => e = .returned (.int .i64 1) ∧ w' = w := by
  go_enter Try.func27, Try.ntmps27
  go_wp2_with (first
    | (go_at_call 31; with_reducible refine (known.zero _ v h 0).mono ?_; rintro e' w' ⟨rfl, rfl⟩))
  go_ret
  exact ⟨rfl, rfl⟩

set_option maxHeartbeats 4000000 in
set_option maxRecDepth 100000 in
theorem day.ok (w : World) (gd : Nat) (a : Value) (H : Option Addr) (n c : Nat) (bt : Value) (al st : Int)  (hg : w.heap[gd]? = some (.cells (drow a H n c bt al st false) 60 (0, 0))) (hn : 0 < n) :
    Calls Try.prog 27 #[.pointer (some ⟨gd, 0, none⟩)] w fun e w' => e = .returned (.int .i64 0) ∧ w' = w := by
  have x5 : w.cell? ⟨gd, 5, none⟩ = some (.bool false) := (blk_cell hg 5).trans rfl
  go_enter Try.func27, Try.ntmps27
  go_wp2_with (first
    | (go_at_call 31; with_reducible refine (known.ok _ gd a H n c bt al st false hg 0 hn (Int.le_refl 0) (by omega)).mono ?_; rintro e' w' ⟨rfl, rfl⟩))
  go_ret
  exact ⟨rfl, rfl⟩

set_option maxHeartbeats 4000000 in
set_option maxRecDepth 100000 in
theorem day.night (w : World) (gd : Nat) (a : Value) (H : Option Addr) (n c : Nat) (bt : Value) (al st : Int)  (hg : w.heap[gd]? = some (.cells (drow a H n c bt al st true) 60 (0, 0))) (hn : 0 < n) :
    Calls Try.prog 27 #[.pointer (some ⟨gd, 0, none⟩)] w fun e w' => e = .returned (.int .i64 9) ∧ w' = w := by
  have x5 : w.cell? ⟨gd, 5, none⟩ = some (.bool true) := (blk_cell hg 5).trans rfl
  go_enter Try.func27, Try.ntmps27
  go_wp2_with (first
    | (go_at_call 31; with_reducible refine (known.ok _ gd a H n c bt al st true hg 0 hn (Int.le_refl 0) (by omega)).mono ?_; rintro e' w' ⟨rfl, rfl⟩))
  go_ret
  exact ⟨rfl, rfl⟩

set_option maxHeartbeats 4000000 in
set_option maxRecDepth 100000 in
theorem Arm.zero (w : World) (v : Value) (h : ZV w v) (i : Int) :
    Calls Try.prog 9 #[v, .int .i64 i] w fun e w' => e = .returned (.int .i64 1) ∧ w' = w := by
  go_enter Try.func9, Try.ntmps9
  go_wp2_with (first
    | (go_at_call 27; with_reducible refine (day.zero _ v h).mono ?_; rintro e' w' ⟨rfl, rfl⟩))
  go_ret
  exact ⟨rfl, rfl⟩

set_option maxHeartbeats 4000000 in
set_option maxRecDepth 100000 in
theorem step.zero (w : World) (v : Value) (h : ZV w v) (i : Int) (F : Value) :
    Calls Try.prog 28 #[v, .int .i64 i, F] w fun e w' => e = .returned (.int .i64 1) ∧ w' = w := by
  go_enter Try.func28, Try.ntmps28
  go_wp2_with (first
    | (go_at_call 27; with_reducible refine (day.zero _ v h).mono ?_; rintro e' w' ⟨rfl, rfl⟩))
  go_ret
  exact ⟨rfl, rfl⟩

set_option maxHeartbeats 4000000 in
set_option maxRecDepth 100000 in
theorem Copy.zero (w : World) (v : Value) (h : ZV w v) :
    Calls Try.prog 20 #[v] w fun e w' => e = .returned (.pointer none) ∧ w' = w := by
  go_enter Try.func20, Try.ntmps20
  go_wp2_with (first
    | (go_at_call 26; with_reducible refine (Blocks.zero _ v h).mono ?_; rintro e' w' ⟨rfl, rfl⟩))
  go_ret
  exact ⟨rfl, rfl⟩

set_option maxHeartbeats 4000000 in
set_option maxRecDepth 100000 in
theorem Crash.zero (w : World) (v : Value) (h : ZV w v) (A : Value) :
    Calls Try.prog 17 #[v, A] w fun e w' => e = .returned (.int .i64 1) ∧ w' = w := by
  go_enter Try.func17, Try.ntmps17
  go_wp2_with (first
    | (go_at_call 31; with_reducible refine (known.zero _ v h 0).mono ?_; rintro e' w' ⟨rfl, rfl⟩))
  go_ret
  exact ⟨rfl, rfl⟩

set_option maxHeartbeats 4000000 in
set_option maxRecDepth 100000 in
theorem New.few (w : World) (i : Int) (h : i < 64) :
    Calls Try.prog 8 #[.int .i64 i] w fun e w' => e = .returned (.tuple #[.pointer none, .int .i64 2]) ∧ w' = w := by
  have d1 : decide (i < 64) = true := decide_eq_true h
  go_enter Try.func8, Try.ntmps8
  go_wp2
  go_ret2
  exact ⟨rfl, rfl⟩
end Go.Proofs.Ytlnfdhcpnbhkdaa.GA
