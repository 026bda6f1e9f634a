import Derived.Test.YthgbipgfplokeaaGAx1
import Derived.Test.YthgbipgfplokeaaGAx2
namespace Go.Proofs.Ythgbipgfplokeaa.GA
open Go.RowKit Go.Proofs.YthgbipgfplokeaaW.PrintWords Go.Proofs.YthgbipgfplokeaaW.PrintLast Go.Proofs.YthgbipgfplokeaaW.PrintMore
set_option linter.unusedVariables false
set_option linter.unusedSimpArgs false

/-- the cells of bytes -/
def bcells (l : List Int) : Array Value := (encs (Value.int .u8) l).toArray
theorem bcells_size (l : List Int) : (bcells l).size = l.length := by simp [bcells, encs]
theorem bcells_get (l : List Int) (j : Nat) (h : j < l.length) : (bcells l)[j]? = some (.int .u8 (rd l (j : Int))) := by
  unfold bcells rd
  rw [List.getElem?_toArray, encs_get (d := 0) l j h, Int.toNat_natCast]
theorem bcells_one (l : List Int) : ∀ v ∈ (bcells l).toList, v.oneCell' = true := by
  intro v hv
  unfold bcells encs at hv
  obtain ⟨x, _, rfl⟩ := List.mem_map.1 hv
  rfl
theorem bcells_set (l : List Int) (j : Nat) (x : Int) : (bcells l).setIfInBounds j (.int .u8 x) = bcells (l.set j x) := by
  unfold bcells encs
  rw [List.setIfInBounds_toArray, List.map_set]
section
variable {P : Program} {ops : Array Oper} {rest : List Oper} {o : Oper} {a : Act} {Q : Exit → Act → World → Prop}
theorem mk_event {W : World} (hgd : o.guard = none) {N : Tmp} (_hd : o.dst = some N) {cs : Array Value} {t : TypeId} {n : Nat}
    (hrun : (execOp a.eval o).run P W = .ok (.value (.slice (some ⟨W.heap.size, 0, none⟩) n n)) (W.alloc (.cells cs t (0, 0))))
    (h : ∀ g, g = W.heap.size → ∀ w1, w1.heap[g]? = some (.cells cs t (0, 0)) → Below W.heap.size W w1 → wpList P ops Q rest (a.put o.dst (.slice (some ⟨g, 0, none⟩) n n)) w1) : wpList P ops Q (o :: rest) a W :=
  Kd.event_run hgd hrun (h _ rfl _ (blk_new W _) (below_alloc (Below.refl _ _) _))
end
/-- a number's bytes, the lowest first -/
def bytesOf8 (n : Int) : List Int := [n % 256, n / 256 % 256, n / 65536 % 256, n / 16777216 % 256, n / 4294967296 % 256, n / 1099511627776 % 256, n / 281474976710656 % 256, n / 72057594037927936 % 256]
def bytesOf4 (n : Int) : List Int := [n % 256, n / 256 % 256, n / 65536 % 256, n / 16777216 % 256]

def putRow8 (n : Int) (i : Nat) : Array Value := if i = 0 then bcells [0, 0, 0, 0, 0, 0, 0, 0] else if i = 1 then bcells [n % 256, 0, 0, 0, 0, 0, 0, 0] else if i = 2 then bcells [n % 256, n / 256 % 256, 0, 0, 0, 0, 0, 0] else if i = 3 then bcells [n % 256, n / 256 % 256, n / 65536 % 256, 0, 0, 0, 0, 0] else if i = 4 then bcells [n % 256, n / 256 % 256, n / 65536 % 256, n / 16777216 % 256, 0, 0, 0, 0] else if i = 5 then bcells [n % 256, n / 256 % 256, n / 65536 % 256, n / 16777216 % 256, n / 4294967296 % 256, 0, 0, 0] else if i = 6 then bcells [n % 256, n / 256 % 256, n / 65536 % 256, n / 16777216 % 256, n / 4294967296 % 256, n / 1099511627776 % 256, 0, 0] else if i = 7 then bcells [n % 256, n / 256 % 256, n / 65536 % 256, n / 16777216 % 256, n / 4294967296 % 256, n / 1099511627776 % 256, n / 281474976710656 % 256, 0] else bcells [n % 256, n / 256 % 256, n / 65536 % 256, n / 16777216 % 256, n / 4294967296 % 256, n / 1099511627776 % 256, n / 281474976710656 % 256, n / 72057594037927936 % 256]
set_option maxHeartbeats 8000000 in
set_option maxRecDepth 100000 in
theorem numPut8.calls (k : Nat) (n L : Int) (w : World) (hL : bits_Len64.f k n = some L) (hle : L ≤ 64) :
    Calls Try.prog 24 #[.int .u64 n, .int .i64 8] w fun e w' => ∃ g, e = .returned (.tuple #[.slice (some ⟨g, 0, none⟩) 8 8, .int .i64 0]) ∧ w'.heap[g]? = some (.cells (bcells (bytesOf8 n)) 5 (0, 0)) ∧ w.heap.size ≤ g ∧ Below w.heap.size w w' := by
  have HL := Aside0.mk hL
  have hd : decide (L > 64) = false := decide_eq_false (by omega)
  have HF := Aside0.mk (show num_fits.f 8 = some true from rfl)
  have hmk : ∀ W : World, (Instr.makeSlice 23 (.int .i64 8) (.int .i64 8)).run Try.prog W = .ok (.slice (some ⟨W.heap.size, 0, none⟩) 8 8) (W.alloc (.cells (putRow8 n 0) 5)) := fun W => by kernel_rfl
  have HB := Aside0.mk (Below.refl w.heap.size w)
  clear hL hle
  go_enter Try.func24, Try.ntmps24
  go_wp2_with (first
    | (go_at_call 34; with_reducible refine (num_fits.calls 8 true _ HF.out).mono ?_; rintro e w' ⟨rfl, ⟨n1, rfl⟩⟩)
    | (go_at_call 35; with_reducible refine (bits_Len64.calls k n L _ HL.out).mono ?_; rintro e w' ⟨rfl, ⟨n2, rfl⟩⟩))
  have BK := Aside0.mk (show ((w.drewN (n1 + n2)).alloc (.cells (putRow8 n 0) 5 (0, 0))).heap[w.heap.size]? = some (.cells (putRow8 n 0) 5 (0, 0)) from blk_new (w.drewN (n1 + n2)) _)
  have n0 := Aside0.mk (show Below w.heap.size w ((w.drewN (n1 + n2)).alloc (.cells (putRow8 n 0) 5 (0, 0))) from below_alloc (pw_below_drewN (Below.refl _ _) _) _)
  clear HB
  have HB := n0
  clear n0
  have GG := Aside0.mk (Nat.le_refl w.heap.size)
  clear hmk
  go_loopw [22] (fun v22 w' => ∃ i : Nat, i ≤ 8 ∧ v22 = .int .i64 i ∧ Aside0 (w'.heap[w.heap.size]? = some (.cells (putRow8 n i) 5 (0, 0))) ∧ Aside0 (Below w.heap.size w w')) (fun v22 _ => 8 - (intOf v22).toNat)
  case atStart => exact ⟨0, by omega, rfl, BK, HB⟩
  case round =>
    clear BK HB
    obtain ⟨i, hi, rfl, BK, HB⟩ := hrel
    rcases (by omega : i = 0 ∨ i = 1 ∨ i = 2 ∨ i = 3 ∨ i = 4 ∨ i = 5 ∨ i = 6 ∨ i = 7 ∨ i = 8) with rfl | rfl | rfl | rfl | rfl | rfl | rfl | rfl | rfl
    · have c0 : wr.cell? ⟨w.heap.size, 0, none⟩ = some (.int .u8 0) := (blk_cell BK.out 0).trans rfl
      have z0 := blk_frozen BK.out 0
      have BN := Aside0.mk (fun (x : Value) (hx : x = .int .u8 (n % 256)) => show (wr.setCell ⟨w.heap.size, 0, none⟩ x).heap[w.heap.size]? = some (.cells (putRow8 n 1) 5 (0, 0)) from by rw [hx]; exact heap_setCell_same wr w.heap.size 0 _ 5 _ BK.out)
      have BB := Aside0.mk (fun (x : Value) => below_set (j := 0) (v := x) HB.out GG.out)
      go_wp2
      exact ⟨⟨1, by omega, rfl, Aside0.mk (BN.out _ (by first | rfl | simp)), Aside0.mk (BB.out _)⟩, by simp only [intOf]; omega⟩
    · have c0 : wr.cell? ⟨w.heap.size, 1, none⟩ = some (.int .u8 0) := (blk_cell BK.out 1).trans rfl
      have z0 := blk_frozen BK.out 1
      have BN := Aside0.mk (fun (x : Value) (hx : x = .int .u8 (n / 256 % 256)) => show (wr.setCell ⟨w.heap.size, 1, none⟩ x).heap[w.heap.size]? = some (.cells (putRow8 n 2) 5 (0, 0)) from by rw [hx]; exact heap_setCell_same wr w.heap.size 1 _ 5 _ BK.out)
      have BB := Aside0.mk (fun (x : Value) => below_set (j := 1) (v := x) HB.out GG.out)
      go_wp2
      exact ⟨⟨2, by omega, rfl, Aside0.mk (BN.out _ (by first | rfl | simp)), Aside0.mk (BB.out _)⟩, by simp only [intOf]; omega⟩
    · have c0 : wr.cell? ⟨w.heap.size, 2, none⟩ = some (.int .u8 0) := (blk_cell BK.out 2).trans rfl
      have z0 := blk_frozen BK.out 2
      have BN := Aside0.mk (fun (x : Value) (hx : x = .int .u8 (n / 65536 % 256)) => show (wr.setCell ⟨w.heap.size, 2, none⟩ x).heap[w.heap.size]? = some (.cells (putRow8 n 3) 5 (0, 0)) from by rw [hx]; exact heap_setCell_same wr w.heap.size 2 _ 5 _ BK.out)
      have BB := Aside0.mk (fun (x : Value) => below_set (j := 2) (v := x) HB.out GG.out)
      go_wp2
      exact ⟨⟨3, by omega, rfl, Aside0.mk (BN.out _ (by first | rfl | simp)), Aside0.mk (BB.out _)⟩, by simp only [intOf]; omega⟩
    · have c0 : wr.cell? ⟨w.heap.size, 3, none⟩ = some (.int .u8 0) := (blk_cell BK.out 3).trans rfl
      have z0 := blk_frozen BK.out 3
      have BN := Aside0.mk (fun (x : Value) (hx : x = .int .u8 (n / 16777216 % 256)) => show (wr.setCell ⟨w.heap.size, 3, none⟩ x).heap[w.heap.size]? = some (.cells (putRow8 n 4) 5 (0, 0)) from by rw [hx]; exact heap_setCell_same wr w.heap.size 3 _ 5 _ BK.out)
      have BB := Aside0.mk (fun (x : Value) => below_set (j := 3) (v := x) HB.out GG.out)
      go_wp2
      exact ⟨⟨4, by omega, rfl, Aside0.mk (BN.out _ (by first | rfl | simp)), Aside0.mk (BB.out _)⟩, by simp only [intOf]; omega⟩
    · have c0 : wr.cell? ⟨w.heap.size, 4, none⟩ = some (.int .u8 0) := (blk_cell BK.out 4).trans rfl
      have z0 := blk_frozen BK.out 4
      have BN := Aside0.mk (fun (x : Value) (hx : x = .int .u8 (n / 4294967296 % 256)) => show (wr.setCell ⟨w.heap.size, 4, none⟩ x).heap[w.heap.size]? = some (.cells (putRow8 n 5) 5 (0, 0)) from by rw [hx]; exact heap_setCell_same wr w.heap.size 4 _ 5 _ BK.out)
      have BB := Aside0.mk (fun (x : Value) => below_set (j := 4) (v := x) HB.out GG.out)
      go_wp2
      exact ⟨⟨5, by omega, rfl, Aside0.mk (BN.out _ (by first | rfl | simp)), Aside0.mk (BB.out _)⟩, by simp only [intOf]; omega⟩
    · have c0 : wr.cell? ⟨w.heap.size, 5, none⟩ = some (.int .u8 0) := (blk_cell BK.out 5).trans rfl
      have z0 := blk_frozen BK.out 5
      have BN := Aside0.mk (fun (x : Value) (hx : x = .int .u8 (n / 1099511627776 % 256)) => show (wr.setCell ⟨w.heap.size, 5, none⟩ x).heap[w.heap.size]? = some (.cells (putRow8 n 6) 5 (0, 0)) from by rw [hx]; exact heap_setCell_same wr w.heap.size 5 _ 5 _ BK.out)
      have BB := Aside0.mk (fun (x : Value) => below_set (j := 5) (v := x) HB.out GG.out)
      go_wp2
      exact ⟨⟨6, by omega, rfl, Aside0.mk (BN.out _ (by first | rfl | simp)), Aside0.mk (BB.out _)⟩, by simp only [intOf]; omega⟩
    · have c0 : wr.cell? ⟨w.heap.size, 6, none⟩ = some (.int .u8 0) := (blk_cell BK.out 6).trans rfl
      have z0 := blk_frozen BK.out 6
      have BN := Aside0.mk (fun (x : Value) (hx : x = .int .u8 (n / 281474976710656 % 256)) => show (wr.setCell ⟨w.heap.size, 6, none⟩ x).heap[w.heap.size]? = some (.cells (putRow8 n 7) 5 (0, 0)) from by rw [hx]; exact heap_setCell_same wr w.heap.size 6 _ 5 _ BK.out)
      have BB := Aside0.mk (fun (x : Value) => below_set (j := 6) (v := x) HB.out GG.out)
      go_wp2
      exact ⟨⟨7, by omega, rfl, Aside0.mk (BN.out _ (by first | rfl | simp)), Aside0.mk (BB.out _)⟩, by simp only [intOf]; omega⟩
    · have c0 : wr.cell? ⟨w.heap.size, 7, none⟩ = some (.int .u8 0) := (blk_cell BK.out 7).trans rfl
      have z0 := blk_frozen BK.out 7
      have BN := Aside0.mk (fun (x : Value) (hx : x = .int .u8 (n / 72057594037927936 % 256)) => show (wr.setCell ⟨w.heap.size, 7, none⟩ x).heap[w.heap.size]? = some (.cells (putRow8 n 8) 5 (0, 0)) from by rw [hx]; exact heap_setCell_same wr w.heap.size 7 _ 5 _ BK.out)
      have BB := Aside0.mk (fun (x : Value) => below_set (j := 7) (v := x) HB.out GG.out)
      go_wp2
      exact ⟨⟨8, by omega, rfl, Aside0.mk (BN.out _ (by first | rfl | simp)), Aside0.mk (BB.out _)⟩, by simp only [intOf]; omega⟩
    · go_wp2
      go_ret2
      exact ⟨w.heap.size, rfl, BK.out, GG.out, HB.out⟩

def putRow4 (n : Int) (i : Nat) : Array Value := if i = 0 then bcells [0, 0, 0, 0] else if i = 1 then bcells [n % 256, 0, 0, 0] else if i = 2 then bcells [n % 256, n / 256 % 256, 0, 0] else if i = 3 then bcells [n % 256, n / 256 % 256, n / 65536 % 256, 0] else bcells [n % 256, n / 256 % 256, n / 65536 % 256, n / 16777216 % 256]
set_option maxHeartbeats 8000000 in
set_option maxRecDepth 100000 in
theorem numPut4.calls (k : Nat) (n L : Int) (w : World) (hL : bits_Len64.f k n = some L) (hle : L ≤ 32) :
    Calls Try.prog 24 #[.int .u64 n, .int .i64 4] w fun e w' => ∃ g, e = .returned (.tuple #[.slice (some ⟨g, 0, none⟩) 4 4, .int .i64 0]) ∧ w'.heap[g]? = some (.cells (bcells (bytesOf4 n)) 5 (0, 0)) ∧ w.heap.size ≤ g ∧ Below w.heap.size w w' := by
  have HL := Aside0.mk hL
  have hd : decide (L > 32) = false := decide_eq_false (by omega)
  have HF := Aside0.mk (show num_fits.f 4 = some true from rfl)
  have hmk : ∀ W : World, (Instr.makeSlice 23 (.int .i64 4) (.int .i64 4)).run Try.prog W = .ok (.slice (some ⟨W.heap.size, 0, none⟩) 4 4) (W.alloc (.cells (putRow4 n 0) 5)) := fun W => by kernel_rfl
  have HB := Aside0.mk (Below.refl w.heap.size w)
  clear hL hle
  go_enter Try.func24, Try.ntmps24
  go_wp2_with (first
    | (go_at_call 34; with_reducible refine (num_fits.calls 4 true _ HF.out).mono ?_; rintro e w' ⟨rfl, ⟨n1, rfl⟩⟩)
    | (go_at_call 35; with_reducible refine (bits_Len64.calls k n L _ HL.out).mono ?_; rintro e w' ⟨rfl, ⟨n2, rfl⟩⟩))
  have BK := Aside0.mk (show ((w.drewN (n1 + n2)).alloc (.cells (putRow4 n 0) 5 (0, 0))).heap[w.heap.size]? = some (.cells (putRow4 n 0) 5 (0, 0)) from blk_new (w.drewN (n1 + n2)) _)
  have n0 := Aside0.mk (show Below w.heap.size w ((w.drewN (n1 + n2)).alloc (.cells (putRow4 n 0) 5 (0, 0))) from below_alloc (pw_below_drewN (Below.refl _ _) _) _)
  clear HB
  have HB := n0
  clear n0
  have GG := Aside0.mk (Nat.le_refl w.heap.size)
  clear hmk
  go_loopw [22] (fun v22 w' => ∃ i : Nat, i ≤ 4 ∧ v22 = .int .i64 i ∧ Aside0 (w'.heap[w.heap.size]? = some (.cells (putRow4 n i) 5 (0, 0))) ∧ Aside0 (Below w.heap.size w w')) (fun v22 _ => 4 - (intOf v22).toNat)
  case atStart => exact ⟨0, by omega, rfl, BK, HB⟩
  case round =>
    clear BK HB
    obtain ⟨i, hi, rfl, BK, HB⟩ := hrel
    rcases (by omega : i = 0 ∨ i = 1 ∨ i = 2 ∨ i = 3 ∨ i = 4) with rfl | rfl | rfl | rfl | rfl
    · have c0 : wr.cell? ⟨w.heap.size, 0, none⟩ = some (.int .u8 0) := (blk_cell BK.out 0).trans rfl
      have z0 := blk_frozen BK.out 0
      have BN := Aside0.mk (fun (x : Value) (hx : x = .int .u8 (n % 256)) => show (wr.setCell ⟨w.heap.size, 0, none⟩ x).heap[w.heap.size]? = some (.cells (putRow4 n 1) 5 (0, 0)) from by rw [hx]; exact heap_setCell_same wr w.heap.size 0 _ 5 _ BK.out)
      have BB := Aside0.mk (fun (x : Value) => below_set (j := 0) (v := x) HB.out GG.out)
      go_wp2
      exact ⟨⟨1, by omega, rfl, Aside0.mk (BN.out _ (by first | rfl | simp)), Aside0.mk (BB.out _)⟩, by simp only [intOf]; omega⟩
    · have c0 : wr.cell? ⟨w.heap.size, 1, none⟩ = some (.int .u8 0) := (blk_cell BK.out 1).trans rfl
      have z0 := blk_frozen BK.out 1
      have BN := Aside0.mk (fun (x : Value) (hx : x = .int .u8 (n / 256 % 256)) => show (wr.setCell ⟨w.heap.size, 1, none⟩ x).heap[w.heap.size]? = some (.cells (putRow4 n 2) 5 (0, 0)) from by rw [hx]; exact heap_setCell_same wr w.heap.size 1 _ 5 _ BK.out)
      have BB := Aside0.mk (fun (x : Value) => below_set (j := 1) (v := x) HB.out GG.out)
      go_wp2
      exact ⟨⟨2, by omega, rfl, Aside0.mk (BN.out _ (by first | rfl | simp)), Aside0.mk (BB.out _)⟩, by simp only [intOf]; omega⟩
    · have c0 : wr.cell? ⟨w.heap.size, 2, none⟩ = some (.int .u8 0) := (blk_cell BK.out 2).trans rfl
      have z0 := blk_frozen BK.out 2
      have BN := Aside0.mk (fun (x : Value) (hx : x = .int .u8 (n / 65536 % 256)) => show (wr.setCell ⟨w.heap.size, 2, none⟩ x).heap[w.heap.size]? = some (.cells (putRow4 n 3) 5 (0, 0)) from by rw [hx]; exact heap_setCell_same wr w.heap.size 2 _ 5 _ BK.out)
      have BB := Aside0.mk (fun (x : Value) => below_set (j := 2) (v := x) HB.out GG.out)
      go_wp2
      exact ⟨⟨3, by omega, rfl, Aside0.mk (BN.out _ (by first | rfl | simp)), Aside0.mk (BB.out _)⟩, by simp only [intOf]; omega⟩
    · have c0 : wr.cell? ⟨w.heap.size, 3, none⟩ = some (.int .u8 0) := (blk_cell BK.out 3).trans rfl
      have z0 := blk_frozen BK.out 3
      have BN := Aside0.mk (fun (x : Value) (hx : x = .int .u8 (n / 16777216 % 256)) => show (wr.setCell ⟨w.heap.size, 3, none⟩ x).heap[w.heap.size]? = some (.cells (putRow4 n 4) 5 (0, 0)) from by rw [hx]; exact heap_setCell_same wr w.heap.size 3 _ 5 _ BK.out)
      have BB := Aside0.mk (fun (x : Value) => below_set (j := 3) (v := x) HB.out GG.out)
      go_wp2
      exact ⟨⟨4, by omega, rfl, Aside0.mk (BN.out _ (by first | rfl | simp)), Aside0.mk (BB.out _)⟩, by simp only [intOf]; omega⟩
    · go_wp2
      go_ret2
      exact ⟨w.heap.size, rfl, BK.out, GG.out, HB.out⟩
end Go.Proofs.Ythgbipgfplokeaa.GA
