/- slices.Insert, of things. No condition. -/
import Derived.Test.YtgfekeicgcnjfaaB1
import Derived.Laws.CopyOwn
import Derived.Laws.CopyRow
import Derived.ChangeKeysEq
import Derived.Deep.RegionHeld3
import Derived.Deep.MidRow
import Derived.Shelf.Abstract
import Derived.Lib.Overlaps
import Derived.Lib.AppendZerosOnto
import Derived.Shelf.Spec.SlicesInsertGrow
namespace Go.Proofs.Ytgfekeicgcnjfaa.GA.I
open Go.RowKit Go.Shelf Go.Proofs.YtgfekeicgcnjfaaW.PrintWords Go.Proofs.YtgfekeicgcnjfaaW.PrintLast Go.Proofs.YtgfekeicgcnjfaaW.PrintMore
set_option linter.unusedVariables false
set_option linter.unusedSimpArgs false

theorem sizeOf63 (w : World) : (Go.sizeOf 63).run Try.prog w = .ok 3 w := by
  obtain ⟨i0, hi, hz⟩ := Option.map_eq_some_iff.1 size63
  simp [sizeOf, typeInfo, hi, hz]
theorem overlaps_no (w : World) (gx g k cx cap : Nat) (cs cur : Array Value) (hx : w.heap[gx]? = some (.cells cs 63 (0, 0))) (hg : w.heap[g]? = some (.cells cur 63 (0, 0))) (hne : gx ≠ g) (hp : 0 < cur.size) (lb cb : Nat) :
    (callFunc 40 #[.slice (some ⟨gx, 0, none⟩) 1 cx, .slice (some ⟨g, k, none⟩) lb cb]).run Try.prog w = .ok (.value (.bool false)) w := by
  rw [run_callFunc_extern Try.func40 (by kernel_rfl) (by kernel_rfl) (by kernel_rfl) (e := Extern.SlicesOverlaps.overlaps #[59, 59] #[4]) (by kernel_rfl),
    Lib.run_overlaps_apart w 59 4 63 Try.underlying59 3 sizeOf63 ⟨gx, 0, none⟩ ⟨g, k, none⟩ 1 cx lb cb hne 63 63 cs.size cur.size (by simp [World.shape?, hx]) (by simp [World.shape?, hg]) (by omega) (by simp [World.frozen?, hx]) (by simp [World.frozen?, hx])]
  rfl
def row1 (cur : Array Value) (i : Nat) (xs : List S63) : Array Value := (cur.toList.take ((i + 1) * 3) ++ flat (xs.drop i) ++ cur.toList.drop ((i + 1) * 3 + (flat (xs.drop i)).length)).toArray
def row2 (cur : Array Value) (i : Nat) (x : S63) : Array Value := (cur.toList.take (i * 3) ++ flat [x] ++ cur.toList.drop (i * 3 + (flat [x]).length)).toArray
theorem row1_size (cur : Array Value) (i cap : Nat) (xs : List S63) (hs : cur.size = cap * 3) (hi : i < xs.length) (hr : xs.length + 1 ≤ cap) : (row1 cur i xs).size = cap * 3 := by
  unfold row1
  simp [flat_len, hs]
  omega
theorem row2_size (cur : Array Value) (i cap : Nat) (x : S63) (hs : cur.size = cap * 3) (hi : i + 1 ≤ cap) : (row2 cur i x).size = cap * 3 := by
  unfold row2
  simp [flat_len, hs]
  omega
theorem rows_flat (cur : Array Value) (i cap : Nat) (xs : List S63) (x : S63) (hs : cur.size = cap * 3) (hi : i < xs.length) (hr : xs.length + 1 ≤ cap) (ht : cur.toList.take (xs.length * 3) = flat xs) :
    (row2 (row1 cur i xs) i x).toList.take ((xs.length + 1) * 3) = flat (xs.take i ++ x :: xs.drop i) := by
  have h1 : (row1 cur i xs).toList.take (i * 3) = flat (xs.take i) := by
    unfold row1
    rw [List.append_assoc, List.take_append_of_le_length (by simp [hs]; omega), List.take_take, Nat.min_eq_left (by omega), ← flat_take, ← ht, List.take_take, Nat.min_eq_left (by omega)]
  have h2 : (row1 cur i xs).toList.drop (i * 3 + 3) = flat (xs.drop i) ++ cur.toList.drop ((i + 1) * 3 + (flat (xs.drop i)).length) := by
    unfold row1
    have hl : (cur.toList.take ((i + 1) * 3)).length = i * 3 + 3 := by simp [hs]; omega
    show (cur.toList.take ((i + 1) * 3) ++ flat (xs.drop i) ++ cur.toList.drop ((i + 1) * 3 + (flat (xs.drop i)).length)).drop (i * 3 + 3) = _
    rw [List.append_assoc, List.drop_append_of_le_length (by omega), List.drop_eq_nil_of_le (by omega), List.nil_append]
  unfold row2
  show ((row1 cur i xs).toList.take (i * 3) ++ flat [x] ++ (row1 cur i xs).toList.drop (i * 3 + (flat [x]).length)).take ((xs.length + 1) * 3) = _
  rw [h1, show (flat [x]).length = 3 from rfl, h2, flat_app, flat_cons, ← List.append_assoc, List.take_append_of_le_length (by simp [flat_len]; omega), List.take_of_length_le (by simp [flat_len]; omega), List.append_assoc]
  rfl

set_option maxHeartbeats 8000000 in
set_option maxRecDepth 100000 in
theorem Insert.shift (g cap i gx cx : Nat) (cur : Array Value) (xs : List S63) (x : S63) (w : World) (hh : w.heap[g]? = some (.cells cur 63 (0, 0))) (hs : cur.size = cap * 3) (ht : cur.toList.take (xs.length * 3) = flat xs) (hi : i < xs.length) (hroom : xs.length + 1 ≤ cap) (hc63 : cap ≤ 9223372036854775807)
    (hx : w.heap[gx]? = some (.cells #[.int .i64 x.f0, .int .u64 x.f1, .int .u64 x.f2] 63 (0, 0))) (hne : gx ≠ g) :
    Calls Try.prog 30 #[.slice (some ⟨g, 0, none⟩) xs.length cap, .int .i64 i, .slice (some ⟨gx, 0, none⟩) 1 cx] w fun e w' => e = .returned (.slice (some ⟨g, 0, none⟩) (xs.length + 1) cap) ∧ w' = (w.drew.setRow g (row1 cur i xs)).setRow g (row2 (row1 cur i xs) i x) := by
  have hcell : ∀ j v, (flat xs)[j]? = some v → w.cell? ⟨g, j, none⟩ = some v := fun j v hj => by
    rw [← ht, List.getElem?_take] at hj
    split at hj
    · rw [blk_cell hh]; simpa using hj
    · cases hj
  have hcp1 : ∀ ty dc sc, (Builtin.copy_ #[59, 59] ty #[.slice (some ⟨g, (i + 1) * 3, none⟩) (xs.length - i) dc, .slice (some ⟨g, i * 3, none⟩) (xs.length + 1 - i) sc]).run Try.prog w.drew = .ok (goInt (Nat.min (xs.length + 1 - i) (xs.length - i))) (w.drew.setRow g (row1 cur i xs)) := fun ty dc sc =>
    run_copy_rows w.drew 59 59 ty 63 g ((i + 1) * 3) (xs.length - i) dc ⟨g, i * 3, none⟩ (xs.length + 1 - i) sc cur 63 (flat (xs.drop i)) 3 Try.underlying59 size63 hh (by rw [flat_len, List.length_drop]; simp only [Nat.min_def]; split <;> omega)
      (fun j v hj => by
        rw [Addr.add_lit]
        exact hcell (i * 3 + j) v (by rw [← flat_drop, List.getElem?_drop] at hj; exact hj))
      (by rw [flat_len, List.length_drop]; omega) (fun v hv => flat_one _ v hv)
  have hcp2 : ∀ ty dc, (Builtin.copy_ #[59, 59] ty #[.slice (some ⟨g, i * 3, none⟩) (xs.length + 1 - i) dc, .slice (some ⟨gx, 0, none⟩) 1 cx]).run Try.prog (w.drew.setRow g (row1 cur i xs)) = .ok (goInt (Nat.min 1 (xs.length + 1 - i))) ((w.drew.setRow g (row1 cur i xs)).setRow g (row2 (row1 cur i xs) i x)) := fun ty dc =>
    run_copy_rows _ 59 59 ty 63 g (i * 3) (xs.length + 1 - i) dc ⟨gx, 0, none⟩ 1 cx (row1 cur i xs) 63 (flat [x]) 3 Try.underlying59 size63 (setRow_heap w.drew g cur _ 63 (0, 0) hh) (by show 3 = _; simp only [Nat.min_def]; split <;> omega)
      (fun j v hj => by
        rw [Addr.add_lit, Nat.zero_add, blk_cell ((setRow_other w.drew g gx (row1 cur i xs) hne).trans hx)]
        show (flat [x]).toArray[j]? = some v
        rw [List.getElem?_toArray]
        exact hj)
      (by rw [row1_size cur i cap xs hs hi hroom]; show i * 3 + 3 ≤ _; omega) (fun v hv => flat_one _ v hv)
  have hov := overlaps_no w gx g ((i + 1) * 3) cx cap _ cur hx hh hne (by omega)
  have hF0 := cutF g xs.length cap i (by omega) (by omega)
  have hT : ∀ W : World, (Instr.slice 59 (.slice (some ⟨g, 0, none⟩) xs.length cap) none (some (.int .i64 ((xs.length : Int) + 1))) none).run Try.prog W = .ok (.slice (some ⟨g, 0, none⟩) (xs.length + 1) cap) W := fun W => by have := cutT g xs.length cap (xs.length + 1) (by omega) W; simpa using this
  have hF1 : ∀ W : World, (Instr.slice 59 (.slice (some ⟨g, 0, none⟩) (xs.length + 1) cap) (some (.int .i64 ((i : Int) + 1))) none none).run Try.prog W = .ok (.slice (some ⟨g, (i + 1) * 3, none⟩) (xs.length + 1 - (i + 1)) (cap - (i + 1))) W := fun W => by have := cutF g (xs.length + 1) cap (i + 1) (by omega) (by omega) W; simpa using this
  have hF2 := cutF g (xs.length + 1) cap i (by omega) (by omega)
  have z2 : ¬ ((i : Int) = (xs.length : Int)) := by omega
  have hw1 : wrap64 ((xs.length : Int) + 1) = (xs.length : Int) + 1 := by unfold wrap64; omega
  have hw2 : wrap64 ((i : Int) + 1) = (i : Int) + 1 := by unfold wrap64; omega
  have hw3 : IntKind.i64.wrap ((i : Int) + 1) = (i : Int) + 1 := by rw [IntKind.wrap_i64]; omega
  have d1 : decide ((cap : Int) < (xs.length : Int) + 1) = false := decide_eq_false (by omega)
  clear hcell hh ht hs hx
  go_enter Try.func30, Try.ntmps30
  go_wp2_with (simp only [hov])
  go_region_law (refine step_copy_runI rfl _ _ 59 59 rfl _ _ (by simp [Act.eval, Act.put]) (by simp [Act.eval, Act.put]) (hcp1 _ _ _) ?_)
  go_wp2_with (at_builtin; refine wpList_copy_runI _ rfl _ _ 59 59 rfl _ _ rfl rfl (hcp2 _ _) ?_)
  go_ret
  exact ⟨rfl, rfl⟩

theorem grow_flat (ROW : Array Value) (i : Nat) (xs : List S63) (x : S63) (G : Nat) (hs : ROW.size = G * 3) (hi : i < xs.length) (hG : xs.length + 1 ≤ G) (ht : ROW.toList.take (i * 3) = flat (xs.take i)) :
    (row1 (row2 ROW i x) i xs).size = G * 3 ∧ (row1 (row2 ROW i x) i xs).toList.take ((xs.length + 1) * 3) = flat (xs.take i ++ x :: xs.drop i) := by
  have s2 := row2_size ROW i G x hs (by omega)
  refine ⟨row1_size _ i G xs s2 hi hG, ?_⟩
  have h1 : (row2 ROW i x).toList.take ((i + 1) * 3) = flat (xs.take i) ++ flat [x] := by
    unfold row2
    show (ROW.toList.take (i * 3) ++ flat [x] ++ ROW.toList.drop (i * 3 + (flat [x]).length)).take ((i + 1) * 3) = _
    have hl : (flat (xs.take i)).length = i * 3 := by rw [flat_len, List.length_take]; omega
    rw [ht, List.take_append_of_le_length (by rw [List.length_append, hl]; show (i + 1) * 3 ≤ i * 3 + 3; omega), List.take_of_length_le (by rw [List.length_append, hl]; show i * 3 + 3 ≤ _; omega)]
  unfold row1
  show ((row2 ROW i x).toList.take ((i + 1) * 3) ++ flat (xs.drop i) ++ (row2 ROW i x).toList.drop ((i + 1) * 3 + (flat (xs.drop i)).length)).take ((xs.length + 1) * 3) = _
  rw [h1]
  have e : flat (xs.take i ++ x :: xs.drop i) = flat (xs.take i) ++ flat [x] ++ flat (xs.drop i) := by rw [flat_app, flat_cons, List.append_assoc]; rfl
  have hl : (flat (xs.take i) ++ flat [x] ++ flat (xs.drop i)).length = (xs.length + 1) * 3 := by rw [← e, flat_len]; simp; omega
  rw [List.take_append_of_le_length (by omega), List.take_of_length_le (by omega), e]

set_option maxHeartbeats 8000000 in
set_option maxRecDepth 100000 in
theorem Insert.grow (g cap i gx cx : Nat) (cur : Array Value) (xs : List S63) (x : S63) (w : World) (hh : w.heap[g]? = some (.cells cur 63 (0, 0))) (hs : cur.size = cap * 3) (ht : cur.toList.take (xs.length * 3) = flat xs) (hi : i < xs.length) (hnc : xs.length ≤ cap) (hroom : cap < xs.length + 1) (hbig : xs.length ≤ 1000000)
    (hx : w.heap[gx]? = some (.cells #[.int .i64 x.f0, .int .u64 x.f1, .int .u64 x.f2] 63 (0, 0))) :
    Calls Try.prog 30 #[.slice (some ⟨g, 0, none⟩) xs.length cap, .int .i64 i, .slice (some ⟨gx, 0, none⟩) 1 cx] w fun e w' => ∃ (G : Nat) (R : Array Value), e = .returned (.slice (some ⟨w.heap.size, 0, none⟩) (xs.length + 1) G) ∧ w'.heap[w.heap.size]? = some (.cells R 63 (0, 0)) ∧ xs.length + 1 ≤ G ∧ G ≤ 9223372036854775807 ∧ R.size = G * 3 ∧ R.toList.take ((xs.length + 1) * 3) = flat (xs.take i ++ x :: xs.drop i) ∧ Below w.heap.size w w' := by
  have hF0 := cutF g xs.length cap i (by omega) (by omega)
  have hT := cutT g xs.length cap i (by omega)
  have z2 : ¬ ((i : Int) = (xs.length : Int)) := by omega
  have hw1 : wrap64 ((xs.length : Int) + 1) = (xs.length : Int) + 1 := by unfold wrap64; omega
  have hw2 : wrap64 ((i : Int) + 1) = (i : Int) + 1 := by unfold wrap64; omega
  have hw3 : IntKind.i64.wrap ((i : Int) + 1) = (i : Int) + 1 := by rw [IntKind.wrap_i64]; omega
  have hw4 : wrap64 ((xs.length : Int) + 1 - (i : Int)) = (xs.length : Int) + 1 - (i : Int) := by unfold wrap64; omega
  have d1 : decide ((cap : Int) < (xs.length : Int) + 1) = true := decide_eq_true (by omega)
  have hcell : ∀ j v, (flat xs)[j]? = some v → w.cell? ⟨g, j, none⟩ = some v := fun j v hj => by
    rw [← ht, List.getElem?_take] at hj
    split at hj
    · rw [blk_cell hh]; simpa using hj
    · cases hj
  have hgw := blk_lt hh
  have hxw := blk_lt hx
  obtain ⟨i0, hi0, hz⟩ := Option.map_eq_some_iff.1 info63
  have hz0 : i0.zero = some (.agg #[.int .i64 0, .int .u64 0, .int .u64 0]) := by injection hz
  have hzs : i0.size = 3 := by injection hz with _ h; injection h
  have hzb : i0.bytes = 24 := by injection hz with _ h; injection h
  have hkk : (xs.length : Int) + 1 - (i : Int) = ((xs.length + 1 - i : Nat) : Int) := by omega
  have hik : i + (xs.length + 1 - i) = xs.length + 1 := by omega
  have hold : (Builtin.firstCells i0.size i (.slice (some ⟨g, 0, none⟩) i cap)).run Try.prog w.drew = .ok (flat (xs.take i)).toArray w.drew := by
    rw [hzs]
    exact run_firstCells_some w.drew 3 i ⟨g, 0, none⟩ i cap (flat (xs.take i)) (by rw [flat_len, List.length_take]; omega) (fun j v hj => by
      rw [Addr.add_lit, Nat.zero_add]
      rw [← flat_take, List.getElem?_take] at hj
      split at hj
      · exact hcell j v hj
      · cases hj)
  have hrz : ∀ ty, (Builtin.append_ #[59, 3] ty #[.slice (some ⟨g, 0, none⟩) i cap, .int .i64 ((xs.length : Int) + 1 - (i : Int))]).run Try.prog w =
      .ok (.slice (some ⟨w.heap.size, 0, none⟩) (xs.length + 1) (grownCap w (xs.length + 1) cap 63)) (w.drew.alloc (.cells ((flat (xs.take i)).toArray ++ Builtin.zeroCells (Value.agg #[.int .i64 0, .int .u64 0, .int .u64 0]).cells (xs.length + 1 - i) ++ Builtin.zeroCells (Value.agg #[.int .i64 0, .int .u64 0, .int .u64 0]).cells (grownCap w (xs.length + 1) cap 63 - (xs.length + 1))) 63)) := fun ty => by
    have h := Lib.run_append_grow_zeros w 59 3 ty 63 i0 _ .i64 .i64 Try.underlying59 Try.underlying3 hi0 hz0 (some ⟨g, 0, none⟩) i cap (flat (xs.take i)) hold (xs.length + 1 - i) (by omega) (by omega) (by omega) (by omega) (by rw [hzb]; omega) (by rw [hzb, hik]; exact growslice_fits hroom (by omega))
    rw [hik] at h
    rw [hkk]
    exact h
  have hGn : xs.length + 1 ≤ grownCap w (xs.length + 1) cap 63 := grownCap_ge w _ _ _
  have hG63 : grownCap w (xs.length + 1) cap 63 ≤ 9223372036854775807 := grownCap_le_maxLen w (xs.length + 1) cap 63 (by unfold maxLen; omega)
  generalize grownCap w (xs.length + 1) cap 63 = G at hrz hGn hG63
  have hN0 := cutF w.heap.size (xs.length + 1) G i (by omega) (by omega)
  have hN1 : ∀ W : World, (Instr.slice 59 (.slice (some ⟨w.heap.size, 0, none⟩) (xs.length + 1) G) (some (.int .i64 ((i : Int) + 1))) none none).run Try.prog W = .ok (.slice (some ⟨w.heap.size, (i + 1) * 3, none⟩) (xs.length + 1 - (i + 1)) (G - (i + 1))) W := fun W => by have := cutF w.heap.size (xs.length + 1) G (i + 1) (by omega) (by omega) W; simpa using this
  obtain ⟨ROW, hROW⟩ : ∃ ROW : Array Value, ROW = (flat (xs.take i)).toArray ++ Builtin.zeroCells (Value.agg #[.int .i64 0, .int .u64 0, .int .u64 0]).cells (xs.length + 1 - i) ++ Builtin.zeroCells (Value.agg #[.int .i64 0, .int .u64 0, .int .u64 0]).cells (G - (xs.length + 1)) := ⟨_, rfl⟩
  rw [← hROW] at hrz
  have hfl : (flat (xs.take i)).length = i * 3 := by rw [flat_len, List.length_take]; omega
  have hRs : ROW.size = G * 3 := by
    rw [hROW]
    simp [Builtin.zeroCells, Value.cells, hfl]
    omega
  have hRt : ROW.toList.take (i * 3) = flat (xs.take i) := by
    rw [hROW, Array.toList_append, Array.toList_append, List.append_assoc, List.take_append_of_le_length (by show i * 3 ≤ (flat (xs.take i)).length; omega)]
    show (flat (xs.take i)).take (i * 3) = _
    rw [List.take_of_length_le (by omega)]
  have FIN := grow_flat ROW i xs x G hRs hi hGn hRt
  have s2 := row2_size ROW i G x hRs (by omega)
  have hcpA : ∀ (W : World), W.heap[w.heap.size]? = some (.cells ROW 63 (0, 0)) → W.heap[gx]? = some (.cells #[.int .i64 x.f0, .int .u64 x.f1, .int .u64 x.f2] 63 (0, 0)) → ∀ ty dc, (Builtin.copy_ #[59, 59] ty #[.slice (some ⟨w.heap.size, i * 3, none⟩) (xs.length + 1 - i) dc, .slice (some ⟨gx, 0, none⟩) 1 cx]).run Try.prog W = .ok (goInt (Nat.min 1 (xs.length + 1 - i))) (W.setRow w.heap.size (row2 ROW i x)) := fun W hN hX ty dc =>
    run_copy_rows W 59 59 ty 63 w.heap.size (i * 3) (xs.length + 1 - i) dc ⟨gx, 0, none⟩ 1 cx ROW 63 (flat [x]) 3 Try.underlying59 size63 hN (by show 3 = _; simp only [Nat.min_def]; split <;> omega)
      (fun j v hj => by
        rw [Addr.add_lit, Nat.zero_add, blk_cell hX]
        show (flat [x]).toArray[j]? = some v
        rw [List.getElem?_toArray]
        exact hj)
      (by rw [hRs]; show i * 3 + 3 ≤ _; omega) (fun v hv => flat_one _ v hv)
  have hcpB : ∀ (W : World), W.heap[w.heap.size]? = some (.cells (row2 ROW i x) 63 (0, 0)) → W.heap[g]? = some (.cells cur 63 (0, 0)) → ∀ ty dc sc, (Builtin.copy_ #[59, 59] ty #[.slice (some ⟨w.heap.size, (i + 1) * 3, none⟩) (xs.length - i) dc, .slice (some ⟨g, i * 3, none⟩) (xs.length - i) sc]).run Try.prog W = .ok (goInt (Nat.min (xs.length - i) (xs.length - i))) (W.setRow w.heap.size (row1 (row2 ROW i x) i xs)) := fun W hN hX ty dc sc =>
    run_copy_rows W 59 59 ty 63 w.heap.size ((i + 1) * 3) (xs.length - i) dc ⟨g, i * 3, none⟩ (xs.length - i) sc (row2 ROW i x) 63 (flat (xs.drop i)) 3 Try.underlying59 size63 hN (by rw [flat_len, List.length_drop]; simp only [Nat.min_def]; split <;> omega)
      (fun j v hj => by
        rw [Addr.add_lit, blk_cell hX]
        rw [← flat_drop, List.getElem?_drop, ← ht, List.getElem?_take] at hj
        split at hj
        · simpa using hj
        · cases hj)
      (by rw [s2, flat_len, List.length_drop]; omega) (fun v hv => flat_one _ v hv)
  have HHG := Aside0.mk hh
  have HHX := Aside0.mk hx
  have HFIN := Aside0.mk FIN
  clear hcell hh ht hs hx hold hROW hRs hRt FIN hfl s2 hkk hik
  go_enter Try.func30, Try.ntmps30
  go_upto_region 10 with (at_builtin; refine Lib.wpList_append_run _ rfl _ _ _ _ rfl _ _ rfl rfl _ _ (hrz _) ?_)
  have hN : (w.alloc (.cells ROW 63)).drew.heap[w.heap.size]? = some (.cells ROW 63 (0, 0)) := blk_new w (.cells ROW 63)
  have hX : (w.alloc (.cells ROW 63)).drew.heap[gx]? = some (.cells #[.int .i64 x.f0, .int .u64 x.f1, .int .u64 x.f2] 63 (0, 0)) := blk_alloc HHX.out (.cells ROW 63)
  have hG : (w.alloc (.cells ROW 63)).drew.heap[g]? = some (.cells cur 63 (0, 0)) := blk_alloc HHG.out (.cells ROW 63)
  have hb : Below w.heap.size w (w.alloc (.cells ROW 63)).drew := below_drew (below_alloc (Below.refl _ _) _)
  generalize (w.alloc (.cells ROW 63)).drew = W1 at hN hX hG hb ⊢
  have hN2 : (W1.setRow w.heap.size (row2 ROW i x)).drew.heap[w.heap.size]? = some (.cells (row2 ROW i x) 63 (0, 0)) := setRow_heap W1 w.heap.size ROW (row2 ROW i x) 63 (0, 0) hN
  have hG2 : (W1.setRow w.heap.size (row2 ROW i x)).drew.heap[g]? = some (.cells cur 63 (0, 0)) := (setRow_other W1 w.heap.size g (row2 ROW i x) (by omega)).trans hG
  have hb2 : Below w.heap.size w ((W1.setRow w.heap.size (row2 ROW i x)).drew.setRow w.heap.size (row1 (row2 ROW i x) i xs)) := below_setRow (below_drew (below_setRow hb (Nat.le_refl _) _)) (Nat.le_refl _) _
  go_wp2_with (at_builtin; refine wpList_copy_runI _ rfl _ _ 59 59 rfl _ _ rfl rfl (hcpA _ hN hX _ _) ?_)
  go_region_law (refine step_copy_runI rfl _ _ 59 59 rfl _ _ (by simp [Act.eval, Act.put]) (by simp [Act.eval, Act.put]) (hcpB _ hN2 hG2 _ _ _) ?_)
  go_wp2
  go_ret
  exact ⟨G, _, rfl, setRow_heap _ _ _ _ 63 (0, 0) hN2, hGn, hG63, HFIN.out.1, HFIN.out.2, hb2⟩

end Go.Proofs.Ytgfekeicgcnjfaa.GA.I
