/- Maps of answers. No condition. -/
import Derived.Test.YtfhopjigdkjnoaaK7
import Derived.Laws.CopyOwn
import Derived.Laws.CopyRow
import Derived.ChangeKeysEq
import Derived.Deep.RegionHeld3
import Derived.Deep.MidRow
import Derived.Shelf.Abstract
import Derived.Maps.OwnSet
import Derived.Maps.AppendAt
import Derived.WalkSpells
namespace Go.Proofs.Ytfhopjigdkjnoaa.GA
open Go.RowKit Go.Shelf Go.Proofs.YtfhopjigdkjnoaaW.PrintWords Go.Proofs.YtfhopjigdkjnoaaW.PrintLast Go.Proofs.YtfhopjigdkjnoaaW.PrintMore
set_option linter.unusedVariables false
set_option linter.unusedSimpArgs false

open Go.Maps Go.ChangeMaps Go.WideShapes
theorem law : Keyed Try.prog 22 := Maps.int_keyed Try.underlying22
def key (k : Int) : Value := .int .u64 k
def okK (k : Int) : Prop := (Lit.int .u64 k).wf = true
theorem key_of {k : Int} (h : okK k) : keyOf Try.prog 22 (key k) = some (.int .u64 k) := Maps.keyOf_int_mk Try.underlying22 h
theorem key_inj {a b : Int} (h : key a = key b) : a = b := by
  unfold key at h
  injection h
/-- a map of answers that holds just these things -/
def MapIs (w : World) (b : Nat) (xs : List (Int × SE)) : Prop := ∃ (es : Array MapEntry) (clock : Nat), w.heap[b]? = some (.map es clock) ∧ (∀ e ∈ es.toList, ∃ x ∈ xs, e.key = key x.1 ∧ e.val = .agg (row x.2)) ∧ (∀ x ∈ xs, ∃ e ∈ es.toList, e.key = key x.1 ∧ e.val = .agg (row x.2))
def Keys (xs : List (Int × SE)) : Prop := (xs.map (·.1)).Nodup ∧ ∀ x ∈ xs, okK x.1
theorem Keys.one {xs : List (Int × SE)} (h : Keys xs) {x y : Int × SE} (hx : x ∈ xs) (hy : y ∈ xs) (e : x.1 = y.1) : x = y := by
  obtain ⟨i, hi, rfl⟩ := List.mem_iff_getElem.1 hx
  obtain ⟨j, hj, rfl⟩ := List.mem_iff_getElem.1 hy
  have h1 := List.pairwise_iff_getElem.1 h.1
  rcases Nat.lt_trichotomy i j with h2 | h2 | h2
  · have := h1 i j (by rw [List.length_map]; exact hi) (by rw [List.length_map]; exact hj) h2
    rw [List.getElem_map, List.getElem_map] at this
    exact absurd e this
  · subst h2; rfl
  · have := h1 j i (by rw [List.length_map]; exact hj) (by rw [List.length_map]; exact hi) h2
    rw [List.getElem_map, List.getElem_map] at this
    exact absurd e.symm this
theorem Keys.cons {xs : List (Int × SE)} (h : Keys xs) {x : Int × SE} (hx : ∀ y ∈ xs, y.1 ≠ x.1) (ho : okK x.1) : Keys (x :: xs) := by
  refine ⟨?_, fun y hy => ?_⟩
  · rw [List.map_cons, List.nodup_cons]
    refine ⟨fun hm => ?_, h.1⟩
    obtain ⟨y, hy, e⟩ := List.mem_map.1 hm
    exact hx y hy e
  · rcases List.mem_cons.1 hy with rfl | hy
    · exact ho
    · exact h.2 y hy
theorem Keys.nil_ : Keys [] := ⟨List.nodup_nil, fun y hy => by cases hy⟩
theorem MapIs.kept {w w' : World} {b : Nat} {xs : List (Int × SE)} (h : MapIs w b xs) (hk : w'.heap[b]? = w.heap[b]?) : MapIs w' b xs := by
  obtain ⟨es, clock, hb, h1⟩ := h
  exact ⟨es, clock, hk.trans hb, h1⟩
theorem MapIs.lt {w : World} {b : Nat} {xs : List (Int × SE)} (h : MapIs w b xs) : b < w.heap.size := by
  obtain ⟨es, clock, hb, h1⟩ := h
  exact (Array.getElem?_eq_some_iff.1 hb).1
theorem MapIs.made (w : World) : MapIs (w.alloc (.map #[] 0)) w.heap.size [] := ⟨#[], 0, (MapKept.heap_alloc w _).1, by simp, by simp⟩
theorem MapIs.keys {w : World} {b : Nat} {xs : List (Int × SE)} {es : Array MapEntry} (hk : Keys xs) (h : ∀ e ∈ es.toList, ∃ x ∈ xs, e.key = key x.1 ∧ e.val = .agg (row x.2)) : ∀ e ∈ es.toList, ∃ l, keyOf Try.prog 22 e.key = some l := fun e he => by
  obtain ⟨x, hx, e1, -⟩ := h e he
  exact ⟨_, by rw [e1]; exact key_of (hk.2 x hx)⟩
theorem MapIs.hit {w : World} {b : Nat} {xs : List (Int × SE)} (h : MapIs w b xs) (hk : Keys xs) {x : Int × SE} (hx : x ∈ xs) : (Instr.lookup 54 (.map (some b)) (.int .u64 x.1) true).run Try.prog w = .ok (.tuple #[.agg (row x.2), .bool true]) w := by
  show (Instr.lookup 54 (.map (some b)) (key x.1) true).run Try.prog w = _
  obtain ⟨es, clock, hb, h1, h2⟩ := h
  rcases law.find w (key_of (hk.2 x hx)) es.toList (MapIs.keys (w := w) (b := b) hk h1) with ⟨h3, h4⟩ | ⟨j, e0, h3, h4, h5⟩
  · obtain ⟨e, he, e1, -⟩ := h2 x hx
    exact absurd e1 (h4 e he)
  · obtain ⟨y, hy, e1, e2⟩ := h1 e0 (List.mem_of_getElem? h4)
    obtain rfl := hk.one hx hy (key_inj (h5.symm.trans e1))
    simp [Instr.lookup, run_underlying Try.underlying54, MapKept.run_getObj_map hb, law.check w _ (key_of (hk.2 x hx)), h3, e2, Result.andThen]
theorem MapIs.miss {w : World} {b : Nat} {xs : List (Int × SE)} (h : MapIs w b xs) (hk : Keys xs) {k : Int} (ho : okK k) (hx : ∀ x ∈ xs, x.1 ≠ k) : (Instr.lookup 54 (.map (some b)) (.int .u64 k) true).run Try.prog w = .ok (.tuple #[.agg (row ⟨0, 0, 0, 0, 0, 0, 0⟩), .bool false]) w := by
  show (Instr.lookup 54 (.map (some b)) (key k) true).run Try.prog w = _
  obtain ⟨es, clock, hb, h1, h2⟩ := h
  rcases law.find w (key_of ho) es.toList (MapIs.keys (w := w) (b := b) hk h1) with ⟨h3, h4⟩ | ⟨j, e0, h3, h4, h5⟩
  · have hz := zval45 w
    simp [Instr.lookup, run_underlying Try.underlying54, MapKept.run_getObj_map hb, law.check w _ (key_of ho), h3, hz, Result.andThen]
  · obtain ⟨y, hy, e1, e2⟩ := h1 e0 (List.mem_of_getElem? h4)
    exact absurd (key_inj (e1.symm.trans h5)) (hx y hy)
theorem MapIs.put {w : World} {b : Nat} {xs : List (Int × SE)} (h : MapIs w b xs) (hk : Keys xs) {x : Int × SE} (ho : okK x.1) (hx : ∀ y ∈ xs, y.1 ≠ x.1) : ∃ es1 c1, (Instr.mapUpdate 54 (.map (some b)) (.int .u64 x.1) (.agg (row x.2))).run Try.prog w = .ok () (setBlock w b (.map es1 c1)) ∧
    ∀ W : World, W.heap[b]? = some (.map es1 c1) → MapIs W b (x :: xs) := by
  show ∃ es1 c1, (Instr.mapUpdate 54 (.map (some b)) (key x.1) (.agg (row x.2))).run Try.prog w = _ ∧ _
  obtain ⟨es, clock, hb, h1, h2⟩ := h
  rcases law.find w (key_of ho) es.toList (MapIs.keys (w := w) (b := b) hk h1) with ⟨h3, h4⟩ | ⟨j, e0, h3, h4, h5⟩
  · refine ⟨es.push ⟨key x.1, .agg (row x.2), clock⟩, clock + 1, ?_, fun W hW => ⟨_, _, hW, ?_, ?_⟩⟩
    · simp [Instr.mapUpdate, run_underlying Try.underlying54, MapKept.run_getObj_map hb, law.check w _ (key_of ho), h3, MapKept.run_setObj_map _ hb, Result.andThen, setBlock]
    · intro e he
      rw [Array.toList_push] at he
      rcases List.mem_append.1 he with he | he
      · obtain ⟨y, hy1, e1⟩ := h1 e he
        exact ⟨y, List.mem_cons_of_mem _ hy1, e1⟩
      · rw [List.mem_singleton] at he
        subst he
        exact ⟨x, List.mem_cons_self .., rfl, rfl⟩
    · intro y hy1
      rw [Array.toList_push]
      rcases List.mem_cons.1 hy1 with rfl | hy2
      · exact ⟨_, List.mem_append.2 (.inr (List.mem_singleton.2 rfl)), rfl, rfl⟩
      · obtain ⟨e, he, e1⟩ := h2 y hy2
        exact ⟨e, List.mem_append.2 (.inl he), e1⟩
  · obtain ⟨y, hy, e1, e2⟩ := h1 e0 (List.mem_of_getElem? h4)
    exact absurd (key_inj (e1.symm.trans h5)) (hx y hy)
theorem setBlock_size (w : World) (b : Nat) (o : Obj) : (setBlock w b o).heap.size = w.heap.size := by simp [setBlock]
theorem setBlock_same {w : World} {b : Nat} (o : Obj) (h : b < w.heap.size) : (setBlock w b o).heap[b]? = some o := by simp [setBlock, h]
theorem setBlock_other (w : World) {b k : Nat} (o : Obj) (h : k ≠ b) : (setBlock w b o).heap[k]? = w.heap[k]? := by simp [setBlock, Ne.symm h]
theorem below_setBlock {B b : Nat} {w0 w : World} (h : Below B w0 w) (hb : B ≤ b) (o : Obj) : Below B w0 (setBlock w b o) := ⟨h.os, h.tape, h.output, by rw [setBlock_size]; exact h.size, fun k hk => (setBlock_other w o (by omega)).trans (h.block k hk)⟩
theorem exec_mapUpdate {P : Program} {o : Oper} {a : Act} {w w1 : World} {t : TypeId} {d x y : Operand} (hop : o.op = .mapUpdate t d x y) {m k v : Value} (hd : a.eval d = m) (hx : a.eval x = k) (hy : a.eval y = v) (hr : (Instr.mapUpdate t m k v).run P w = .ok () w1) : (execOp a.eval o).run P w = .ok .skip w1 := by
  unfold execOp
  simp [hop, hd, hx, hy, hr, Result.andThen]

theorem law8 : Keyed Try.prog 5 := Maps.int_keyed Try.underlying5
def key8 (k : Int) : Value := .int .u8 k
def okK8 (k : Int) : Prop := (Lit.int .u8 k).wf = true
theorem key8_of {k : Int} (h : okK8 k) : keyOf Try.prog 5 (key8 k) = some (.int .u8 k) := Maps.keyOf_int_mk Try.underlying5 h
theorem key8_inj {a b : Int} (h : key8 a = key8 b) : a = b := by
  unfold key8 at h
  injection h
/-- a map of answers that holds just these things -/
def Map8 (w : World) (b : Nat) (xs : List (Int × Value)) : Prop := ∃ (es : Array MapEntry) (clock : Nat), w.heap[b]? = some (.map es clock) ∧ (∀ e ∈ es.toList, ∃ x ∈ xs, e.key = key8 x.1 ∧ e.val = x.2) ∧ (∀ x ∈ xs, ∃ e ∈ es.toList, e.key = key8 x.1 ∧ e.val = x.2)
def Keys8 (xs : List (Int × Value)) : Prop := (xs.map (·.1)).Nodup ∧ ∀ x ∈ xs, okK8 x.1
theorem Keys8.one {xs : List (Int × Value)} (h : Keys8 xs) {x y : Int × Value} (hx : x ∈ xs) (hy : y ∈ xs) (e : x.1 = y.1) : x = y := by
  obtain ⟨i, hi, rfl⟩ := List.mem_iff_getElem.1 hx
  obtain ⟨j, hj, rfl⟩ := List.mem_iff_getElem.1 hy
  have h1 := List.pairwise_iff_getElem.1 h.1
  rcases Nat.lt_trichotomy i j with h2 | h2 | h2
  · have := h1 i j (by rw [List.length_map]; exact hi) (by rw [List.length_map]; exact hj) h2
    rw [List.getElem_map, List.getElem_map] at this
    exact absurd e this
  · subst h2; rfl
  · have := h1 j i (by rw [List.length_map]; exact hj) (by rw [List.length_map]; exact hi) h2
    rw [List.getElem_map, List.getElem_map] at this
    exact absurd e.symm this
theorem Keys8.cons {xs : List (Int × Value)} (h : Keys8 xs) {x : Int × Value} (hx : ∀ y ∈ xs, y.1 ≠ x.1) (ho : okK8 x.1) : Keys8 (x :: xs) := by
  refine ⟨?_, fun y hy => ?_⟩
  · rw [List.map_cons, List.nodup_cons]
    refine ⟨fun hm => ?_, h.1⟩
    obtain ⟨y, hy, e⟩ := List.mem_map.1 hm
    exact hx y hy e
  · rcases List.mem_cons.1 hy with rfl | hy
    · exact ho
    · exact h.2 y hy
theorem Keys8.nil_ : Keys8 [] := ⟨List.nodup_nil, fun y hy => by cases hy⟩
theorem Map8.kept {w w' : World} {b : Nat} {xs : List (Int × Value)} (h : Map8 w b xs) (hk : w'.heap[b]? = w.heap[b]?) : Map8 w' b xs := by
  obtain ⟨es, clock, hb, h1⟩ := h
  exact ⟨es, clock, hk.trans hb, h1⟩
theorem Map8.lt {w : World} {b : Nat} {xs : List (Int × Value)} (h : Map8 w b xs) : b < w.heap.size := by
  obtain ⟨es, clock, hb, h1⟩ := h
  exact (Array.getElem?_eq_some_iff.1 hb).1
theorem Map8.made (w : World) : Map8 (w.alloc (.map #[] 0)) w.heap.size [] := ⟨#[], 0, (MapKept.heap_alloc w _).1, by simp, by simp⟩
theorem Map8.keys {w : World} {b : Nat} {xs : List (Int × Value)} {es : Array MapEntry} (hk : Keys8 xs) (h : ∀ e ∈ es.toList, ∃ x ∈ xs, e.key = key8 x.1 ∧ e.val = x.2) : ∀ e ∈ es.toList, ∃ l, keyOf Try.prog 5 e.key = some l := fun e he => by
  obtain ⟨x, hx, e1, -⟩ := h e he
  exact ⟨_, by rw [e1]; exact key8_of (hk.2 x hx)⟩
theorem Map8.hit (t et : TypeId) (ht : Try.prog.underlying t = some (.map 5 et)) {w : World} {b : Nat} {xs : List (Int × Value)} (h : Map8 w b xs) (hk : Keys8 xs) {x : Int × Value} (hx : x ∈ xs) : (Instr.lookup t (.map (some b)) (.int .u8 x.1) true).run Try.prog w = .ok (.tuple #[x.2, .bool true]) w := by
  show (Instr.lookup t (.map (some b)) (key8 x.1) true).run Try.prog w = _
  obtain ⟨es, clock, hb, h1, h2⟩ := h
  rcases law8.find w (key8_of (hk.2 x hx)) es.toList (Map8.keys (w := w) (b := b) hk h1) with ⟨h3, h4⟩ | ⟨j, e0, h3, h4, h5⟩
  · obtain ⟨e, he, e1, -⟩ := h2 x hx
    exact absurd e1 (h4 e he)
  · obtain ⟨y, hy, e1, e2⟩ := h1 e0 (List.mem_of_getElem? h4)
    obtain rfl := hk.one hx hy (key8_inj (h5.symm.trans e1))
    simp [Instr.lookup, run_underlying ht, MapKept.run_getObj_map hb, law8.check w _ (key8_of (hk.2 x hx)), h3, e2, Result.andThen]
theorem Map8.miss (t et : TypeId) (z : Value) (ht : Try.prog.underlying t = some (.map 5 et)) (hz0 : ∀ w, (zeroValue et).run Try.prog w = .ok z w) {w : World} {b : Nat} {xs : List (Int × Value)} (h : Map8 w b xs) (hk : Keys8 xs) {k : Int} (ho : okK8 k) (hx : ∀ x ∈ xs, x.1 ≠ k) : (Instr.lookup t (.map (some b)) (.int .u8 k) true).run Try.prog w = .ok (.tuple #[z, .bool false]) w := by
  show (Instr.lookup t (.map (some b)) (key8 k) true).run Try.prog w = _
  obtain ⟨es, clock, hb, h1, h2⟩ := h
  rcases law8.find w (key8_of ho) es.toList (Map8.keys (w := w) (b := b) hk h1) with ⟨h3, h4⟩ | ⟨j, e0, h3, h4, h5⟩
  · have hz := hz0 w
    simp [Instr.lookup, run_underlying ht, MapKept.run_getObj_map hb, law8.check w _ (key8_of ho), h3, hz, Result.andThen]
  · obtain ⟨y, hy, e1, e2⟩ := h1 e0 (List.mem_of_getElem? h4)
    exact absurd (key8_inj (e1.symm.trans h5)) (hx y hy)
theorem Map8.put (t et : TypeId) (ht : Try.prog.underlying t = some (.map 5 et)) {w : World} {b : Nat} {xs : List (Int × Value)} (h : Map8 w b xs) (hk : Keys8 xs) {x : Int × Value} (ho : okK8 x.1) (hx : ∀ y ∈ xs, y.1 ≠ x.1) : ∃ es1 c1, (Instr.mapUpdate t (.map (some b)) (.int .u8 x.1) (x.2)).run Try.prog w = .ok () (setBlock w b (.map es1 c1)) ∧
    ∀ W : World, W.heap[b]? = some (.map es1 c1) → Map8 W b (x :: xs) := by
  show ∃ es1 c1, (Instr.mapUpdate t (.map (some b)) (key8 x.1) (x.2)).run Try.prog w = _ ∧ _
  obtain ⟨es, clock, hb, h1, h2⟩ := h
  rcases law8.find w (key8_of ho) es.toList (Map8.keys (w := w) (b := b) hk h1) with ⟨h3, h4⟩ | ⟨j, e0, h3, h4, h5⟩
  · refine ⟨es.push ⟨key8 x.1, x.2, clock⟩, clock + 1, ?_, fun W hW => ⟨_, _, hW, ?_, ?_⟩⟩
    · simp [Instr.mapUpdate, run_underlying ht, MapKept.run_getObj_map hb, law8.check w _ (key8_of ho), h3, MapKept.run_setObj_map _ hb, Result.andThen, setBlock]
    · intro e he
      rw [Array.toList_push] at he
      rcases List.mem_append.1 he with he | he
      · obtain ⟨y, hy1, e1⟩ := h1 e he
        exact ⟨y, List.mem_cons_of_mem _ hy1, e1⟩
      · rw [List.mem_singleton] at he
        subst he
        exact ⟨x, List.mem_cons_self .., rfl, rfl⟩
    · intro y hy1
      rw [Array.toList_push]
      rcases List.mem_cons.1 hy1 with rfl | hy2
      · exact ⟨_, List.mem_append.2 (.inr (List.mem_singleton.2 rfl)), rfl, rfl⟩
      · obtain ⟨e, he, e1⟩ := h2 y hy2
        exact ⟨e, List.mem_append.2 (.inl he), e1⟩
  · obtain ⟨y, hy, e1, e2⟩ := h1 e0 (List.mem_of_getElem? h4)
    exact absurd (key8_inj (e1.symm.trans h5)) (hx y hy)
theorem Map8.look (t et : TypeId) (z : Value) (ht : Try.prog.underlying t = some (.map 5 et)) (hz0 : ∀ w, (zeroValue et).run Try.prog w = .ok z w) {w : World} {b : Nat} {xs : List (Int × Value)} (h : Map8 w b xs) (hk : Keys8 xs) {x : Int × Value} (hx : x ∈ xs) : (Instr.lookup t (.map (some b)) (.int .u8 x.1) false).run Try.prog w = .ok x.2 w := by
  show (Instr.lookup t (.map (some b)) (key8 x.1) false).run Try.prog w = _
  obtain ⟨es, clock, hb, h1, h2⟩ := h
  rcases law8.find w (key8_of (hk.2 x hx)) es.toList (Map8.keys (w := w) (b := b) hk h1) with ⟨h3, h4⟩ | ⟨j, e0, h3, h4, h5⟩
  · obtain ⟨e, he, e1, -⟩ := h2 x hx
    exact absurd e1 (h4 e he)
  · obtain ⟨y, hy, e1, e2⟩ := h1 e0 (List.mem_of_getElem? h4)
    obtain rfl := hk.one hx hy (key8_inj (h5.symm.trans e1))
    simp [Instr.lookup, run_underlying ht, MapKept.run_getObj_map hb, law8.check w _ (key8_of (hk.2 x hx)), h3, e2, Result.andThen]
section
variable {ops : Array Oper} {rest : List Oper} {o : Oper} {a : Act} {Q : Exit → Act → World → Prop}
theorem made_ev {w w0 : World} (hgd : o.guard = none) (t et : TypeId) (ht : Try.prog.underlying t = some (.map 5 et)) (ho : o.op = .makeMap t none) (B : Nat) (hB : Below B w0 w) (hBw : B ≤ w.heap.size)
    (h : ∀ b w1, Map8 w1 b [] → B ≤ b → Below B w0 w1 → wpList Try.prog ops Q rest (a.put o.dst (.map (some b))) w1) : wpList Try.prog ops Q (o :: rest) a w := by
  refine wpList_plain hgd fun K hK => ?_
  have hrun : (Instr.makeMap t none).run Try.prog w = .ok (.map (some w.heap.size)) (w.alloc (.map #[] 0)) := by
    simp [Instr.makeMap, run_underlying ht, Result.andThen]
  unfold Oper.wp execOp
  simp only [ho, Option.map_none, Sem.run_bind, Sem.run_pure, hrun, Result.andThen_ok]
  exact hK _ _ (h _ _ (Map8.made w) hBw (bstep hB hBw (below_alloc (Below.refl _ _) _)))
theorem ins_ev {w w0 : World} (hgd : o.guard = none) (t et : TypeId) (ht : Try.prog.underlying t = some (.map 5 et)) {m x y : Operand} (ho : o.op = .insert t m x y) (b : Nat) (xs : List (Int × Value)) (k : Int) (v : Value) (hm : a.eval m = .map (some b)) (hx : a.eval x = .int .u8 k) (hy : a.eval y = v) (hM : Map8 w b xs) (hk : Keys8 xs) (hok : okK8 k) (hn : ∀ y ∈ xs, y.1 ≠ k) (B : Nat) (hB : Below B w0 w) (hBb : B ≤ b)
    (h : ∀ w1, Map8 w1 b ((k, v) :: xs) → Below B w0 w1 → wpList Try.prog ops Q rest (a.put o.dst undef) w1) : wpList Try.prog ops Q (o :: rest) a w := by
  refine wpList_plain hgd fun K hK => ?_
  obtain ⟨es1, c1, hrun, hw⟩ := Map8.put t et ht hM hk (x := (k, v)) hok hn
  unfold Oper.wp execOp
  simp only [ho, hm, hx, hy, Sem.run_bind, Sem.run_pure, hrun, Result.andThen_ok]
  exact hK _ _ (h _ (hw _ (setBlock_same _ hM.lt)) (below_setBlock hB hBb _))
end

def answersL : List (Int × Value) := [(9, .func (.func 31) #[] #[]), (4, .func (.func 30) #[] #[]), (2, .func (.func 29) #[] #[]), (1, .func (.func 28) #[] #[])]

theorem answers.k0 : Keys8 [] := Keys8.nil_
theorem answers.n0 : ∀ y ∈ ([] : List (Int × Value)), y.1 ≠ 1 := by intro y hy; cases hy
theorem answers.k1 : Keys8 [(1, .func (.func 28) #[] #[])] := by refine ⟨?_, ?_⟩; (simp [List.nodup_cons]); (intro y hy; simp at hy; try (rcases hy with rfl) <;> rfl)
theorem answers.n1 : ∀ y ∈ ([(1, .func (.func 28) #[] #[])] : List (Int × Value)), y.1 ≠ 2 := by intro y hy; simp at hy; (rcases hy with rfl) <;> decide
theorem answers.k2 : Keys8 [(2, .func (.func 29) #[] #[]), (1, .func (.func 28) #[] #[])] := by refine ⟨?_, ?_⟩; (simp [List.nodup_cons]); (intro y hy; simp at hy; try (rcases hy with rfl | rfl) <;> rfl)
theorem answers.n2 : ∀ y ∈ ([(2, .func (.func 29) #[] #[]), (1, .func (.func 28) #[] #[])] : List (Int × Value)), y.1 ≠ 4 := by intro y hy; simp at hy; (rcases hy with rfl | rfl) <;> decide
theorem answers.k3 : Keys8 [(4, .func (.func 30) #[] #[]), (2, .func (.func 29) #[] #[]), (1, .func (.func 28) #[] #[])] := by refine ⟨?_, ?_⟩; (simp [List.nodup_cons]); (intro y hy; simp at hy; try (rcases hy with rfl | rfl | rfl) <;> rfl)
theorem answers.n3 : ∀ y ∈ ([(4, .func (.func 30) #[] #[]), (2, .func (.func 29) #[] #[]), (1, .func (.func 28) #[] #[])] : List (Int × Value)), y.1 ≠ 9 := by intro y hy; simp at hy; (rcases hy with rfl | rfl | rfl) <;> decide
theorem answers.keys : Keys8 answersL := Keys8.cons answers.k3 answers.n3 rfl
set_option maxHeartbeats 8000000 in
set_option maxRecDepth 100000 in
theorem answers.calls (w : World) : Calls Try.prog 21 #[] w fun e w' => ∃ b, e = .returned (.map (some b)) ∧ w.heap.size ≤ b ∧ Map8 w' b answersL ∧ Below w.heap.size w w' := by
  have HB := Aside0.mk (Below.refl w.heap.size w)
  go_enter Try.func21, Try.ntmps21
  go_wp2_with (first
    | ((with_reducible refine gate_dst (N := 1) rfl ?_); refine made_ev rfl 65 63 Try.underlying65 rfl w.heap.size HB.out (below_size HB.out) ?_; intro b w1 h1 h2 h3; have HM := Aside0.mk h1; have HBb := Aside0.mk h2; clear HB; have HB := Aside0.mk h3; clear h1 h2 h3)
    | (refine ins_ev rfl 65 63 Try.underlying65 rfl b [] 1 (.func (.func 28) #[] #[]) rfl rfl rfl HM.out answers.k0 rfl answers.n0 w.heap.size HB.out HBb.out ?_; intro w1 h1 h2; clear HM HB; have HM := Aside0.mk h1; have HB := Aside0.mk h2; clear h1 h2)
    | (refine ins_ev rfl 65 63 Try.underlying65 rfl b [(1, .func (.func 28) #[] #[])] 2 (.func (.func 29) #[] #[]) rfl rfl rfl HM.out answers.k1 rfl answers.n1 w.heap.size HB.out HBb.out ?_; intro w1 h1 h2; clear HM HB; have HM := Aside0.mk h1; have HB := Aside0.mk h2; clear h1 h2)
    | (refine ins_ev rfl 65 63 Try.underlying65 rfl b [(2, .func (.func 29) #[] #[]), (1, .func (.func 28) #[] #[])] 4 (.func (.func 30) #[] #[]) rfl rfl rfl HM.out answers.k2 rfl answers.n2 w.heap.size HB.out HBb.out ?_; intro w1 h1 h2; clear HM HB; have HM := Aside0.mk h1; have HB := Aside0.mk h2; clear h1 h2)
    | (refine ins_ev rfl 65 63 Try.underlying65 rfl b [(4, .func (.func 30) #[] #[]), (2, .func (.func 29) #[] #[]), (1, .func (.func 28) #[] #[])] 9 (.func (.func 31) #[] #[]) rfl rfl rfl HM.out answers.k3 rfl answers.n3 w.heap.size HB.out HBb.out ?_; intro w1 h1 h2; clear HM HB; have HM := Aside0.mk h1; have HB := Aside0.mk h2; clear h1 h2))
  go_ret
  exact ⟨b, rfl, HBb.out, HM.out, HB.out⟩

def kindsL : List (Int × Value) := [(9, .int .u8 2), (4, .int .u8 3), (2, .int .u8 1), (1, .int .u8 1)]

theorem kinds.k0 : Keys8 [] := Keys8.nil_
theorem kinds.n0 : ∀ y ∈ ([] : List (Int × Value)), y.1 ≠ 1 := by intro y hy; cases hy
theorem kinds.k1 : Keys8 [(1, .int .u8 1)] := by refine ⟨?_, ?_⟩; (simp [List.nodup_cons]); (intro y hy; simp at hy; try (rcases hy with rfl) <;> rfl)
theorem kinds.n1 : ∀ y ∈ ([(1, .int .u8 1)] : List (Int × Value)), y.1 ≠ 2 := by intro y hy; simp at hy; (rcases hy with rfl) <;> decide
theorem kinds.k2 : Keys8 [(2, .int .u8 1), (1, .int .u8 1)] := by refine ⟨?_, ?_⟩; (simp [List.nodup_cons]); (intro y hy; simp at hy; try (rcases hy with rfl | rfl) <;> rfl)
theorem kinds.n2 : ∀ y ∈ ([(2, .int .u8 1), (1, .int .u8 1)] : List (Int × Value)), y.1 ≠ 4 := by intro y hy; simp at hy; (rcases hy with rfl | rfl) <;> decide
theorem kinds.k3 : Keys8 [(4, .int .u8 3), (2, .int .u8 1), (1, .int .u8 1)] := by refine ⟨?_, ?_⟩; (simp [List.nodup_cons]); (intro y hy; simp at hy; try (rcases hy with rfl | rfl | rfl) <;> rfl)
theorem kinds.n3 : ∀ y ∈ ([(4, .int .u8 3), (2, .int .u8 1), (1, .int .u8 1)] : List (Int × Value)), y.1 ≠ 9 := by intro y hy; simp at hy; (rcases hy with rfl | rfl | rfl) <;> decide
theorem kinds.keys : Keys8 kindsL := Keys8.cons kinds.k3 kinds.n3 rfl
set_option maxHeartbeats 8000000 in
set_option maxRecDepth 100000 in
theorem kinds.calls (w : World) : Calls Try.prog 22 #[] w fun e w' => ∃ b, e = .returned (.map (some b)) ∧ w.heap.size ≤ b ∧ Map8 w' b kindsL ∧ Below w.heap.size w w' := by
  have HB := Aside0.mk (Below.refl w.heap.size w)
  go_enter Try.func22, Try.ntmps22
  go_wp2_with (first
    | ((with_reducible refine gate_dst (N := 1) rfl ?_); refine made_ev rfl 67 5 Try.underlying67 rfl w.heap.size HB.out (below_size HB.out) ?_; intro b w1 h1 h2 h3; have HM := Aside0.mk h1; have HBb := Aside0.mk h2; clear HB; have HB := Aside0.mk h3; clear h1 h2 h3)
    | (refine ins_ev rfl 67 5 Try.underlying67 rfl b [] 1 (.int .u8 1) rfl rfl rfl HM.out kinds.k0 rfl kinds.n0 w.heap.size HB.out HBb.out ?_; intro w1 h1 h2; clear HM HB; have HM := Aside0.mk h1; have HB := Aside0.mk h2; clear h1 h2)
    | (refine ins_ev rfl 67 5 Try.underlying67 rfl b [(1, .int .u8 1)] 2 (.int .u8 1) rfl rfl rfl HM.out kinds.k1 rfl kinds.n1 w.heap.size HB.out HBb.out ?_; intro w1 h1 h2; clear HM HB; have HM := Aside0.mk h1; have HB := Aside0.mk h2; clear h1 h2)
    | (refine ins_ev rfl 67 5 Try.underlying67 rfl b [(2, .int .u8 1), (1, .int .u8 1)] 4 (.int .u8 3) rfl rfl rfl HM.out kinds.k2 rfl kinds.n2 w.heap.size HB.out HBb.out ?_; intro w1 h1 h2; clear HM HB; have HM := Aside0.mk h1; have HB := Aside0.mk h2; clear h1 h2)
    | (refine ins_ev rfl 67 5 Try.underlying67 rfl b [(4, .int .u8 3), (2, .int .u8 1), (1, .int .u8 1)] 9 (.int .u8 2) rfl rfl rfl HM.out kinds.k3 rfl kinds.n3 w.heap.size HB.out HBb.out ?_; intro w1 h1 h2; clear HM HB; have HM := Aside0.mk h1; have HB := Aside0.mk h2; clear h1 h2))
  go_ret
  exact ⟨b, rfl, HBb.out, HM.out, HB.out⟩

def happensL : List (Int × Value) := [(7, .func (.func 35) #[] #[]), (6, .func (.func 34) #[] #[]), (5, .func (.func 33) #[] #[]), (3, .func (.func 32) #[] #[])]

theorem happens.k0 : Keys8 [] := Keys8.nil_
theorem happens.n0 : ∀ y ∈ ([] : List (Int × Value)), y.1 ≠ 3 := by intro y hy; cases hy
theorem happens.k1 : Keys8 [(3, .func (.func 32) #[] #[])] := by refine ⟨?_, ?_⟩; (simp [List.nodup_cons]); (intro y hy; simp at hy; try (rcases hy with rfl) <;> rfl)
theorem happens.n1 : ∀ y ∈ ([(3, .func (.func 32) #[] #[])] : List (Int × Value)), y.1 ≠ 5 := by intro y hy; simp at hy; (rcases hy with rfl) <;> decide
theorem happens.k2 : Keys8 [(5, .func (.func 33) #[] #[]), (3, .func (.func 32) #[] #[])] := by refine ⟨?_, ?_⟩; (simp [List.nodup_cons]); (intro y hy; simp at hy; try (rcases hy with rfl | rfl) <;> rfl)
theorem happens.n2 : ∀ y ∈ ([(5, .func (.func 33) #[] #[]), (3, .func (.func 32) #[] #[])] : List (Int × Value)), y.1 ≠ 6 := by intro y hy; simp at hy; (rcases hy with rfl | rfl) <;> decide
theorem happens.k3 : Keys8 [(6, .func (.func 34) #[] #[]), (5, .func (.func 33) #[] #[]), (3, .func (.func 32) #[] #[])] := by refine ⟨?_, ?_⟩; (simp [List.nodup_cons]); (intro y hy; simp at hy; try (rcases hy with rfl | rfl | rfl) <;> rfl)
theorem happens.n3 : ∀ y ∈ ([(6, .func (.func 34) #[] #[]), (5, .func (.func 33) #[] #[]), (3, .func (.func 32) #[] #[])] : List (Int × Value)), y.1 ≠ 7 := by intro y hy; simp at hy; (rcases hy with rfl | rfl | rfl) <;> decide
theorem happens.keys : Keys8 happensL := Keys8.cons happens.k3 happens.n3 rfl
set_option maxHeartbeats 8000000 in
set_option maxRecDepth 100000 in
theorem happens.calls (w : World) : Calls Try.prog 23 #[] w fun e w' => ∃ b, e = .returned (.map (some b)) ∧ w.heap.size ≤ b ∧ Map8 w' b happensL ∧ Below w.heap.size w w' := by
  have HB := Aside0.mk (Below.refl w.heap.size w)
  go_enter Try.func23, Try.ntmps23
  go_wp2_with (first
    | ((with_reducible refine gate_dst (N := 1) rfl ?_); refine made_ev rfl 71 69 Try.underlying71 rfl w.heap.size HB.out (below_size HB.out) ?_; intro b w1 h1 h2 h3; have HM := Aside0.mk h1; have HBb := Aside0.mk h2; clear HB; have HB := Aside0.mk h3; clear h1 h2 h3)
    | (refine ins_ev rfl 71 69 Try.underlying71 rfl b [] 3 (.func (.func 32) #[] #[]) rfl rfl rfl HM.out happens.k0 rfl happens.n0 w.heap.size HB.out HBb.out ?_; intro w1 h1 h2; clear HM HB; have HM := Aside0.mk h1; have HB := Aside0.mk h2; clear h1 h2)
    | (refine ins_ev rfl 71 69 Try.underlying71 rfl b [(3, .func (.func 32) #[] #[])] 5 (.func (.func 33) #[] #[]) rfl rfl rfl HM.out happens.k1 rfl happens.n1 w.heap.size HB.out HBb.out ?_; intro w1 h1 h2; clear HM HB; have HM := Aside0.mk h1; have HB := Aside0.mk h2; clear h1 h2)
    | (refine ins_ev rfl 71 69 Try.underlying71 rfl b [(5, .func (.func 33) #[] #[]), (3, .func (.func 32) #[] #[])] 6 (.func (.func 34) #[] #[]) rfl rfl rfl HM.out happens.k2 rfl happens.n2 w.heap.size HB.out HBb.out ?_; intro w1 h1 h2; clear HM HB; have HM := Aside0.mk h1; have HB := Aside0.mk h2; clear h1 h2)
    | (refine ins_ev rfl 71 69 Try.underlying71 rfl b [(6, .func (.func 34) #[] #[]), (5, .func (.func 33) #[] #[]), (3, .func (.func 32) #[] #[])] 7 (.func (.func 35) #[] #[]) rfl rfl rfl HM.out happens.k3 rfl happens.n3 w.heap.size HB.out HBb.out ?_; intro w1 h1 h2; clear HM HB; have HM := Aside0.mk h1; have HB := Aside0.mk h2; clear h1 h2))
  go_ret
  exact ⟨b, rfl, HBb.out, HM.out, HB.out⟩

end Go.Proofs.Ytfhopjigdkjnoaa.GA
