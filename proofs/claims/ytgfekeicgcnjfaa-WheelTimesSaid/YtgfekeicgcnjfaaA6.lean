/- A map of dues. No condition. -/
import Derived.Test.YtgfekeicgcnjfaaA4
import Derived.Laws.CopyOwn
import Derived.Laws.CopyRow
import Derived.ChangeKeysEq
import Derived.Deep.RegionHeld3
import Derived.Deep.MidRow
import Derived.Shelf.Abstract
import Derived.Lib.Overlaps
import Derived.Lib.AppendZerosOnto
import Derived.Shelf.Spec.SlicesInsertGrow
import Derived.Maps.OwnSet
import Derived.WalkSpells
namespace Go.Proofs.Ytgfekeicgcnjfaa.GA
open Go.RowKit Go.Shelf Go.Proofs.YtgfekeicgcnjfaaW.PrintWords Go.Proofs.YtgfekeicgcnjfaaW.PrintLast Go.Proofs.YtgfekeicgcnjfaaW.PrintMore
set_option linter.unusedVariables false
set_option linter.unusedSimpArgs false

open Go.Maps Go.ChangeMaps Go.WideShapes
theorem law : Keyed Try.prog 9 := Maps.string_keyed Try.underlying9
def key (k : ByteArray) : Value := .string k
def okK (k : ByteArray) : Prop := k.size ≤ maxLen
def agg (x : S71) : Value := .agg #[.string x.f0, .int .u64 x.f1, .int .u64 x.f2]
theorem key_of {k : ByteArray} (h : okK k) : keyOf Try.prog 9 (key k) = some (.string k.data.toList) := WideMaps.keyOf_string_mk Try.underlying9 h
theorem key_inj {a b : ByteArray} (h : key a = key b) : a = b := by
  unfold key at h
  injection h
/-- a map that holds just these things -/
def MapIs (w : World) (b : Nat) (xs : List S71) : Prop := ∃ (es : Array MapEntry) (clock : Nat), w.heap[b]? = some (.map es clock) ∧ (∀ e ∈ es.toList, e.born < clock) ∧ es.toList.Pairwise (fun x y => x.key ≠ y.key) ∧ (∀ e ∈ es.toList, ∃ x ∈ xs, e.key = key x.f0 ∧ e.val = agg x) ∧ (∀ x ∈ xs, ∃ e ∈ es.toList, e.key = key x.f0 ∧ e.val = agg x)
def Keys (xs : List S71) : Prop := (xs.map (·.f0)).Nodup ∧ ∀ x ∈ xs, okK x.f0
theorem Keys.one {xs : List S71} (h : Keys xs) {x y : S71} (hx : x ∈ xs) (hy : y ∈ xs) (e : x.f0 = y.f0) : x = y := by
  obtain ⟨i, hi, rfl⟩ := List.mem_iff_getElem.1 hx
  obtain ⟨j, hj, rfl⟩ := List.mem_iff_getElem.1 hy
  have h1 := List.pairwise_iff_getElem.1 h.1
  rcases Nat.lt_trichotomy i j with h2 | h2 | h2
  · have := h1 i j (by rw [List.length_map]; exact hi) (by rw [List.length_map]; exact hj) h2
    rw [List.getElem_map, List.getElem_map] at this
    exact absurd e this
  · subst h2; rfl
  · have := h1 j i (by rw [List.length_map]; exact hj) (by rw [List.length_map]; exact hi) h2
    rw [List.getElem_map, List.getElem_map] at this
    exact absurd e.symm this
theorem MapIs.kept {w w' : World} {b : Nat} {xs : List S71} (h : MapIs w b xs) (hk : w'.heap[b]? = w.heap[b]?) : MapIs w' b xs := by
  obtain ⟨es, clock, hb, h1⟩ := h
  exact ⟨es, clock, hk.trans hb, h1⟩
theorem MapIs.lt {w : World} {b : Nat} {xs : List S71} (h : MapIs w b xs) : b < w.heap.size := by
  obtain ⟨es, clock, hb, h1⟩ := h
  exact (Array.getElem?_eq_some_iff.1 hb).1
theorem MapIs.made (w : World) : MapIs (w.alloc (.map #[] 0)) w.heap.size [] := ⟨#[], 0, (MapKept.heap_alloc w _).1, by simp, by simp, by simp, by simp⟩
theorem MapIs.keys {w : World} {b : Nat} {xs : List S71} {es : Array MapEntry} (hk : Keys xs) (h : ∀ e ∈ es.toList, ∃ x ∈ xs, e.key = key x.f0 ∧ e.val = agg x) : ∀ e ∈ es.toList, ∃ l, keyOf Try.prog 9 e.key = some l := fun e he => by
  obtain ⟨x, hx, e1, -⟩ := h e he
  exact ⟨_, by rw [e1]; exact key_of (hk.2 x hx)⟩
theorem MapIs.hit {w : World} {b : Nat} {xs : List S71} (h : MapIs w b xs) (hk : Keys xs) {x : S71} (hx : x ∈ xs) : (Instr.lookup 54 (.map (some b)) (key x.f0) true).run Try.prog w = .ok (.tuple #[agg x, .bool true]) w := by
  obtain ⟨es, clock, hb, -, -, h1, h2⟩ := h
  rcases law.find w (key_of (hk.2 x hx)) es.toList (MapIs.keys (w := w) (b := b) hk h1) with ⟨h3, h4⟩ | ⟨j, e0, h3, h4, h5⟩
  · obtain ⟨e, he, e1, -⟩ := h2 x hx
    exact absurd e1 (h4 e he)
  · obtain ⟨y, hy, e1, e2⟩ := h1 e0 (List.mem_of_getElem? h4)
    obtain rfl := hk.one hx hy (key_inj (h5.symm.trans e1))
    simp [Instr.lookup, run_underlying Try.underlying54, MapKept.run_getObj_map hb, law.check w _ (key_of (hk.2 x hx)), h3, e2, Result.andThen]
theorem MapIs.miss {w : World} {b : Nat} {xs : List S71} (h : MapIs w b xs) (hk : Keys xs) {k : ByteArray} (ho : okK k) (hx : ∀ x ∈ xs, x.f0 ≠ k) : (Instr.lookup 54 (.map (some b)) (key k) true).run Try.prog w = .ok (.tuple #[agg z71, .bool false]) w := by
  obtain ⟨es, clock, hb, -, -, h1, h2⟩ := h
  rcases law.find w (key_of ho) es.toList (MapIs.keys (w := w) (b := b) hk h1) with ⟨h3, h4⟩ | ⟨j, e0, h3, h4, h5⟩
  · have hz : (zeroValue 71).run Try.prog w = .ok (agg z71) w := zval71 w
    simp [Instr.lookup, run_underlying Try.underlying54, MapKept.run_getObj_map hb, law.check w _ (key_of ho), h3, hz, Result.andThen]
  · obtain ⟨y, hy, e1, e2⟩ := h1 e0 (List.mem_of_getElem? h4)
    exact absurd (key_inj (e1.symm.trans h5)) (hx y hy)
theorem MapIs.del {w : World} {b : Nat} {xs ys : List S71} (h : MapIs w b xs) (hk : Keys xs) {x : S71} (hx : x ∈ xs) (hy : ∀ y, y ∈ ys ↔ y ∈ xs ∧ y.f0 ≠ x.f0) (ty : TypeId) : ∃ es' clock', (Builtin.delete_ #[54, 9] ty #[.map (some b), key x.f0]).run Try.prog w = .ok (.tuple #[]) (setBlock w b (.map es' clock')) ∧ ∀ W : World, W.heap[b]? = some (.map es' clock') → MapIs W b ys := by
  obtain ⟨es, clock, hb, h0, hp, h1, h2⟩ := h
  rcases law.find w (key_of (hk.2 x hx)) es.toList (MapIs.keys (w := w) (b := b) hk h1) with ⟨h3, h4⟩ | ⟨j, e0, h3, h4, h5⟩
  · obtain ⟨e, he, e1, -⟩ := h2 x hx
    exact absurd e1 (h4 e he)
  · have hjl : j < es.toList.length := (List.getElem?_eq_some_iff.1 h4).1
    have hjs : j < es.size := by simpa using hjl
    have hsub : (es.eraseIdxIfInBounds j).toList = es.toList.eraseIdx j := by
      unfold Array.eraseIdxIfInBounds
      rw [dif_pos hjs]
      simp
    have hin : ∀ e, e ∈ es.toList.eraseIdx j ↔ e ∈ es.toList ∧ e.key ≠ key x.f0 := fun e => by
      constructor
      · intro he
        refine ⟨(List.eraseIdx_sublist _ _).subset he, fun e1 => ?_⟩
        obtain ⟨i, hi, hne, rfl⟩ := List.mem_eraseIdx_iff_getElem.1 he
        have e0j : es.toList[j] = e0 := (List.getElem?_eq_some_iff.1 h4).2
        have hpp := List.pairwise_iff_getElem.1 hp
        rcases Nat.lt_or_gt_of_ne hne with hlt | hlt
        · have := hpp i j hi hjl hlt
          rw [e0j, h5] at this
          exact this e1
        · have := hpp j i hjl hi hlt
          rw [e0j, h5] at this
          exact this e1.symm
      · rintro ⟨he, hne⟩
        obtain ⟨i, hi, rfl⟩ := List.mem_iff_getElem.1 he
        refine List.mem_eraseIdx_iff_getElem.2 ⟨i, hi, fun e => hne ?_, rfl⟩
        subst e
        rw [(List.getElem?_eq_some_iff.1 h4).2]
        exact h5
    refine ⟨es.eraseIdxIfInBounds j, clock, ?_, fun W hW => ⟨_, _, hW, ?_, ?_, ?_, ?_⟩⟩
    · simp [Builtin.delete_, run_underlying Try.underlying54, MapKept.run_getObj_map hb, law.check w _ (key_of (hk.2 x hx)), h3, MapKept.run_setObj_map _ hb, Result.andThen, setBlock]
    · intro e he
      rw [hsub] at he
      exact h0 e ((hin e).1 he).1
    · rw [hsub]
      exact hp.sublist (List.eraseIdx_sublist _ _)
    · intro e he
      rw [hsub] at he
      obtain ⟨he1, he2⟩ := (hin e).1 he
      obtain ⟨y, hy1, e1, e2⟩ := h1 e he1
      exact ⟨y, (hy y).2 ⟨hy1, fun e3 => he2 (by rw [e1, e3])⟩, e1, e2⟩
    · intro y hy1
      obtain ⟨hy2, hne⟩ := (hy y).1 hy1
      obtain ⟨e, he, e1, e2⟩ := h2 y hy2
      rw [hsub]
      exact ⟨e, (hin e).2 ⟨he, fun e3 => hne (key_inj (e1.symm.trans e3))⟩, e1, e2⟩
theorem MapIs.put {w : World} {b : Nat} {xs ys : List S71} (h : MapIs w b xs) (hk : Keys xs) {x : S71} (ho : okK x.f0) (hx : ∀ y ∈ xs, y.f0 ≠ x.f0) (hy : ∀ y, y ∈ ys ↔ y = x ∨ y ∈ xs) : ∃ es1 c1 st, (Instr.mapEntry 54 (.map (some b)) (key x.f0)).run Try.prog w = .ok (.tuple #[agg z71, .int .i64 st]) (setBlock w b (.map es1 c1)) ∧
    ∀ w2 : World, w2.heap[b]? = some (.map es1 c1) → ∃ es2, (Instr.entryStore 54 (.map (some b)) (.int .i64 st) (agg x)).run Try.prog w2 = .ok () (setBlock w2 b (.map es2 c1)) ∧ ∀ W : World, W.heap[b]? = some (.map es2 c1) → MapIs W b ys := by
  obtain ⟨es, clock, hb, h0, hp, h1, h2⟩ := h
  rcases law.find w (key_of ho) es.toList (MapIs.keys (w := w) (b := b) hk h1) with ⟨h3, h4⟩ | ⟨j, e0, h3, h4, h5⟩
  · have hz : ∀ w, (zeroValue 71).run Try.prog w = .ok (agg z71) w := fun w => zval71 w
    refine ⟨es.push ⟨key x.f0, agg z71, clock⟩, clock + 1, (clock : Int), ?_, fun w2 hw2 => ⟨es.push ⟨key x.f0, agg x, clock⟩, ?_, fun W hW => ⟨_, _, hW, ?_, ?_, ?_, ?_⟩⟩⟩
    · simp [Instr.mapEntry, run_underlying Try.underlying54, MapKept.run_getObj_map hb, law.check w _ (key_of ho), h3, hz, MapKept.run_setObj_map _ hb, Result.andThen, setBlock, goInt]
    · have hidx : (es.push ⟨key x.f0, agg z71, clock⟩).findIdx? (fun e => ((e.born : Nat) : Int) == ((clock : Nat) : Int)) = some es.size := by
        rw [show (es.push ⟨key x.f0, agg z71, clock⟩).findIdx? (fun e => ((e.born : Nat) : Int) == ((clock : Nat) : Int)) = (es.push ⟨key x.f0, agg z71, clock⟩).toList.findIdx? (fun e => ((e.born : Nat) : Int) == ((clock : Nat) : Int)) from by cases es; simp, Array.toList_push, List.findIdx?_append]
        have hn : es.toList.findIdx? (fun e => ((e.born : Nat) : Int) == ((clock : Nat) : Int)) = none := by
          rw [List.findIdx?_eq_none_iff]
          intro e he
          have := h0 e he
          exact beq_false_of_ne (by omega)
        rw [hn]
        simp [List.findIdx?_cons]
      have hmod : (es.push ⟨key x.f0, agg z71, clock⟩).modify es.size (fun e => { e with val := agg x }) = es.push ⟨key x.f0, agg x, clock⟩ := by
        apply Array.ext
        · simp
        · intro i hi1 hi2
          rw [Array.getElem_modify]
          simp only [Array.getElem_push]
          simp at hi1
          split
          · rename_i hh
            subst hh
            simp
          · rename_i hh
            have : i < es.size := by omega
            simp [this]
      simp [Instr.entryStore, MapKept.run_getObj_map hw2, asInt, asIntOf, hidx, hmod, MapKept.run_setObj_map _ hw2, Result.andThen, setBlock]
    · intro e he
      rw [Array.toList_push] at he
      rcases List.mem_append.1 he with he | he
      · have := h0 e he
        omega
      · rw [List.mem_singleton] at he
        subst he
        exact Nat.lt_succ_self _
    · rw [Array.toList_push]
      refine List.pairwise_append.2 ⟨hp, List.pairwise_singleton _ _, fun a ha b hb => ?_⟩
      rw [List.mem_singleton] at hb
      subst hb
      exact h4 a ha
    · intro e he
      rw [Array.toList_push] at he
      rcases List.mem_append.1 he with he | he
      · obtain ⟨y, hy1, e1⟩ := h1 e he
        exact ⟨y, (hy y).2 (.inr hy1), e1⟩
      · rw [List.mem_singleton] at he
        subst he
        exact ⟨x, (hy x).2 (.inl rfl), rfl, rfl⟩
    · intro y hy1
      rw [Array.toList_push]
      rcases (hy y).1 hy1 with rfl | hy2
      · exact ⟨_, List.mem_append.2 (.inr (List.mem_singleton.2 rfl)), rfl, rfl⟩
      · obtain ⟨e, he, e1⟩ := h2 y hy2
        exact ⟨e, List.mem_append.2 (.inl he), e1⟩
  · obtain ⟨y, hy, e1, e2⟩ := h1 e0 (List.mem_of_getElem? h4)
    exact absurd (key_inj (e1.symm.trans h5)) (hx y hy)
theorem setBlock_size (w : World) (b : Nat) (o : Obj) : (setBlock w b o).heap.size = w.heap.size := by simp [setBlock]
theorem setBlock_same {w : World} {b : Nat} (o : Obj) (h : b < w.heap.size) : (setBlock w b o).heap[b]? = some o := by simp [setBlock, h]
theorem setBlock_other (w : World) {b k : Nat} (o : Obj) (h : k ≠ b) : (setBlock w b o).heap[k]? = w.heap[k]? := by simp [setBlock, Ne.symm h]
theorem below_setBlock {B b : Nat} {w0 w : World} (h : Below B w0 w) (hb : B ≤ b) (o : Obj) : Below B w0 (setBlock w b o) := ⟨h.os, h.tape, h.output, by rw [setBlock_size]; exact h.size, fun k hk => (setBlock_other w o (by omega)).trans (h.block k hk)⟩

end Go.Proofs.Ytgfekeicgcnjfaa.GA
