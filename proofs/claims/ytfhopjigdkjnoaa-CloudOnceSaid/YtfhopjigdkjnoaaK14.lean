/- Clouds in memory. none, inst. close. gone. answer. refuse. No condition. -/
import Derived.Test.YtfhopjigdkjnoaaK8
import Derived.Laws.CopyOwn
import Derived.Laws.CopyRow
import Derived.ChangeKeysEq
import Derived.Deep.RegionHeld3
import Derived.Deep.MidRow
import Derived.Shelf.Abstract
import Derived.Maps.OwnSet
import Derived.Maps.AppendAt
import Derived.WalkSpells
namespace Go.Proofs.Ytfhopjigdkjnoaa.GA
section
open Go.RowKit Go.Shelf Go.Proofs.YtfhopjigdkjnoaaW.PrintWords Go.Proofs.YtfhopjigdkjnoaaW.PrintLast Go.Proofs.YtfhopjigdkjnoaaW.PrintMore
set_option linter.unusedVariables false
set_option linter.unusedSimpArgs false

theorem flat50_set3 (u : Int) : ∀ (L : List S50) (i : Nat) (hi : i < L.length), (flat50 L).set (i * 5 + 3) (.int .u8 u) = flat50 (L.set i { L[i] with f3 := u })
  | x :: r, 0, hi => by rw [Nat.zero_mul, Nat.zero_add]; rfl
  | x :: r, i + 1, hi => by
    have hi' : i < r.length := by simpa using hi
    rw [show (i + 1) * 5 + 3 = (i * 5 + 3) + 1 + 1 + 1 + 1 + 1 by omega, flat50_cons, List.set_cons_succ, List.set_cons_succ, List.set_cons_succ, List.set_cons_succ, List.set_cons_succ, flat50_set3 u r i hi']
    rfl
theorem Row50.set3 {w : World} {B gl n c : Nat} {L : List S50} (h : Row50 w B (.slice (some ⟨gl, 0, none⟩) n c) L) (i : Nat) (hi : i < L.length) (u : Int) : Row50 (w.setCell ⟨gl, i * 5 + 3, none⟩ (.int .u8 u)) B (.slice (some ⟨gl, 0, none⟩) n c) (L.set i { L[i] with f3 := u }) := by
  obtain ⟨g, cap, cur, h1, h2, h3, h4, h5, h6, h7⟩ := h.form (by omega)
  injection h1 with e1 e2 e3
  injection e1 with e1
  injection e1 with e1
  subst e1 e2 e3
  have hb := blk_put h3 (i * 5 + 3) (.int .u8 u) rfl
  have hr := Row50.of (xs := L.set i { L[i] with f3 := u }) h2 hb (by rw [List.length_set]; exact h4) h5 (by rw [Array.size_setIfInBounds]; exact h6) (by rw [List.length_set, Array.toList_setIfInBounds, ← flat50_set3 u L i hi, ← h7, List.take_set])
  rw [List.length_set] at hr
  exact hr
theorem flat50_set4 (u : Int) : ∀ (L : List S50) (i : Nat) (hi : i < L.length), (flat50 L).set (i * 5 + 4) (.int .u64 u) = flat50 (L.set i { L[i] with f4 := u })
  | x :: r, 0, hi => by rw [Nat.zero_mul, Nat.zero_add]; rfl
  | x :: r, i + 1, hi => by
    have hi' : i < r.length := by simpa using hi
    rw [show (i + 1) * 5 + 4 = (i * 5 + 4) + 1 + 1 + 1 + 1 + 1 by omega, flat50_cons, List.set_cons_succ, List.set_cons_succ, List.set_cons_succ, List.set_cons_succ, List.set_cons_succ, flat50_set4 u r i hi']
    rfl
theorem Row50.set4 {w : World} {B gl n c : Nat} {L : List S50} (h : Row50 w B (.slice (some ⟨gl, 0, none⟩) n c) L) (i : Nat) (hi : i < L.length) (u : Int) : Row50 (w.setCell ⟨gl, i * 5 + 4, none⟩ (.int .u64 u)) B (.slice (some ⟨gl, 0, none⟩) n c) (L.set i { L[i] with f4 := u }) := by
  obtain ⟨g, cap, cur, h1, h2, h3, h4, h5, h6, h7⟩ := h.form (by omega)
  injection h1 with e1 e2 e3
  injection e1 with e1
  injection e1 with e1
  subst e1 e2 e3
  have hb := blk_put h3 (i * 5 + 4) (.int .u64 u) rfl
  have hr := Row50.of (xs := L.set i { L[i] with f4 := u }) h2 hb (by rw [List.length_set]; exact h4) h5 (by rw [Array.size_setIfInBounds]; exact h6) (by rw [List.length_set, Array.toList_setIfInBounds, ← flat50_set4 u L i hi, ← h7, List.take_set])
  rw [List.length_set] at hr
  exact hr

/-- a cloud: instances, what waits, what was answered -/
structure CS where
  L : List S50
  W : List S27
  A : List (Int × SE)
/-- a cloud in memory -/
def Cl (w : World) (gc mb B : Nat) (vl vw : Value) (s : CS) : Prop := w.heap[gc]? = some (.cells #[vl, vw, .map (some mb)] 56 (0, 0)) ∧ Row50 w B vl s.L ∧ Row27 w B vw s.W ∧ MapIs w mb s.A ∧ B ≤ gc ∧ B ≤ mb
def Nw (w : World) (v v' : Value) : Prop := v'.ownBlock = v.ownBlock ∨ ∃ b, v'.ownBlock = some b ∧ w.heap.size ≤ b
def Fr (w w' : World) (gc mb : Nat) (vl vw : Value) : Prop := ∀ k, k < w.heap.size → k ≠ gc → k ≠ mb → some k ≠ vl.ownBlock → some k ≠ vw.ownBlock → w'.heap[k]? = w.heap[k]?
/-- what stands behind a deed -/
def Post (w w' : World) (gc mb B : Nat) (vl vw : Value) (s : CS) : Prop := ∃ vl' vw', Cl w' gc mb B vl' vw' s ∧ Nw w vl vl' ∧ Nw w vw vw' ∧ Below B w w' ∧ Fr w w' gc mb vl vw
theorem Nw.refl (w : World) (v : Value) : Nw w v v := .inl rfl
theorem Nw.trans {w w1 : World} {v v1 v2 : Value} (h1 : Nw w v v1) (h2 : Nw w1 v1 v2) (hs : w.heap.size ≤ w1.heap.size) : Nw w v v2 := by
  rcases h2 with h2 | ⟨b, h2, h3⟩
  · rcases h1 with h1 | ⟨b, h1, h3⟩
    · exact .inl (h2.trans h1)
    · exact .inr ⟨b, h2.trans h1, h3⟩
  · exact .inr ⟨b, h2, Nat.le_trans hs h3⟩
theorem Nw.ne {w : World} {v v' : Value} (h : Nw w v v') {k : Nat} (hk : k < w.heap.size) (hne : some k ≠ v.ownBlock) : some k ≠ v'.ownBlock := by
  rcases h with h | ⟨b, h, h3⟩
  · rw [h]; exact hne
  · rw [h]
    intro e
    injection e with e
    omega
theorem Fr.of {w w' : World} (gc mb : Nat) (vl vw : Value) (h : Below w.heap.size w w') : Fr w w' gc mb vl vw := fun k hk _ _ _ _ => h.block k hk
theorem Fr.trans {w w1 w2 : World} {gc mb : Nat} {vl vw vl1 vw1 : Value} (h1 : Fr w w1 gc mb vl vw) (h2 : Fr w1 w2 gc mb vl1 vw1) (hl : Nw w vl vl1) (hw : Nw w vw vw1) (hs : w.heap.size ≤ w1.heap.size) : Fr w w2 gc mb vl vw := fun k hk a b c d =>
  (h2 k (Nat.lt_of_lt_of_le hk hs) a b (hl.ne hk c) (hw.ne hk d)).trans (h1 k hk a b c d)
theorem Cl.below {w : World} {gc mb B : Nat} {vl vw : Value} {s : CS} (h : Cl w gc mb B vl vw s) {w' : World} (hb : Below w.heap.size w w') : Cl w' gc mb B vl vw s := by
  obtain ⟨h1, h2, h3, h4, h5⟩ := h
  exact ⟨blk_below h1 hb, h2.below hb, h3.below hb, h4.kept (hb.block mb h4.lt), h5⟩
theorem Cl.lt {w : World} {gc mb B : Nat} {vl vw : Value} {s : CS} (h : Cl w gc mb B vl vw s) : gc < w.heap.size := blk_lt h.1
theorem Cl.base {w : World} {gc mb B : Nat} {vl vw : Value} {s : CS} (h : Cl w gc mb B vl vw s) : B ≤ w.heap.size := Nat.le_trans h.2.2.2.2.1 (Nat.le_of_lt h.lt)
theorem Cl.c0 {w : World} {gc mb B : Nat} {vl vw : Value} {s : CS} (h : Cl w gc mb B vl vw s) : w.cell? ⟨gc, 0, none⟩ = some vl := (blk_cell h.1 0).trans rfl
theorem Cl.c1 {w : World} {gc mb B : Nat} {vl vw : Value} {s : CS} (h : Cl w gc mb B vl vw s) : w.cell? ⟨gc, 1, none⟩ = some vw := (blk_cell h.1 1).trans rfl
theorem Cl.c2 {w : World} {gc mb B : Nat} {vl vw : Value} {s : CS} (h : Cl w gc mb B vl vw s) : w.cell? ⟨gc, 2, none⟩ = some (.map (some mb)) := (blk_cell h.1 2).trans rfl
theorem Cl.fz {w : World} {gc mb B : Nat} {vl vw : Value} {s : CS} (h : Cl w gc mb B vl vw s) (k : Nat) : w.frozen? ⟨gc, k, none⟩ = false := blk_frozen h.1 k
theorem Cl.rowL {w : World} {gc mb B : Nat} {vl vw : Value} {s : CS} (h : Cl w gc mb B vl vw s) : Row50 w B vl s.L := h.2.1
theorem Cl.rowW {w : World} {gc mb B : Nat} {vl vw : Value} {s : CS} (h : Cl w gc mb B vl vw s) : Row27 w B vw s.W := h.2.2.1
theorem Cl.mapIs {w : World} {gc mb B : Nat} {vl vw : Value} {s : CS} (h : Cl w gc mb B vl vw s) : MapIs w mb s.A := h.2.2.2.1
theorem Post.of {w : World} {gc mb B : Nat} {vl vw : Value} {s : CS} (h : Cl w gc mb B vl vw s) {w' : World} (hb : Below w.heap.size w w') : Post w w' gc mb B vl vw s := ⟨vl, vw, h.below hb, .refl _ _, .refl _ _, Below.mono hb h.base, Fr.of _ _ _ _ hb⟩
theorem Post.trans {w w1 w2 : World} {gc mb B : Nat} {vl vw vl1 vw1 : Value} {s : CS} (h2 : Post w1 w2 gc mb B vl1 vw1 s) (h0 : Nw w vl vl1) (h1 : Nw w vw vw1) (hb : Below B w w1) (hf : Fr w w1 gc mb vl vw) (hB : B ≤ w1.heap.size) : Post w w2 gc mb B vl vw s := by
  obtain ⟨vl2, vw2, c, n1, n2, b2, f2⟩ := h2
  have hs := hb.size
  exact ⟨vl2, vw2, c, h0.trans n1 hs, h1.trans n2 hs, hb.trans b2, hf.trans f2 h0 h1 hs⟩
theorem Row50.owned {w : World} {B : Nat} {v : Value} {xs : List S50} (h : Row50 w B v xs) {k : Nat} (hk : v.ownBlock = some k) : ∃ cur, w.heap[k]? = some (.cells cur 50 (0, 0)) ∧ B ≤ k := by
  obtain ⟨_, ⟨rfl, _⟩ | ⟨g, cap, cur, rfl, h2, h3, _⟩⟩ := h
  · cases hk
  · injection hk with hk
    subst hk
    exact ⟨cur, h3, h2⟩
theorem Row27.owned {w : World} {B : Nat} {v : Value} {xs : List S27} (h : Row27 w B v xs) {k : Nat} (hk : v.ownBlock = some k) : ∃ cur, w.heap[k]? = some (.cells cur 27 (0, 0)) ∧ B ≤ k := by
  obtain ⟨_, ⟨rfl, _⟩ | ⟨g, cap, cur, rfl, h2, h3, _⟩⟩ := h
  · cases hk
  · injection hk with hk
    subst hk
    exact ⟨cur, h3, h2⟩
theorem Cl.gcW {w : World} {gc mb B : Nat} {vl vw : Value} {s : CS} (h : Cl w gc mb B vl vw s) : some gc ≠ vw.ownBlock := fun e => by
  obtain ⟨cur, h1, _⟩ := h.rowW.owned e.symm
  rw [h.1] at h1
  injection h1 with h1
  injection h1 with _ h1
  cases h1
theorem Cl.gcL {w : World} {gc mb B : Nat} {vl vw : Value} {s : CS} (h : Cl w gc mb B vl vw s) : some gc ≠ vl.ownBlock := fun e => by
  obtain ⟨cur, h1, _⟩ := h.rowL.owned e.symm
  rw [h.1] at h1
  injection h1 with h1
  injection h1 with _ h1
  cases h1
theorem Cl.mbW {w : World} {gc mb B : Nat} {vl vw : Value} {s : CS} (h : Cl w gc mb B vl vw s) : some mb ≠ vw.ownBlock := fun e => by
  obtain ⟨cur, h1, _⟩ := h.rowW.owned e.symm
  obtain ⟨es, c, h2, _⟩ := h.mapIs
  rw [h2] at h1
  injection h1 with h1
  cases h1
theorem Cl.mbL {w : World} {gc mb B : Nat} {vl vw : Value} {s : CS} (h : Cl w gc mb B vl vw s) : some mb ≠ vl.ownBlock := fun e => by
  obtain ⟨cur, h1, _⟩ := h.rowL.owned e.symm
  obtain ⟨es, c, h2, _⟩ := h.mapIs
  rw [h2] at h1
  injection h1 with h1
  cases h1
theorem Cl.gcmb {w : World} {gc mb B : Nat} {vl vw : Value} {s : CS} (h : Cl w gc mb B vl vw s) : gc ≠ mb := fun e => by
  obtain ⟨es, c, h2, _⟩ := h.mapIs
  have h1 := h.1
  rw [e, h2] at h1
  injection h1 with h1
  cases h1
theorem Cl.LW {w : World} {gc mb B : Nat} {vl vw : Value} {s : CS} (h : Cl w gc mb B vl vw s) {k : Nat} (hk : vl.ownBlock = some k) : some k ≠ vw.ownBlock := fun e => by
  obtain ⟨cur, h1, _⟩ := h.rowL.owned hk
  obtain ⟨cur2, h2, _⟩ := h.rowW.owned e.symm
  rw [h2] at h1
  injection h1 with h1
  injection h1 with _ h1
  cases h1
/-- an instance, found in memory -/
theorem Cl.form {w : World} {gc mb B : Nat} {vl vw : Value} {s : CS} (h : Cl w gc mb B vl vw s) {i : Nat} (hi : i < s.L.length) : ∃ gl c, vl = .slice (some ⟨gl, 0, none⟩) s.L.length c ∧ s.L.length ≤ c ∧ B ≤ gl ∧ ∃ cur, w.heap[gl]? = some (.cells cur 50 (0, 0)) ∧ ∀ k u, [.int .u64 s.L[i].f0, .int .u64 s.L[i].f1, .int .i64 s.L[i].f2, .int .u8 s.L[i].f3, .int .u64 s.L[i].f4][k]? = some u → cur[i * 5 + k]? = some u := by
  obtain ⟨g, cap, cur, h1, h2, h3, h4, h5, h6, h7⟩ := h.rowL.form (by omega)
  refine ⟨g, cap, h1, h4, h2, cur, h3, fun k u hu => ?_⟩
  have hk : k < 5 := (List.getElem?_eq_some_iff.1 hu).1
  have e : flat50 s.L = flat50 (s.L.take i) ++ flat50 (s.L.drop i) := by rw [← flat50_app, List.take_append_drop]
  have h8 : (cur.toList.take (s.L.length * 5))[i * 5 + k]? = some u := by
    rw [h7, e, List.getElem?_append_right (by rw [flat50_len, List.length_take]; omega), flat50_len, List.length_take, Nat.min_eq_left (by omega), show i * 5 + k - i * 5 = k by omega, List.drop_eq_getElem_cons hi]
    show ([.int .u64 s.L[i].f0, .int .u64 s.L[i].f1, .int .i64 s.L[i].f2, .int .u8 s.L[i].f3, .int .u64 s.L[i].f4] ++ flat50 (s.L.drop (i + 1)))[k]? = _
    rw [List.getElem?_append_left (by exact hk)]
    exact hu
  rw [List.getElem?_take, if_pos (by omega)] at h8
  rw [← Array.getElem?_toList]
  exact h8
end
section
open Go.RowKit Go.Shelf Go.Proofs.YtfhopjigdkjnoaaW.PrintWords Go.Proofs.YtfhopjigdkjnoaaW.PrintLast Go.Proofs.YtfhopjigdkjnoaaW.PrintMore
set_option linter.unusedVariables false
set_option linter.unusedSimpArgs false

set_option maxHeartbeats 8000000 in
set_option maxRecDepth 100000 in
theorem none_.calls (w : World) (gc mb B : Nat) (vl vw : Value) (s : CS) (hC : Cl w gc mb B vl vw s) : Calls Try.prog 15 #[.pointer (some ⟨gc, 0, none⟩)] w fun e w' => e = .returned (.bool false) ∧ Below w.heap.size w w' := by
  have HB := Aside0.mk (Below.refl w.heap.size w)
  have c2 := hC.c2
  have hn : (binOp .eql 54 (.map (some mb)) (.map none)).run Try.prog w = .ok (.bool false) w := run_eql_nil_map w 54 22 45 (some mb) Try.underlying54
  clear hC
  go_enter Try.func15, Try.ntmps15
  go_wp2
  go_ret
  exact ⟨rfl, by repeat (first | (with_reducible first | exact HB.out | apply below_alloc | apply pw_below_drewN | apply below_drew1) | exact HB.out)⟩

set_option maxHeartbeats 8000000 in
set_option maxRecDepth 100000 in
theorem none_.nil_ (w : World) : Calls Try.prog 15 #[.pointer none] w fun e w' => e = .returned (.bool true) ∧ Below w.heap.size w w' := by
  have HB := Aside0.mk (Below.refl w.heap.size w)
  go_enter Try.func15, Try.ntmps15
  go_wp2
  go_ret
  exact ⟨rfl, by repeat (first | (with_reducible first | exact HB.out | apply below_alloc | apply pw_below_drewN | apply below_drew1) | exact HB.out)⟩

set_option maxHeartbeats 8000000 in
set_option maxRecDepth 100000 in
theorem none_.zero_ (gt : Nat) (x y : Value) (w : World) (hh : w.heap[gt]? = some (.cells #[x, y, .map none] 56 (0, 0))) : Calls Try.prog 15 #[.pointer (some ⟨gt, 0, none⟩)] w fun e w' => e = .returned (.bool true) ∧ Below w.heap.size w w' := by
  have HB := Aside0.mk (Below.refl w.heap.size w)
  have c2 : w.cell? ⟨gt, 2, none⟩ = some (.map none) := (blk_cell hh 2).trans rfl
  have hn : (binOp .eql 54 (.map none) (.map none)).run Try.prog w = .ok (.bool true) w := run_eql_nil_map w 54 22 45 none Try.underlying54
  clear hh
  go_enter Try.func15, Try.ntmps15
  go_wp2
  go_ret
  exact ⟨rfl, by repeat (first | (with_reducible first | exact HB.out | apply below_alloc | apply pw_below_drewN | apply below_drew1) | exact HB.out)⟩

set_option maxHeartbeats 8000000 in
set_option maxRecDepth 100000 in
theorem inst.none_ (w : World) (gc mb B : Nat) (vl vw : Value) (s : CS) (hC : Cl w gc mb B vl vw s) (id : Int) (hid : id = 0 ∨ id > s.L.length) (hn : s.L.length ≤ 1000000) : Calls Try.prog 19 #[.pointer (some ⟨gc, 0, none⟩), .int .u64 id] w fun e w' => e = .returned (.pointer none) ∧ Below w.heap.size w w' := by
  have HB := Aside0.mk (Below.refl w.heap.size w)
  obtain ⟨A, c, rfl, hc, hK⟩ := hC.rowL.slice
  have c0 := hC.c0
  clear hC hK
  by_cases h0 : id = 0
  · subst h0
    go_enter Try.func19, Try.ntmps19
    go_wp2
    go_ret
    exact ⟨rfl, by repeat (first | (with_reducible first | exact HB.out | apply below_alloc | apply pw_below_drewN | apply below_drew1) | exact HB.out)⟩
  · have h1 : id > s.L.length := by omega
    go_enter Try.func19, Try.ntmps19
    go_wp2
    go_ret
    exact ⟨rfl, by repeat (first | (with_reducible first | exact HB.out | apply below_alloc | apply pw_below_drewN | apply below_drew1) | exact HB.out)⟩

set_option maxHeartbeats 8000000 in
set_option maxRecDepth 100000 in
theorem inst.some_ (w : World) (gc mb B gl c : Nat) (vw : Value) (s : CS) (hC : Cl w gc mb B (.slice (some ⟨gl, 0, none⟩) s.L.length c) vw s) (i : Nat) (hi : i < s.L.length) (hn : s.L.length ≤ 1000000) : Calls Try.prog 19 #[.pointer (some ⟨gc, 0, none⟩), .int .u64 ((i : Int) + 1)] w fun e w' => e = .returned (.pointer (some ⟨gl, i * 5, none⟩)) ∧ Below w.heap.size w w' := by
  have HB := Aside0.mk (Below.refl w.heap.size w)
  have c0 := hC.c0
  have z1 : (((i : Int) + 1) == 0) = false := beq_false_of_ne (by omega)
  have z2 : decide ((s.L.length : Int) < (i : Int) + 1) = false := decide_eq_false (by omega)
  clear hC
  go_enter Try.func19, Try.ntmps19
  go_wp2
  go_ret
  exact ⟨rfl, by repeat (first | (with_reducible first | exact HB.out | apply below_alloc | apply pw_below_drewN | apply below_drew1) | exact HB.out)⟩
end
section
open Go.RowKit Go.Shelf Go.Proofs.YtfhopjigdkjnoaaW.PrintWords Go.Proofs.YtfhopjigdkjnoaaW.PrintLast Go.Proofs.YtfhopjigdkjnoaaW.PrintMore
set_option linter.unusedVariables false
set_option linter.unusedSimpArgs false

/-- the store of what waits -/
theorem Cl.putW {w1 : World} {gc mb B : Nat} {vl vw vw' : Value} {L : List S50} {W : List S27} {A : List (Int × SE)} (h0 : w1.heap[gc]? = some (.cells #[vl, vw, .map (some mb)] 56 (0, 0))) (hL : Row50 w1 B vl L) (hW : Row27 w1 B vw' W) (hM : MapIs w1 mb A) (h1 : B ≤ gc) (h2 : B ≤ mb) (n1 : some gc ≠ vl.ownBlock) (n2 : some gc ≠ vw'.ownBlock) (n3 : gc ≠ mb) : Cl (w1.setCell ⟨gc, 1, none⟩ vw') gc mb B vl vw' ⟨L, W, A⟩ :=
  ⟨blk_put h0 1 vw' rfl, hL.moved fun k hk => heap_setCell_other w1 _ k _ (fun e => n1 (by rw [hk, e])), hW.moved fun k hk => heap_setCell_other w1 _ k _ (fun e => n2 (by rw [hk, e])), hM.kept (heap_setCell_other w1 _ mb _ (fun e => n3 (by rw [e]))), h1, h2⟩
theorem Row50.ne {w : World} {B g : Nat} {v : Value} {xs : List S50} (h : Row50 w B v xs) {cs : Array Value} {t : TypeId} (hg : w.heap[g]? = some (.cells cs t (0, 0))) (ht : t ≠ 50) : some g ≠ v.ownBlock := fun e => by
  obtain ⟨cur, h1, _⟩ := h.owned e.symm
  rw [hg] at h1
  injection h1 with h1
  injection h1 with _ h1
  exact ht h1
theorem Row27.ne {w : World} {B g : Nat} {v : Value} {xs : List S27} (h : Row27 w B v xs) {cs : Array Value} {t : TypeId} (hg : w.heap[g]? = some (.cells cs t (0, 0))) (ht : t ≠ 27) : some g ≠ v.ownBlock := fun e => by
  obtain ⟨cur, h1, _⟩ := h.owned e.symm
  rw [hg] at h1
  injection h1 with h1
  injection h1 with _ h1
  exact ht h1
theorem Row27.slice3 {w : World} {B : Nat} {v : Value} {xs : List S27} (h : Row27 w B v xs) : ∃ A n c, v = .slice A n c := by obtain ⟨A, c, e, _⟩ := h.slice; exact ⟨A, _, c, e⟩
theorem Row50.slice3 {w : World} {B : Nat} {v : Value} {xs : List S50} (h : Row50 w B v xs) : ∃ A n c, v = .slice A n c := by obtain ⟨A, c, e, _⟩ := h.slice; exact ⟨A, _, c, e⟩
theorem Row27.nil_own {w : World} {B : Nat} {v : Value} {xs : List S27} (h : Row27 w B v xs) {k : Nat} (hk : v.ownBlock = some k) : k < w.heap.size := by
  obtain ⟨cur, h1, _⟩ := h.owned hk
  exact blk_lt h1

set_option maxHeartbeats 8000000 in
set_option maxRecDepth 100000 in
theorem close.calls (w : World) (gc mb B : Nat) (vl vw : Value) (s : CS) (hC : Cl w gc mb B vl vw s) (hn : s.W.length ≤ 1000000) (t : Int) : Calls Try.prog 38 #[.pointer (some ⟨gc, 0, none⟩), .int .u64 t] w fun e w' => e = .returned (.tuple #[]) ∧ Post w w' gc mb B vl vw { s with W := s.W.filter (fun x => !(x.f1 == t)) } := by
  have HC := Aside0.mk hC
  have c1 := hC.c1
  clear hC
  go_enter Try.func38, Try.ntmps38
  go_upto_region 1 with fail
  have BB := Aside0.mk (below_alloc (Below.refl w.heap.size w) (.cells #[.int .u64 t] 22 (0, 0)))
  have BK := Aside0.mk (blk_new w (.cells #[.int .u64 t] 22 (0, 0)))
  obtain ⟨gk, hgk⟩ : ∃ gk, gk = w.heap.size := ⟨_, rfl⟩
  have HGK := Aside0.mk hgk
  rw [← hgk]
  rw [← hgk] at BK
  generalize World.alloc w _ = w1 at BB BK ⊢
  have HC1 := Aside0.mk (HC.out.below BB.out)
  have c1 := HC1.out.c1
  have HW := Aside0.mk HC1.out.rowW
  have HBW := Aside0.mk HC1.out.base
  have HS : Aside0 (Sees [(gk, .cells #[.int .u64 t] 22 (0, 0))] w1) := ⟨fun p hp => by rw [List.mem_singleton] at hp; subst hp; exact BK.out⟩
  have HNE : Aside0 (∀ q ∈ [((gk, .cells #[.int .u64 t] 22 (0, 0)) : Nat × Obj)], some q.1 ≠ vw.ownBlock) := ⟨fun q hq => by rw [List.mem_singleton] at hq; subst hq; exact HW.out.ne BK.out (by decide)⟩
  have GL := Aside0.mk HC1.out.lt
  have GCW := Aside0.mk HC1.out.gcW
  have HG := Aside0.mk HC1.out.1
  clear hgk
  go_wp2_with (go_at_call 42; with_reducible refine (DeleteFunc.calls B vw s.W 43 #[.pointer (some ⟨gk, 0, none⟩)] (fun x => x.f1 == t) [(gk, .cells #[.int .u64 t] 22 (0, 0))] _ HW.out hn HBW.out enters43 (close1.tells gk t) HS.out HNE.out).mono ?_; rintro e w2 ⟨v', rfl, hr, ho, hb, hk⟩; obtain ⟨Aw, nw, cw, ev⟩ := hr.slice3; subst ev; have R2 := Aside0.mk hr; have O2 := Aside0.mk ho; have B2 := Aside0.mk hb; have K2 := Aside0.mk hk; clear hr ho hb hk; have G2 := Aside0.mk ((K2.out gc GL.out GCW.out).trans HG.out); have c9 : w2.cell? ⟨gc, 1, none⟩ = some vw := (blk_cell G2.out 1).trans rfl; have z9 : w2.frozen? ⟨gc, 1, none⟩ = false := blk_frozen G2.out 1)
  refine bodyPost_end (v := .tuple #[]) (by simp [results, Try.f38]) rfl ?_
  have hL2 : Row50 w2 B vl s.L := HC1.out.rowL.moved fun k hk => by
    obtain ⟨cur, q1, _⟩ := HC1.out.rowL.owned hk
    exact K2.out k (blk_lt q1) (HC1.out.LW hk)
  have hM2 : MapIs w2 mb s.A := HC1.out.mapIs.kept (K2.out mb HC1.out.mapIs.lt HC1.out.mbW)
  have hB2 : Below B w w2 := (Below.mono BB.out HC.out.base).trans B2.out
  refine ⟨rfl, vl, .slice Aw nw cw, Cl.putW G2.out hL2 R2.out hM2 HC.out.2.2.2.2.1 HC.out.2.2.2.2.2 HC.out.gcL (by rw [O2.out]; exact HC.out.gcW) HC.out.gcmb, .refl _ _, .inl O2.out, hB2.setCell (show B ≤ gc from HC.out.2.2.2.2.1) _, fun k hk a b c d => ?_⟩
  rw [heap_setCell_other _ _ k _ a, K2.out k (Nat.lt_of_lt_of_le hk BB.out.size) d, BB.out.block k hk]
end
section
open Go.RowKit Go.Shelf Go.Proofs.YtfhopjigdkjnoaaW.PrintWords Go.Proofs.YtfhopjigdkjnoaaW.PrintLast Go.Proofs.YtfhopjigdkjnoaaW.PrintMore
set_option linter.unusedVariables false
set_option linter.unusedSimpArgs false

theorem Cl.setL3 {w : World} {gc mb B gl n c : Nat} {vw : Value} {s : CS} (h : Cl w gc mb B (.slice (some ⟨gl, 0, none⟩) n c) vw s) (i : Nat) (hi : i < s.L.length) (u : Int) : Cl (w.setCell ⟨gl, i * 5 + 3, none⟩ (.int .u8 u)) gc mb B (.slice (some ⟨gl, 0, none⟩) n c) vw { s with L := s.L.set i { s.L[i] with f3 := u } } := by
  have hne : ∀ k, k ≠ gl → (w.setCell ⟨gl, i * 5 + 3, none⟩ (.int .u8 u)).heap[k]? = w.heap[k]? := fun k hk => heap_setCell_other w _ k _ hk
  exact ⟨(hne gc (fun e => h.gcL (by rw [e]; rfl))).trans h.1, h.rowL.set3 i hi u, h.rowW.moved fun k hk => hne k (fun e => h.LW (k := gl) rfl (by rw [hk, e])), h.mapIs.kept (hne mb (fun e => h.mbL (by rw [e]; rfl))), h.2.2.2.2⟩

theorem Cl.setL4 {w : World} {gc mb B gl n c : Nat} {vw : Value} {s : CS} (h : Cl w gc mb B (.slice (some ⟨gl, 0, none⟩) n c) vw s) (i : Nat) (hi : i < s.L.length) (u : Int) : Cl (w.setCell ⟨gl, i * 5 + 4, none⟩ (.int .u64 u)) gc mb B (.slice (some ⟨gl, 0, none⟩) n c) vw { s with L := s.L.set i { s.L[i] with f4 := u } } := by
  have hne : ∀ k, k ≠ gl → (w.setCell ⟨gl, i * 5 + 4, none⟩ (.int .u64 u)).heap[k]? = w.heap[k]? := fun k hk => heap_setCell_other w _ k _ hk
  exact ⟨(hne gc (fun e => h.gcL (by rw [e]; rfl))).trans h.1, h.rowL.set4 i hi u, h.rowW.moved fun k hk => hne k (fun e => h.LW (k := gl) rfl (by rw [hk, e])), h.mapIs.kept (hne mb (fun e => h.mbL (by rw [e]; rfl))), h.2.2.2.2⟩

theorem Cl.glB {w : World} {gc mb B gl n c : Nat} {vw : Value} {s : CS} (h : Cl w gc mb B (.slice (some ⟨gl, 0, none⟩) n c) vw s) : B ≤ gl := by obtain ⟨cur, _, h2⟩ := h.rowL.owned rfl; exact h2
theorem Cl.glt {w : World} {gc mb B gl n c : Nat} {vw : Value} {s : CS} (h : Cl w gc mb B (.slice (some ⟨gl, 0, none⟩) n c) vw s) : gl < w.heap.size := by obtain ⟨cur, h1, _⟩ := h.rowL.owned rfl; exact blk_lt h1
/-- the cells of an instance -/
theorem Cl.cells {w : World} {gc mb B gl n c : Nat} {vw : Value} {s : CS} (h : Cl w gc mb B (.slice (some ⟨gl, 0, none⟩) n c) vw s) {i : Nat} (hi : i < s.L.length) : ∃ cur, w.heap[gl]? = some (.cells cur 50 (0, 0)) ∧ cur[i * 5]? = some (.int .u64 s.L[i].f0) ∧ w.cell? ⟨gl, i * 5, none⟩ = some (.int .u64 s.L[i].f0) ∧ w.cell? ⟨gl, i * 5 + 3, none⟩ = some (.int .u8 s.L[i].f3) ∧ w.cell? ⟨gl, i * 5 + 4, none⟩ = some (.int .u64 s.L[i].f4) := by
  obtain ⟨gl', c', e, _, _, cur, h1, h2⟩ := h.form hi
  injection e with e1 _ _
  injection e1 with e1
  injection e1 with e1
  subst e1
  exact ⟨cur, h1, h2 0 _ rfl, (blk_cell h1 (i * 5)).trans (h2 0 _ rfl), (blk_cell h1 (i * 5 + 3)).trans (h2 3 _ rfl), (blk_cell h1 (i * 5 + 4)).trans (h2 4 _ rfl)⟩

def isTok (t : Int) (x : S27) : Bool := x.f1 == t
def isOf (id : Int) (x : S27) : Bool := (x.f0 != 1) && (x.f4 == id)
def isStart (id : Int) (x : S27) : Bool := (x.f0 == 4) && (x.f4 == id)
def at50 (L : List S50) (i : Nat) : S50 := L.getD i z50
theorem at50_eq {L : List S50} {i : Nat} (h : i < L.length) : at50 L i = L[i] := by unfold at50; rw [List.getD_eq_getElem?_getD, List.getElem?_eq_getElem h]; rfl
def setSt (L : List S50) (i : Nat) (u : Int) : List S50 := L.set i { at50 L i with f3 := u }
def setKill (L : List S50) (i : Nat) (u : Int) : List S50 := L.set i { at50 L i with f4 := u }
def closeS (s : CS) (t : Int) : CS := ⟨s.L, s.W.filter (fun x => !isTok t x), s.A⟩
def goneS (s : CS) (i : Nat) : CS := ⟨setSt s.L i 4, s.W.filter (fun x => !isOf (at50 s.L i).f0 x), s.A⟩
theorem closeS.calls (w : World) (gc mb B : Nat) (vl vw : Value) (s : CS) (hC : Cl w gc mb B vl vw s) (hn : s.W.length ≤ 1000000) (t : Int) : Calls Try.prog 38 #[.pointer (some ⟨gc, 0, none⟩), .int .u64 t] w fun e w' => e = .returned (.tuple #[]) ∧ Post w w' gc mb B vl vw (closeS s t) := close.calls w gc mb B vl vw s hC hn t

set_option maxHeartbeats 8000000 in
set_option maxRecDepth 100000 in
theorem gone.calls (w : World) (gc mb B gl c : Nat) (vw : Value) (s : CS) (hC : Cl w gc mb B (.slice (some ⟨gl, 0, none⟩) s.L.length c) vw s) (hn : s.W.length ≤ 1000000) (i : Nat) (hi : i < s.L.length) (id : Int) (hid : s.L[i].f0 = id) : Calls Try.prog 39 #[.pointer (some ⟨gc, 0, none⟩), .pointer (some ⟨gl, i * 5, none⟩)] w fun e w' => ∃ v, e = .returned v ∧ Evs w' w.heap.size v (some ⟨15, 0, id, 0, 0, 0, 0⟩) ∧ Post w w' gc mb B (.slice (some ⟨gl, 0, none⟩) s.L.length c) vw (goneS s i) := by
  have HC := Aside0.mk hC
  have HI := Aside0.mk hi
  have HID := Aside0.mk hid
  have GLL := Aside0.mk hC.glt
  obtain ⟨nl, hnl⟩ : ∃ nl, nl = s.L.length := ⟨_, rfl⟩
  rw [← hnl] at HC hC ⊢
  have HNL := Aside0.mk hnl
  clear hC hid hnl
  go_enter Try.func39, Try.ntmps39
  go_upto_region 1 with fail
  have BB := Aside0.mk (below_alloc (Below.refl w.heap.size w) (.cells #[.pointer (some ⟨gl, i * 5, none⟩)] 61 (0, 0)))
  have BK := Aside0.mk (blk_new w (.cells #[.pointer (some ⟨gl, i * 5, none⟩)] 61 (0, 0)))
  obtain ⟨gk, hgk⟩ : ∃ gk, gk = w.heap.size := ⟨_, rfl⟩
  have HGK := Aside0.mk hgk
  have KL : Aside0 (gk ≠ gl) := ⟨by have := GLL.out; omega⟩
  rw [← hgk]
  rw [← hgk] at BK
  generalize World.alloc w _ = w1 at BB BK ⊢
  have HC1 := Aside0.mk (HC.out.below BB.out)
  obtain ⟨cur1, q1, q2, x0, x3, x4⟩ := HC1.out.cells hi
  have p0 : w1.cell? ⟨gk, 0, none⟩ = some (.pointer (some ⟨gl, i * 5, none⟩)) := (blk_cell BK.out 0).trans rfl
  have z3 : w1.frozen? ⟨gl, i * 5 + 3, none⟩ = false := blk_frozen q1 _
  clear q1 q2 hgk
  go_upto_region 2 with fail
  have BK2 := Aside0.mk ((heap_setCell_other w1 ⟨gl, i * 5 + 3, none⟩ gk (.int .u8 4) KL.out).trans BK.out)
  have HC2 := Aside0.mk (HC1.out.setL3 i hi 4)
  have BB2 : Aside0 (Below B w (w1.setCell ⟨gl, i * 5 + 3, none⟩ (.int .u8 4))) := ⟨(Below.mono BB.out HC.out.base).setCell (show B ≤ gl from HC.out.glB) _⟩
  have FF2 : Aside0 (∀ k, k ≠ gl → (w1.setCell ⟨gl, i * 5 + 3, none⟩ (.int .u8 4)).heap[k]? = w1.heap[k]?) := ⟨fun k hk => heap_setCell_other w1 _ k _ hk⟩
  have SZ2 : Aside0 ((w1.setCell ⟨gl, i * 5 + 3, none⟩ (.int .u8 4)).heap.size = w1.heap.size) := ⟨by simp [World.setCell]⟩
  clear x0 x3 x4 p0 z3
  generalize World.setCell w1 _ _ = w2 at BK2 HC2 BB2 FF2 SZ2 ⊢
  have p0 : w2.cell? ⟨gk, 0, none⟩ = some (.pointer (some ⟨gl, i * 5, none⟩)) := (blk_cell BK2.out 0).trans rfl
  have c1 := HC2.out.c1
  obtain ⟨cur, q1, q2, -⟩ := HC2.out.cells (i := i) (by rw [List.length_set]; exact hi)
  rw [show (s.L.set i { s.L[i] with f3 := 4 })[i]'(by rw [List.length_set]; exact hi) = { s.L[i] with f3 := 4 } from List.getElem_set_self ..] at q2
  have HK : Aside0 (cur[i * 5]? = some (.int .u64 id)) := ⟨by rw [← HID.out]; exact q2⟩
  have HT : Aside0 (Tells 44 #[.pointer (some ⟨gk, 0, none⟩)] (isOf id) [(gk, .cells #[.pointer (some ⟨gl, i * 5, none⟩)] 61 (0, 0)), (gl, .cells cur 50 (0, 0))]) := ⟨gone1.tells gk gl (i * 5) cur id HK.out⟩
  have HW := Aside0.mk HC2.out.rowW
  have HBW := Aside0.mk HC2.out.base
  have HS : Aside0 (Sees [(gk, .cells #[.pointer (some ⟨gl, i * 5, none⟩)] 61 (0, 0)), (gl, .cells cur 50 (0, 0))] w2) := ⟨fun p hp => by
    rcases List.mem_cons.1 hp with rfl | hp
    · exact BK2.out
    · rw [List.mem_singleton] at hp; subst hp; exact q1⟩
  have HNE : Aside0 (∀ q ∈ [((gk, .cells #[.pointer (some ⟨gl, i * 5, none⟩)] 61 (0, 0)) : Nat × Obj), (gl, .cells cur 50 (0, 0))], some q.1 ≠ vw.ownBlock) := ⟨fun q hq => by
    rcases List.mem_cons.1 hq with rfl | hq
    · exact HW.out.ne BK2.out (by decide)
    · rw [List.mem_singleton] at hq; subst hq; exact HW.out.ne q1 (by decide)⟩
  have GL := Aside0.mk HC2.out.lt
  have GCW := Aside0.mk HC2.out.gcW
  have HG := Aside0.mk HC2.out.1
  have HQ1 := Aside0.mk q1
  clear q1 q2
  go_upto_region 3 with (go_at_call 42; with_reducible refine (DeleteFunc.calls B vw s.W 44 #[.pointer (some ⟨gk, 0, none⟩)] (isOf id) [(gk, .cells #[.pointer (some ⟨gl, i * 5, none⟩)] 61 (0, 0)), (gl, .cells cur 50 (0, 0))] _ HW.out hn HBW.out enters44 HT.out HS.out HNE.out).mono ?_; rintro e w3 ⟨v', rfl, hr, ho, hb, hk⟩; obtain ⟨Aw, nw, cw, ev⟩ := hr.slice3; subst ev; have R3 := Aside0.mk hr; have O3 := Aside0.mk ho; have B3 := Aside0.mk hb; have K3 := Aside0.mk hk; clear hr ho hb hk; have G3 := Aside0.mk ((K3.out gc GL.out GCW.out).trans HG.out); have c9 : w3.cell? ⟨gc, 1, none⟩ = some vw := (blk_cell G3.out 1).trans rfl; have z9 : w3.frozen? ⟨gc, 1, none⟩ = false := blk_frozen G3.out 1)
  have hL3 : Row50 w3 B (.slice (some ⟨gl, 0, none⟩) nl c) (s.L.set i { s.L[i] with f3 := 4 }) := HC2.out.rowL.moved fun k hk => by
    obtain ⟨cur, q1, _⟩ := HC2.out.rowL.owned hk
    exact K3.out k (blk_lt q1) (HC2.out.LW hk)
  have hM3 : MapIs w3 mb s.A := HC2.out.mapIs.kept (K3.out mb HC2.out.mapIs.lt HC2.out.mbW)
  have HC4 := Aside0.mk (Cl.putW G3.out hL3 R3.out hM3 HC.out.2.2.2.2.1 HC.out.2.2.2.2.2 HC.out.gcL (by rw [O3.out]; exact HC.out.gcW) HC.out.gcmb)
  have hB3 : Below B w w3 := BB2.out.trans B3.out
  have B4 : Aside0 (Below B w (w3.setCell ⟨gc, 1, none⟩ (.slice Aw nw cw))) := ⟨hB3.setCell (show B ≤ gc from HC.out.2.2.2.2.1) _⟩
  have BK4 : Aside0 ((w3.setCell ⟨gc, 1, none⟩ (.slice Aw nw cw)).heap[gk]? = some (.cells #[.pointer (some ⟨gl, i * 5, none⟩)] 61 (0, 0))) := ⟨(heap_setCell_other w3 _ gk _ (fun e => by have h1 := HG.out; have h2 := BK2.out; rw [show gk = gc from e, h1] at h2; injection h2 with h2; injection h2 with _ h2; cases h2)).trans ((K3.out gk (blk_lt BK2.out) (HW.out.ne BK2.out (by decide))).trans BK2.out)⟩
  have F4 : Aside0 (∀ k, k < w2.heap.size → k ≠ gc → some k ≠ vw.ownBlock → (w3.setCell ⟨gc, 1, none⟩ (.slice Aw nw cw)).heap[k]? = w2.heap[k]?) := ⟨fun k hk a d => (heap_setCell_other w3 _ k _ a).trans (K3.out k hk d)⟩
  clear c9 z9 p0 c1
  generalize World.setCell w3 _ _ = w4 at HC4 B4 BK4 F4 ⊢
  have p0 : w4.cell? ⟨gk, 0, none⟩ = some (.pointer (some ⟨gl, i * 5, none⟩)) := (blk_cell BK4.out 0).trans rfl
  obtain ⟨cur4, q1, q2, y0, -⟩ := HC4.out.cells (i := i) (by rw [List.length_set]; exact hi)
  rw [show (s.L.set i { s.L[i] with f3 := 4 })[i]'(by rw [List.length_set]; exact hi) = { s.L[i] with f3 := 4 } from List.getElem_set_self ..] at y0
  have x0 : w4.cell? ⟨gl, i * 5, none⟩ = some (.int .u64 id) := by rw [← HID.out]; exact y0
  clear q1 q2 y0
  go_wp2
  go_ret
  have BB5 := Aside0.mk (below_alloc (Below.refl w4.heap.size w4) (.cells (row ⟨15, 0, id, 0, 0, 0, 0⟩) 45 (0, 0)))
  have hs4 : w.heap.size ≤ w4.heap.size := B4.out.size
  refine ⟨_, rfl, ⟨w4.heap.size, rfl, hs4, blk_new w4 _⟩, _, _, by rw [goneS, setSt, at50_eq hi, HID.out]; exact HC4.out.below BB5.out, .refl _ _, .inl O3.out, B4.out.trans (Below.mono BB5.out (Nat.le_trans HC.out.base hs4)), fun k hk a b cc d => ?_⟩
  have hs1 : w.heap.size ≤ w1.heap.size := BB.out.size
  exact (BB5.out.block k (Nat.lt_of_lt_of_le hk hs4)).trans ((F4.out k (by rw [SZ2.out]; exact Nat.lt_of_lt_of_le hk hs1) a d).trans ((FF2.out k (fun e => cc (by rw [e]; rfl))).trans (BB.out.block k hk)))
end
section
open Go.RowKit Go.Shelf Go.Proofs.YtfhopjigdkjnoaaW.PrintWords Go.Proofs.YtfhopjigdkjnoaaW.PrintLast Go.Proofs.YtfhopjigdkjnoaaW.PrintMore
set_option linter.unusedVariables false
set_option linter.unusedSimpArgs false

open Go.Maps Go.ChangeMaps Go.WideShapes
theorem row45.load_run {o : Oper} {a : Act} (t : Nat) (g : Nat) (cs : Array Value) (ho : o.op = .load 45 (.tmp t)) (hx : a.eval (.tmp t) = .pointer (some ⟨g, 0, none⟩)) (w : World) (hg : w.heap[g]? = some (.cells cs 45 (0, 0))) (hi : (Try.prog.info? 45).map (·.size) = some cs.size) :
    (execOp a.eval o).run Try.prog w = .ok (.value (.agg cs)) w := by
  unfold execOp
  simp only [ho, hx, Instr.loadAt, Instr.sureAddr, Sem.run_bind, Sem.run_pure, Result.andThen_ok, run_loadVar_row w g 45 45 cs (0, 0) _ hg Try.underlying45 rfl hi]
theorem Cl.putM {w : World} {gc mb B : Nat} {vl vw : Value} {s : CS} (h : Cl w gc mb B vl vw s) (x : Int × SE) (es : Array MapEntry) (c : Nat) (hf : ∀ W : World, W.heap[mb]? = some (.map es c) → MapIs W mb (x :: s.A)) : Cl (setBlock w mb (.map es c)) gc mb B vl vw ⟨s.L, s.W, x :: s.A⟩ :=
  ⟨(setBlock_other w _ h.gcmb).trans h.1, h.rowL.moved fun k hk => setBlock_other w _ (fun e => h.mbL (by rw [hk, e])), h.rowW.moved fun k hk => setBlock_other w _ (fun e => h.mbW (by rw [hk, e])), hf _ (setBlock_same _ h.mapIs.lt), h.2.2.2.2⟩
def answerS (s : CS) (t : Int) (e : SE) : CS := closeS ⟨s.L, s.W, (t, e) :: s.A⟩ t

set_option maxHeartbeats 8000000 in
set_option maxRecDepth 100000 in
theorem answer.calls (w : World) (gc mb B : Nat) (vl vw : Value) (s : CS) (hC : Cl w gc mb B vl vw s) (hn : s.W.length ≤ 1000000) (r : S27) (e : SE) (hk : Keys s.A) (hok : okK r.f1) (hnew : ∀ y ∈ s.A, y.1 ≠ r.f1) : Calls Try.prog 37 #[.pointer (some ⟨gc, 0, none⟩), .agg #[.int .u8 r.f0, .int .u64 r.f1, .int .i64 r.f2, .bool r.f3, .int .u64 r.f4], .agg (row e)] w fun e' w' => ∃ v, e' = .returned v ∧ Evs w' w.heap.size v (some e) ∧ Post w w' gc mb B vl vw (answerS s r.f1 e) := by
  have HC := Aside0.mk hC
  have HK := Aside0.mk hk
  have HO := Aside0.mk hok
  have HN := Aside0.mk hnew
  have HB := Aside0.mk (Below.refl w.heap.size w)
  clear hC hk hok hnew
  go_enter Try.func37, Try.ntmps37
  go_upto_region 1 with (first
    | ((with_reducible refine gate_dst (N := 4) rfl ?_); refine box_event ?hg (N := 4) ?hd (cs := #[.int .u8 r.f0, .int .u64 r.f1, .int .i64 r.f2, .bool r.f3, .int .u64 r.f4]) (t := 27) ?hr ?_; (case hd => rfl); (case hg => rfl); (case hr => first | (go_simp; done) | (go_simp; rfl)); intro gr hg w1_r hbox hb; have GGr := Aside0.mk (show w.heap.size ≤ gr from by rw [hg]; exact below_size (by repeat (first | (with_reducible first | exact HB.out | apply below_alloc | apply pw_below_drewN | apply below_drew1) | exact HB.out))); have BKr := Aside0.mk hbox; clear hbox hg; have n0_ := Aside0.mk (below_step (by repeat (first | (with_reducible first | exact HB.out | apply below_alloc | apply pw_below_drewN | apply below_drew1) | exact HB.out)) hb); clear HB; have HB := n0_; clear n0_ hb)
    | ((with_reducible refine gate_dst (N := 5) rfl ?_); refine box_event ?hg (N := 5) ?hd (cs := row e) (t := 45) ?hr ?_; (case hd => rfl); (case hg => rfl); (case hr => first | (go_simp; done) | (go_simp; rfl)); intro ge hg w1_e hbox hb; have GGe := Aside0.mk (show w.heap.size ≤ ge from by rw [hg]; exact below_size (by repeat (first | (with_reducible first | exact HB.out | apply below_alloc | apply pw_below_drewN | apply below_drew1) | exact HB.out))); have BKe := Aside0.mk hbox; clear hbox hg; have n0_ := Aside0.mk (below_step (by repeat (first | (with_reducible first | exact HB.out | apply below_alloc | apply pw_below_drewN | apply below_drew1) | exact HB.out)) hb); (first | have n1_ := Aside0.mk (blk_below BKr.out hb) | have n1_ := Aside0.mk (blk_below (blk_drewN BKr.out _) hb) | have n1_ := Aside0.mk (blk_below (blk_drew BKr.out) hb) | have n1_ := Aside0.mk (blk_below (blk_alloc BKr.out _) hb) | have n1_ := Aside0.mk (blk_below (by first | exact BKr.out | ((with_reducible repeat (first | refine blk_drewN ?_ _ | refine blk_drew ?_ | refine blk_alloc ?_ _)); exact BKr.out)) hb)); clear HB BKr; have HB := n0_; have BKr := n1_; clear n0_ n1_ hb))
  have HC1 := Aside0.mk (HC.out.below HB.out)
  obtain ⟨es1, c1, hE, hfin⟩ := (MapIs.kept (w' := w1_e.drew) HC1.out.mapIs rfl).put HK.out (x := (r.f1, e)) HO.out HN.out
  have HFIN := Aside0.mk hfin
  clear hfin
  refine start_ (n := 8) (S := fun w' => w'.cell? ⟨gc, 2, none⟩ = some (.map (some mb)) ∧ w'.cell? ⟨gr, 1, none⟩ = some (.int .u64 r.f1) ∧ w'.heap[ge]? = some (.cells (row e) 45 (0, 0))) (ds := [7]) #[false, false, false, false, false, false, false, false] (by kernel_rfl) rfl rfl ⟨(HC1.out.c2), ((blk_cell BKr.out 1).trans rfl), BKe.out⟩ (fun hHeld => ?_)
  refine pure_ (i := 0) (N := some 7) (v := ?_) (a' := ?_) #[true, false, false, false, false, false, false, false] rfl rfl (by kernel_rfl) (fun _ _ _ h => h) (Or.inl ⟨by rfl, ?_⟩) ?_ ?_
  rotate_left
  · intro w'
    go_simp
    with_reducible rfl
  rotate_left
  · simp only [Act.put, List.setIfInBounds_toArray, List.set_cons_zero, List.set_cons_succ, i64_w, i32_w]
    rfl
  refine pure_ (i := 1) (N := some 8) (v := ?_) (a' := ?_) #[true, true, false, false, false, false, false, false] rfl rfl (by kernel_rfl) (fun _ _ _ h => h) (Or.inl ⟨by rfl, ?_⟩) ?_ ?_
  rotate_left
  · intro w'
    go_simp
    with_reducible rfl
  rotate_left
  · simp only [Act.put, List.setIfInBounds_toArray, List.set_cons_zero, List.set_cons_succ, i64_w, i32_w]
    rfl
  refine pure_ (i := 2) (N := some 9) (v := ?_) (a' := ?_) #[true, true, true, false, false, false, false, false] rfl rfl (by kernel_rfl) (fun _ _ _ h => h) (Or.inl ⟨by rfl, ?_⟩) ?_ ?_
  rotate_left
  · intro w'
    go_simp
    with_reducible rfl
  rotate_left
  · simp only [Act.put, List.setIfInBounds_toArray, List.set_cons_zero, List.set_cons_succ, i64_w, i32_w]
    rfl
  refine pure_ (i := 4) (N := some 11) (v := ?_) (a' := ?_) #[true, true, true, false, true, false, false, false] rfl rfl (by kernel_rfl) (fun _ _ _ h => h) (Or.inl ⟨by rfl, ?_⟩) ?_ ?_
  rotate_left
  · intro w'
    go_simp
    with_reducible rfl
  rotate_left
  · simp only [Act.put, List.setIfInBounds_toArray, List.set_cons_zero, List.set_cons_succ, i64_w, i32_w]
    rfl
  refine take_ (i := 3) (N := some 10) (v := ?_) (a' := ?_) #[true, true, true, true, true, false, false, false] rfl rfl (by kernel_rfl) (fun _ _ _ h => h) (Or.inl ⟨by rfl, ?_⟩) hHeld ?_ ?_
  rotate_left
  · rintro w' ⟨s0, s1, s2⟩
    go_simp
    with_reducible rfl
  rotate_left
  · simp only [Act.put, List.setIfInBounds_toArray, List.set_cons_zero, List.set_cons_succ, i64_w, i32_w]
    rfl
  refine take_ (i := 5) (N := some 12) (v := ?_) (a' := ?_) #[true, true, true, true, true, true, false, false] rfl rfl (by kernel_rfl) (fun _ _ _ h => h) (Or.inl ⟨by rfl, ?_⟩) hHeld ?_ ?_
  rotate_left
  · rintro w' ⟨s0, s1, s2⟩
    go_simp
    with_reducible rfl
  rotate_left
  · simp only [Act.put, List.setIfInBounds_toArray, List.set_cons_zero, List.set_cons_succ, i64_w, i32_w]
    rfl
  refine take_ (i := 6) (N := some 13) (v := ?_) (a' := ?_) #[true, true, true, true, true, true, true, false] rfl rfl (by kernel_rfl) (fun _ _ _ h => h) (Or.inl ⟨by rfl, ?_⟩) hHeld ?_ ?_
  rotate_left
  · rintro w' ⟨s0, s1, s2⟩
    refine row45.load_run 5 ge (row e) ?_ ?_ w' s2 (row_info e)
    · rfl
    · rfl
  rotate_left
  · simp only [Act.put, List.setIfInBounds_toArray, List.set_cons_zero, List.set_cons_succ, i64_w, i32_w]
    rfl
  refine last_ (i := 7) (N := none) #[true, true, true, true, true, true, true, true] rfl rfl (by kernel_rfl) (by decide) (fun K hK => ?_)
  refine skip_ (w1 := _) (by rfl) rfl (exec_mapUpdate rfl rfl rfl rfl hE) ?_
  refine hK.out _ _ ?_
  clear hK K
  refine done_ (by kernel_rfl) ?_

  go_upto_region 2 with fail
  have hm1 : ∀ (g : Nat) (cs : Array Value) (t : TypeId), w1_e.heap[g]? = some (.cells cs t (0, 0)) → g ≠ mb := fun g cs t hg e => by
    obtain ⟨es, c, h2, _⟩ := HC1.out.mapIs
    rw [e, h2] at hg
    injection hg with hg
    cases hg
  have BKr2 : Aside0 ((setBlock w1_e.drew mb (.map es1 c1)).heap[gr]? = some (.cells #[.int .u8 r.f0, .int .u64 r.f1, .int .i64 r.f2, .bool r.f3, .int .u64 r.f4] 27 (0, 0))) := ⟨(setBlock_other w1_e.drew _ (hm1 _ _ _ BKr.out)).trans BKr.out⟩
  have BKe2 : Aside0 ((setBlock w1_e.drew mb (.map es1 c1)).heap[ge]? = some (.cells (row e) 45 (0, 0))) := ⟨(setBlock_other w1_e.drew _ (hm1 _ _ _ BKe.out)).trans BKe.out⟩
  have HC2 := Aside0.mk (Cl.putM (w := w1_e.drew) HC1.out (r.f1, e) es1 c1 HFIN.out)
  have HB2 : Aside0 (Below B w (setBlock w1_e.drew mb (.map es1 c1))) := ⟨below_setBlock (below_drew (Below.mono HB.out HC.out.base)) HC.out.2.2.2.2.2 _⟩
  have HF2 : Aside0 (∀ k, k < w.heap.size → k ≠ mb → (setBlock w1_e.drew mb (.map es1 c1)).heap[k]? = w.heap[k]?) := ⟨fun k hk hne => (setBlock_other w1_e.drew _ hne).trans (HB.out.block k hk)⟩
  clear hHeld hE hm1
  generalize setBlock w1_e.drew mb _ = w2 at BKr2 BKe2 HC2 HB2 HF2 ⊢
  have y1 : w2.cell? ⟨gr, 1, none⟩ = some (.int .u64 r.f1) := (blk_cell BKr2.out 1).trans rfl
  go_upto_region 3 with (go_at_call 38; with_reducible refine (closeS.calls _ gc mb B vl vw ⟨s.L, s.W, (r.f1, e) :: s.A⟩ HC2.out hn r.f1).mono ?_; rintro e9 w3 ⟨rfl, hp⟩; have HP3 := Aside0.mk hp; clear hp)
  obtain ⟨vl3, vw3, HC3', n1, n2, b3, f3⟩ := HP3.out
  have BKe3 := Aside0.mk ((f3 ge (blk_lt BKe2.out) (fun e => by have h1 := HC2.out.1; have h2 := BKe2.out; rw [e, h1] at h2; injection h2 with h2; injection h2 with _ h2; cases h2) (fun e => by obtain ⟨es, c, h2, _⟩ := HC2.out.mapIs; have h1 := BKe2.out; rw [e, h2] at h1; injection h1 with h1; cases h1) (HC2.out.rowL.ne BKe2.out (by decide)) (HC2.out.rowW.ne BKe2.out (by decide))).trans BKe2.out)
  have HC3 := Aside0.mk HC3'
  have N1 : Aside0 (Nw w2 vl vl3) := ⟨n1⟩
  have N2 : Aside0 (Nw w2 vw vw3) := ⟨n2⟩
  have B3 := Aside0.mk b3
  have F3 : Aside0 (Fr w2 w3 gc mb vl vw) := ⟨f3⟩
  clear HC3' n1 n2 b3 f3 y1
  go_wp2_with (first
    | (refine wpList_load_row rfl 45 (.tmp 5) rfl ge rfl 45 (row e) (0, 0) _ BKe3.out Try.underlying45 rfl (row_info e) ?_)
    | ((with_reducible refine gate_dst (N := 19) rfl ?_); refine mk_event rfl (N := 19) rfl (cs := row e) (t := 45) (n := 1) (evS_run e rfl rfl _) ?_; intro g5 hg w5 hbox hb; have GG5 := Aside0.mk hg; have BK5 := Aside0.mk hbox; have BB5 := Aside0.mk hb; clear hg hbox hb))
  go_ret
  have hs2 : w.heap.size ≤ w2.heap.size := HB2.out.size
  have hs3 : w2.heap.size ≤ w3.heap.size := B3.out.size
  refine ⟨_, rfl, ⟨g5, rfl, by rw [GG5.out]; omega, BK5.out⟩, vl3, vw3, HC3.out.below BB5.out, (Nw.refl w vl).trans N1.out hs2, (Nw.refl w vw).trans N2.out hs2, (HB2.out.trans B3.out).trans (Below.mono BB5.out (Nat.le_trans HC.out.base (by omega))), fun k hk a b c d => ?_⟩
  exact (BB5.out.block k (by omega)).trans ((F3.out k (by omega) a b c d).trans (HF2.out k hk b))
end
section
open Go.RowKit Go.Shelf Go.Proofs.YtfhopjigdkjnoaaW.PrintWords Go.Proofs.YtfhopjigdkjnoaaW.PrintLast Go.Proofs.YtfhopjigdkjnoaaW.PrintMore
set_option linter.unusedVariables false
set_option linter.unusedSimpArgs false

theorem store_row_ev {ops : Array Oper} {Q : Exit → Act → World → Prop} {oi : Oper} {a : Act} {W : World} {K : Act → World → Prop} (hw : Region.wanted oi (yielded ops a.tmps) = true) (hN : oi.dst = none) (ty : TypeId) (t v : Tmp) (hop : oi.op = .store ty (.tmp t) (.tmp v)) (g : Nat) (cells : Array Value) (hx : a.eval (.tmp t) = .pointer (some ⟨g, 0, none⟩)) (hy : a.eval (.tmp v) = .agg cells) (ty' : TypeId) (old : Array Value) (hg : W.heap[g]? = some (.cells old ty' (0, 0))) (hi : (Try.prog.info? ty).map (·.size) = some cells.size) (hold : old.size = cells.size) (h1 : cells.all (·.oneCell') = true)
    (h : K a (W.setRow g cells)) : if Region.wanted oi (yielded ops a.tmps) = true then Oper.wp Try.prog oi a W K Q else K (a.put none undef) W := by
  refine skip_ hw hN (w1 := W.setRow g cells) ?_ h
  unfold execOp
  simp only [hop, hx, hy, Instr.storeAt, Instr.sureAddr, Sem.run_bind, Sem.run_pure, Result.andThen_ok, run_storeVar_row W g ty' ty old cells hg hi hold h1]
theorem Cl.putL {w1 : World} {gc mb B : Nat} {vl vl' vw : Value} {L : List S50} {W : List S27} {A : List (Int × SE)} (h0 : w1.heap[gc]? = some (.cells #[vl, vw, .map (some mb)] 56 (0, 0))) (hL : Row50 w1 B vl' L) (hW : Row27 w1 B vw W) (hM : MapIs w1 mb A) (h1 : B ≤ gc) (h2 : B ≤ mb) (n1 : some gc ≠ vl'.ownBlock) (n2 : some gc ≠ vw.ownBlock) (n3 : gc ≠ mb) : Cl (w1.setCell ⟨gc, 0, none⟩ vl') gc mb B vl' vw ⟨L, W, A⟩ :=
  ⟨blk_put h0 0 vl' rfl, hL.moved fun k hk => heap_setCell_other w1 _ k _ (fun e => n1 (by rw [hk, e])), hW.moved fun k hk => heap_setCell_other w1 _ k _ (fun e => n2 (by rw [hk, e])), hM.kept (heap_setCell_other w1 _ mb _ (fun e => n3 (by rw [e]))), h1, h2⟩
theorem answer.litG (w : World) (gc mb B : Nat) (vl vw : Value) (s : CS) (hC : Cl w gc mb B vl vw s) (hn : s.W.length ≤ 1000000) (r : S27) (k t i : Int) (hk : Keys s.A) (hok : okK r.f1) (hnew : ∀ y ∈ s.A, y.1 ≠ r.f1) : Calls Try.prog 37 #[.pointer (some ⟨gc, 0, none⟩), .agg #[.int .u8 r.f0, .int .u64 r.f1, .int .i64 r.f2, .bool r.f3, .int .u64 r.f4], .agg #[.int .u8 (k), .int .u64 (t), .int .u64 (i), .int .i64 (0), .int .i64 (0), .int .i64 (0), .bool false, .int .u64 (0), .slice none 0 0, .int .u8 0, .int .i64 0, .bool false, .int .i64 0, .int .i64 0, .int .i64 0, .int .i64 0, .int .i64 0, .int .i64 0, .int .u64 0, .int .u64 0, .int .u64 0, .int .u64 0, .int .u64 0, .int .u64 0, .bool false, .int .i64 0, .slice none 0 0, .slice none 0 0]] w fun e' w' => ∃ v, e' = .returned v ∧ Evs w' w.heap.size v (some ⟨k, t, i, 0, 0, 0, 0⟩) ∧ Post w w' gc mb B vl vw (answerS s r.f1 ⟨k, t, i, 0, 0, 0, 0⟩) := answer.calls w gc mb B vl vw s hC hn r ⟨k, t, i, 0, 0, 0, 0⟩ hk hok hnew
theorem size50' : (Try.prog.info? 50).map (·.size) = some 5 := size50
def refuseS (s : CS) (r : S27) : CS := answerS s r.f1 ⟨11, r.f1, 0, 0, 0, 0, 0⟩
def grantS (s : CS) (r : S27) : CS := answerS ⟨s.L ++ [⟨s.L.length + 1, r.f1, r.f2, 1, 0⟩], s.W, s.A⟩ r.f1 ⟨10, r.f1, s.L.length + 1, 0, 0, 0, 0⟩
def stopS (s : CS) (r : S27) : CS := closeS ⟨setSt s.L (r.f4 - 1).toNat 3, s.W, s.A⟩ r.f1

theorem Evs.base {w : World} {B B' : Nat} {v : Value} {o : Option SE} (h : Evs w B v o) (hb : B' ≤ B) : Evs w B' v o := by
  cases o with
  | none => exact h
  | some e => obtain ⟨g, h1, h2, h3⟩ := h; exact ⟨g, h1, Nat.le_trans hb h2, h3⟩
theorem Post.first {w w1 w2 : World} {gc mb B : Nat} {vl vw : Value} {s : CS} (h2 : Post w1 w2 gc mb B vl vw s) (hb : Below w.heap.size w w1) (hB : B ≤ w.heap.size) : Post w w2 gc mb B vl vw s :=
  Post.trans h2 (.refl _ _) (.refl _ _) (Below.mono hb hB) (Fr.of _ _ _ _ hb) (Nat.le_trans hB hb.size)

set_option maxHeartbeats 8000000 in
set_option maxRecDepth 100000 in
theorem refuse.calls (w : World) (gc mb B : Nat) (vl vw : Value) (s : CS) (hC : Cl w gc mb B vl vw s) (hn : s.W.length ≤ 1000000) (ak an aa ab at_ : Int) (r : S27) (hk : Keys s.A) (hok : okK r.f1) (hnew : ∀ y ∈ s.A, y.1 ≠ r.f1) : Calls Try.prog 29 #[.pointer (some ⟨gc, 0, none⟩), .agg #[.int .u8 ak, .int .i64 an, .int .i64 aa, .int .i64 ab, .int .u64 at_], .agg #[.int .u8 r.f0, .int .u64 r.f1, .int .i64 r.f2, .bool r.f3, .int .u64 r.f4]] w fun e' w' => ∃ v, e' = .returned v ∧ Evs w' w.heap.size v (some ⟨11, r.f1, 0, 0, 0, 0, 0⟩) ∧ Post w w' gc mb B vl vw (refuseS s r) := by
  have HC := Aside0.mk hC
  have HK := Aside0.mk hk
  have HO := Aside0.mk hok
  have HN := Aside0.mk hnew
  have HB := Aside0.mk (Below.refl w.heap.size w)
  clear hC hk hok hnew
  go_enter Try.func29, Try.ntmps29
  go_upto_region 1 with (first
    | ((with_reducible refine gate_dst (N := 4) rfl ?_); refine box_event ?hg (N := 4) ?hd (cs := #[.int .u8 ak, .int .i64 an, .int .i64 aa, .int .i64 ab, .int .u64 at_]) (t := 31) ?hr ?_; (case hd => rfl); (case hg => rfl); (case hr => first | (go_simp; done) | (go_simp; rfl)); intro ga hg w1_a hbox hb; have GGa := Aside0.mk (show w.heap.size ≤ ga from by rw [hg]; exact below_size (by repeat (first | (with_reducible first | exact HB.out | apply below_alloc | apply pw_below_drewN | apply below_drew1) | exact HB.out))); have BKa := Aside0.mk hbox; clear hbox hg; have n0_ := Aside0.mk (below_step (by repeat (first | (with_reducible first | exact HB.out | apply below_alloc | apply pw_below_drewN | apply below_drew1) | exact HB.out)) hb); clear HB; have HB := n0_; clear n0_ hb)
    | ((with_reducible refine gate_dst (N := 5) rfl ?_); refine box_event ?hg (N := 5) ?hd (cs := #[.int .u8 r.f0, .int .u64 r.f1, .int .i64 r.f2, .bool r.f3, .int .u64 r.f4]) (t := 27) ?hr ?_; (case hd => rfl); (case hg => rfl); (case hr => first | (go_simp; done) | (go_simp; rfl)); intro gr hg w1_r hbox hb; have GGr := Aside0.mk (show w.heap.size ≤ gr from by rw [hg]; exact below_size (by repeat (first | (with_reducible first | exact HB.out | apply below_alloc | apply pw_below_drewN | apply below_drew1) | exact HB.out))); have BKr := Aside0.mk hbox; clear hbox hg; have n0_ := Aside0.mk (below_step (by repeat (first | (with_reducible first | exact HB.out | apply below_alloc | apply pw_below_drewN | apply below_drew1) | exact HB.out)) hb); (first | have n1_ := Aside0.mk (blk_below BKa.out hb) | have n1_ := Aside0.mk (blk_below (blk_drewN BKa.out _) hb) | have n1_ := Aside0.mk (blk_below (blk_drew BKa.out) hb) | have n1_ := Aside0.mk (blk_below (blk_alloc BKa.out _) hb) | have n1_ := Aside0.mk (blk_below (by first | exact BKa.out | ((with_reducible repeat (first | refine blk_drewN ?_ _ | refine blk_drew ?_ | refine blk_alloc ?_ _)); exact BKa.out)) hb)); clear HB BKa; have HB := n0_; have BKa := n1_; clear n0_ n1_ hb))
  have HC1 := Aside0.mk (HC.out.below HB.out)
  have y0 : w1_r.cell? ⟨gr, 0, none⟩ = some (.int .u8 r.f0) := (blk_cell BKr.out 0).trans rfl
  have y1 : w1_r.cell? ⟨gr, 1, none⟩ = some (.int .u64 r.f1) := (blk_cell BKr.out 1).trans rfl
  have y2 : w1_r.cell? ⟨gr, 2, none⟩ = some (.int .i64 r.f2) := (blk_cell BKr.out 2).trans rfl
  have y3 : w1_r.cell? ⟨gr, 3, none⟩ = some (.bool r.f3) := (blk_cell BKr.out 3).trans rfl
  have y4 : w1_r.cell? ⟨gr, 4, none⟩ = some (.int .u64 r.f4) := (blk_cell BKr.out 4).trans rfl
  go_wp2_with (go_at_call 37; with_reducible refine (answer.litG _ gc mb B vl vw s HC1.out hn r 11 r.f1 0 HK.out HO.out HN.out).mono ?_; rintro e9 w3 ⟨v3, rfl, hv, hp⟩; have HV3 := Aside0.mk hv; have HP3 := Aside0.mk hp; clear hv hp)
  go_ret
  exact ⟨v3, rfl, HV3.out.base HB.out.size, HP3.out.first HB.out HC.out.base⟩
end
end Go.Proofs.Ytfhopjigdkjnoaa.GA
