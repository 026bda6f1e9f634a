/- Clones of rows. Rows of requests, filtered in place: plain. Rows of requests, filtered in place. slices.Delete, of requests. Events. No condition. -/
import Derived.Test.YtfhopjigdkjnoaaK2
import Derived.Laws.CopyOwn
import Derived.Laws.CopyRow
import Derived.ChangeKeysEq
import Derived.Deep.RegionHeld3
import Derived.Deep.MidRow
import Derived.Shelf.Abstract
import Derived.Maps.OwnSet
import Derived.Maps.AppendAt
import Derived.WalkSpells
import Derived.Lib.Overlaps
import Derived.Lib.AppendZerosOnto
import Derived.Shelf.Spec.SlicesInsertGrow
import Derived.Great.BuildSlice
import Derived.Great.Walk
namespace Go.Proofs.Ytfhopjigdkjnoaa.GA
section
open Go.RowKit Go.Shelf Go.Proofs.YtfhopjigdkjnoaaW.PrintWords Go.Proofs.YtfhopjigdkjnoaaW.PrintLast Go.Proofs.YtfhopjigdkjnoaaW.PrintMore
set_option linter.unusedVariables false
set_option linter.unusedSimpArgs false

section
variable {P : Program} {ops : Array Oper} {rest : List Oper} {o : Oper} {a : Act} {Q : Exit → Act → World → Prop}
theorem mk_event {W : World} (hgd : o.guard = none) {N : Tmp} (_hd : o.dst = some N) {cs : Array Value} {t : TypeId} {n : Nat}
    (hrun : (execOp a.eval o).run P W = .ok (.value (.slice (some ⟨W.heap.size, 0, none⟩) n n)) (W.alloc (.cells cs t (0, 0))))
    (h : ∀ g, g = W.heap.size → ∀ w1, w1.heap[g]? = some (.cells cs t (0, 0)) → Below W.heap.size W w1 → wpList P ops Q rest (a.put o.dst (.slice (some ⟨g, 0, none⟩) n n)) w1) : wpList P ops Q (o :: rest) a W :=
  Kd.event_run hgd hrun (h _ rfl _ (blk_new W _) (below_alloc (Below.refl _ _) _))
end
theorem empty_run {o : Oper} {a : Act} {t e : TypeId} (ho : o.op = .buildSlice t 0 #[]) (h : ∀ W : World, (Instr.buildSlice t 0 #[]).run Try.prog W = .ok (.slice (some ⟨W.heap.size, 0, none⟩) 0 0) (W.alloc (.cells #[] e))) (W : World) : (execOp a.eval o).run Try.prog W = .ok (.value (.slice (some ⟨W.heap.size, 0, none⟩) 0 0)) (W.alloc (.cells #[] e (0, 0))) := by
  unfold execOp
  have hm : (#[] : Array (Nat × Operand)).map (fun (i, x) => (i, a.eval x)) = #[] := by simp
  simp only [ho, hm, Sem.run_bind, h, Result.andThen_ok, Sem.run_pure]

theorem empty35 (W : World) : (Instr.buildSlice 35 0 #[]).run Try.prog W = .ok (.slice (some ⟨W.heap.size, 0, none⟩) 0 0) (W.alloc (.cells #[] 27)) := by kernel_rfl

set_option maxHeartbeats 8000000 in
set_option maxRecDepth 100000 in
theorem CloneW.nil (w : World) : Calls Try.prog 24 #[.slice none 0 0] w fun e w' => e = .returned (.slice none 0 0) ∧ Below w.heap.size w w' := by
  have HB := Aside0.mk (Below.refl w.heap.size w)
  have heq := fun w => Lib.run_eql_slice_nil (P := Try.prog) w 35 27 none 0 0 0 0 Try.underlying35
  go_enter Try.func24, Try.ntmps24
  go_wp2
  go_ret
  exact ⟨rfl, by repeat (first | (with_reducible first | exact HB.out | apply below_alloc | apply pw_below_drewN | apply below_drew1) | exact HB.out)⟩

set_option maxHeartbeats 8000000 in
set_option maxRecDepth 100000 in
theorem CloneW.some_ (ad : Addr) (c : Nat) (l : List S27) (w : World) (hl : Kd.C k27 w (some ad) l.length l) (hc : l.length ≤ c) (hn : l.length ≤ 1000000) : Calls Try.prog 24 #[.slice (some ad) l.length c] w fun e w' => ∃ v, e = .returned v ∧ Row27 w' w.heap.size v l ∧ Below w.heap.size w w' := by
  have HB := Aside0.mk (Below.refl w.heap.size w)
  have HQ := Aside0.mk hl
  have HLL : Aside0 ((([] : List S27).length + l.length) * 40 ≤ 140737488355328) := ⟨by simp; omega⟩
  clear hl
  have heq := fun w => Lib.run_eql_slice_nil (P := Try.prog) w 35 27 (some ad) l.length c 0 0 Try.underlying35
  go_enter Try.func24, Try.ntmps24
  go_wp2_with (first
    | ((with_reducible refine gate_dst (N := 5) rfl ?_); refine mk_event rfl (N := 5) rfl (cs := #[]) (t := 27) (n := 0) (empty_run rfl empty35 _) ?_; intro g0 hg w0 hbox hb; have G0 := Aside0.mk (show w.heap.size ≤ g0 from by rw [hg]; exact below_size (by repeat (first | (with_reducible first | exact HB.out | apply below_alloc | apply pw_below_drewN | apply below_drew1) | exact HB.out))); have BK0 := Aside0.mk hbox; clear hbox hg; have n0_ := Aside0.mk (below_step (by repeat (first | (with_reducible first | exact HB.out | apply below_alloc | apply pw_below_drewN | apply below_drew1) | exact HB.out)) hb); clear HB; have HB := n0_; clear n0_ hb)
    | ((with_reducible refine gate_builtin (b := .append) (xs := #[.tmp 5, .tmp 6]) rfl ?_); at_builtin; refine Kd.R_append_rows k27 (w0 := w) w.heap.size rfl (.tmp 5) (.tmp 6) 35 27 (.agg #[.int .u8 0, .int .u64 0, .int .i64 0, .bool false, .int .u64 0]) 40 rfl Try.underlying35 info27 rfl (by decide) (by omega) (.slice (some ⟨g0, 0, none⟩) 0 0) ([] : List (S27)) l _ _ _ (fun _ => True) (fun _ => False) rfl rfl ?aO ?aR (fun _ _ h => h) (fun _ h => h.elim) ?aF ?aB ?aS ?aL ?_; (case aR => repeat (first | exact (Kd.C_below HQ.out (by repeat (first | (with_reducible first | exact HB.out | apply below_alloc | apply pw_below_drewN | apply below_drew1) | exact HB.out))) | (with_reducible refine Kd.C_alloc ?_ _) | (with_reducible refine Kd.C_drewN ?_ _) | (with_reducible refine Kd.C_drew ?_))); (case aB => exact (by repeat (first | (with_reducible first | exact HB.out | apply below_alloc | apply pw_below_drewN | apply below_drew1) | exact HB.out))); (case aF => exact (fun _ _ => trivial)); (case aO => exact (Row27.of G0.out BK0.out (Nat.le_refl 0) (Nat.zero_le _) rfl rfl).toR); (case aS => exact (below_size (by repeat (first | (with_reducible first | exact HB.out | apply below_alloc | apply pw_below_drewN | apply below_drew1) | exact HB.out)))); (case aL => exact HLL.out); intro v1 w1 ho hb hg hat; rw [List.nil_append] at ho; have HO := Aside0.mk (Row27.ofR ho); have n0_ := Aside0.mk hb; clear HB ho hb hg hat; have HB := n0_; clear n0_))
  go_ret
  exact ⟨v1, rfl, HO.out, by repeat (first | (with_reducible first | exact HB.out | apply below_alloc | apply pw_below_drewN | apply below_drew1) | exact HB.out)⟩
theorem CloneW.calls (B : Nat) (v : Value) (l : List S27) (w : World) (h : Row27 w B v l) (hn : l.length ≤ 1000000) : Calls Try.prog 24 #[v] w fun e w' => ∃ v', e = .returned v' ∧ Row27 w' w.heap.size v' l ∧ Below w.heap.size w w' := by
  obtain ⟨A, c, rfl, hc, hC⟩ := h.slice
  rcases A with _ | ad
  · obtain ⟨_, ⟨hv, h0⟩ | ⟨g, cap, cur, h1, -⟩⟩ := h
    · injection hv with _ _ h3
      subst h3
      obtain rfl : l = [] := List.eq_nil_of_length_eq_zero h0
      refine (CloneW.nil w).mono ?_
      rintro e w' ⟨rfl, hb⟩
      exact ⟨_, rfl, ⟨rfl, .inl ⟨rfl, rfl⟩⟩, hb⟩
    · cases h1
  · exact CloneW.some_ ad c l w hC hc hn

theorem empty47 (W : World) : (Instr.buildSlice 47 0 #[]).run Try.prog W = .ok (.slice (some ⟨W.heap.size, 0, none⟩) 0 0) (W.alloc (.cells #[] 50)) := by kernel_rfl

set_option maxHeartbeats 8000000 in
set_option maxRecDepth 100000 in
theorem CloneL.nil (w : World) : Calls Try.prog 25 #[.slice none 0 0] w fun e w' => e = .returned (.slice none 0 0) ∧ Below w.heap.size w w' := by
  have HB := Aside0.mk (Below.refl w.heap.size w)
  have heq := fun w => Lib.run_eql_slice_nil (P := Try.prog) w 47 50 none 0 0 0 0 Try.underlying47
  go_enter Try.func25, Try.ntmps25
  go_wp2
  go_ret
  exact ⟨rfl, by repeat (first | (with_reducible first | exact HB.out | apply below_alloc | apply pw_below_drewN | apply below_drew1) | exact HB.out)⟩

set_option maxHeartbeats 8000000 in
set_option maxRecDepth 100000 in
theorem CloneL.some_ (ad : Addr) (c : Nat) (l : List S50) (w : World) (hl : Kd.C k50 w (some ad) l.length l) (hc : l.length ≤ c) (hn : l.length ≤ 1000000) : Calls Try.prog 25 #[.slice (some ad) l.length c] w fun e w' => ∃ v, e = .returned v ∧ Row50 w' w.heap.size v l ∧ Below w.heap.size w w' := by
  have HB := Aside0.mk (Below.refl w.heap.size w)
  have HQ := Aside0.mk hl
  have HLL : Aside0 ((([] : List S50).length + l.length) * 40 ≤ 140737488355328) := ⟨by simp; omega⟩
  clear hl
  have heq := fun w => Lib.run_eql_slice_nil (P := Try.prog) w 47 50 (some ad) l.length c 0 0 Try.underlying47
  go_enter Try.func25, Try.ntmps25
  go_wp2_with (first
    | ((with_reducible refine gate_dst (N := 5) rfl ?_); refine mk_event rfl (N := 5) rfl (cs := #[]) (t := 50) (n := 0) (empty_run rfl empty47 _) ?_; intro g0 hg w0 hbox hb; have G0 := Aside0.mk (show w.heap.size ≤ g0 from by rw [hg]; exact below_size (by repeat (first | (with_reducible first | exact HB.out | apply below_alloc | apply pw_below_drewN | apply below_drew1) | exact HB.out))); have BK0 := Aside0.mk hbox; clear hbox hg; have n0_ := Aside0.mk (below_step (by repeat (first | (with_reducible first | exact HB.out | apply below_alloc | apply pw_below_drewN | apply below_drew1) | exact HB.out)) hb); clear HB; have HB := n0_; clear n0_ hb)
    | ((with_reducible refine gate_builtin (b := .append) (xs := #[.tmp 5, .tmp 6]) rfl ?_); at_builtin; refine Kd.R_append_rows k50 (w0 := w) w.heap.size rfl (.tmp 5) (.tmp 6) 47 50 (.agg #[.int .u64 0, .int .u64 0, .int .i64 0, .int .u8 0, .int .u64 0]) 40 rfl Try.underlying47 info50 rfl (by decide) (by omega) (.slice (some ⟨g0, 0, none⟩) 0 0) ([] : List (S50)) l _ _ _ (fun _ => True) (fun _ => False) rfl rfl ?aO ?aR (fun _ _ h => h) (fun _ h => h.elim) ?aF ?aB ?aS ?aL ?_; (case aR => repeat (first | exact (Kd.C_below HQ.out (by repeat (first | (with_reducible first | exact HB.out | apply below_alloc | apply pw_below_drewN | apply below_drew1) | exact HB.out))) | (with_reducible refine Kd.C_alloc ?_ _) | (with_reducible refine Kd.C_drewN ?_ _) | (with_reducible refine Kd.C_drew ?_))); (case aB => exact (by repeat (first | (with_reducible first | exact HB.out | apply below_alloc | apply pw_below_drewN | apply below_drew1) | exact HB.out))); (case aF => exact (fun _ _ => trivial)); (case aO => exact (Row50.of G0.out BK0.out (Nat.le_refl 0) (Nat.zero_le _) rfl rfl).toR); (case aS => exact (below_size (by repeat (first | (with_reducible first | exact HB.out | apply below_alloc | apply pw_below_drewN | apply below_drew1) | exact HB.out)))); (case aL => exact HLL.out); intro v1 w1 ho hb hg hat; rw [List.nil_append] at ho; have HO := Aside0.mk (Row50.ofR ho); have n0_ := Aside0.mk hb; clear HB ho hb hg hat; have HB := n0_; clear n0_))
  go_ret
  exact ⟨v1, rfl, HO.out, by repeat (first | (with_reducible first | exact HB.out | apply below_alloc | apply pw_below_drewN | apply below_drew1) | exact HB.out)⟩
theorem CloneL.calls (B : Nat) (v : Value) (l : List S50) (w : World) (h : Row50 w B v l) (hn : l.length ≤ 1000000) : Calls Try.prog 25 #[v] w fun e w' => ∃ v', e = .returned v' ∧ Row50 w' w.heap.size v' l ∧ Below w.heap.size w w' := by
  obtain ⟨A, c, rfl, hc, hC⟩ := h.slice
  rcases A with _ | ad
  · obtain ⟨_, ⟨hv, h0⟩ | ⟨g, cap, cur, h1, -⟩⟩ := h
    · injection hv with _ _ h3
      subst h3
      obtain rfl : l = [] := List.eq_nil_of_length_eq_zero h0
      refine (CloneL.nil w).mono ?_
      rintro e w' ⟨rfl, hb⟩
      exact ⟨_, rfl, ⟨rfl, .inl ⟨rfl, rfl⟩⟩, hb⟩
    · cases h1
  · exact CloneL.some_ ad c l w hC hc hn
end
section
open Go.RowKit Go.Shelf Go.Proofs.YtfhopjigdkjnoaaW.PrintWords Go.Proofs.YtfhopjigdkjnoaaW.PrintLast Go.Proofs.YtfhopjigdkjnoaaW.PrintMore
set_option linter.unusedVariables false
set_option linter.unusedSimpArgs false

def cell5 (x : S27) : List Value := [.int .u8 x.f0, .int .u64 x.f1, .int .i64 x.f2, .bool x.f3, .int .u64 x.f4]
theorem cell5_len (x : S27) : (cell5 x).length = 5 := rfl
theorem flat27_cell (x : S27) (xs : List S27) : flat27 (x :: xs) = cell5 x ++ flat27 xs := rfl
theorem cell5_one (x : S27) : ∀ v ∈ cell5 x, v.oneCell' = true := fun v h => flat27_one [x] v h
/-- cells of a row, some put anew -/
def spl (X : Array Value) (o : Nat) (ys : List Value) : Array Value := (X.toList.take o ++ ys ++ X.toList.drop (o + ys.length)).toArray
theorem spl_list (X : Array Value) (o : Nat) (ys : List Value) : (spl X o ys).toList = X.toList.take o ++ ys ++ X.toList.drop (o + ys.length) := rfl
theorem spl_size (X : Array Value) (o : Nat) (ys : List Value) (h : o + ys.length ≤ X.size) : (spl X o ys).size = X.size := by
  unfold spl
  rw [List.size_toArray, List.length_append, List.length_append, List.length_take, List.length_drop, Array.length_toList]
  omega
theorem spl_cons (X : Array Value) (o : Nat) (y : Value) (ys : List Value) (h : o + (ys.length + 1) ≤ X.size) : spl (X.setIfInBounds o y) (o + 1) ys = spl X o (y :: ys) := by
  unfold spl
  congr 1
  rw [Array.toList_setIfInBounds, List.length_cons]
  have hl : o < X.toList.length := by rw [Array.length_toList]; omega
  rw [List.take_set, List.drop_set, if_pos (by omega), List.take_add_one]
  rw [show o + 1 + ys.length = o + (ys.length + 1) by omega]
  have h1 : (X.toList.take o ++ X.toList[o]?.toList).set o y = X.toList.take o ++ [y] := by
    rw [List.getElem?_eq_getElem hl]
    simp only [Option.toList_some]
    rw [List.set_append_right _ _ (by rw [List.length_take]; omega)]
    have : o - (X.toList.take o).length = 0 := by rw [List.length_take]; omega
    rw [this]
    rfl
  rw [h1]
  simp
theorem setCells_row {g : Nat} {t : TypeId} : ∀ (ys : List Value) (o : Nat) (w : World) (X : Array Value), w.heap[g]? = some (.cells X t (0, 0)) → o + ys.length ≤ X.size →
    (w.setCells g o ys).heap[g]? = some (.cells (spl X o ys) t (0, 0)) ∧ (∀ k, k ≠ g → (w.setCells g o ys).heap[k]? = w.heap[k]?) ∧ (∀ B w0, Below B w0 w → B ≤ g → Below B w0 (w.setCells g o ys)) ∧ (w.setCells g o ys).heap.size = w.heap.size
  | [], o, w, X, hg, hl => by
    refine ⟨?_, fun _ _ => rfl, fun _ _ h _ => h, rfl⟩
    show w.heap[g]? = _
    rw [hg]
    unfold spl
    simp
  | y :: ys, o, w, X, hg, hl => by
    have hl' : o + (ys.length + 1) ≤ X.size := hl
    have h1 := blk_put hg o y rfl
    obtain ⟨i1, i2, i3, i4⟩ := setCells_row ys (o + 1) _ _ h1 (by rw [Array.size_setIfInBounds]; omega)
    rw [spl_cons X o y ys hl'] at i1
    exact ⟨i1, fun k hk => (i2 k hk).trans (heap_setCell_other _ _ k _ hk), fun B w0 hB hg' => i3 B w0 (hB.setCell (show B ≤ (⟨g, o, none⟩ : Addr).block from hg') _) hg', i4.trans (by simp [World.setCell])⟩
section
variable {ops : Array Oper} {rest : List Oper} {o : Oper} {a : Act} {Q : Exit → Act → World → Prop}
theorem wpList_store_el {w w0 : World} (hgd : o.guard = none) (ty : TypeId) (x y : Operand) (ho : o.op = .store ty x y) (ad : Addr) (g off : Nat) (hx : a.eval x = .pointer (some (ad.add off))) (had : ad = ⟨g, 0, none⟩) (ys : List Value) (hy : a.eval y = .agg ys.toArray) (hi : (Try.prog.info? ty).map (·.size) = some ys.length) (h1 : ∀ v ∈ ys, v.oneCell' = true) (X : Array Value) (t : TypeId) (hg : w.heap[g]? = some (.cells X t (0, 0))) (hf : off + ys.length ≤ X.size) (B : Nat) (hb : Below B w0 w) (hBg : B ≤ g)
    (h : ∀ w1, w1.heap[g]? = some (.cells (spl X off ys) t (0, 0)) → Aside0 (∀ k, k ≠ g → w1.heap[k]? = w.heap[k]?) → Below B w0 w1 → w1.heap.size = w.heap.size → wpList Try.prog ops Q rest (a.put o.dst undef) w1) : wpList Try.prog ops Q (o :: rest) a w := by
  refine wpList_plain hgd fun K hK => ?_
  obtain ⟨i1, i2, i3, i4⟩ := setCells_row (t := t) ys off w X hg hf
  have hx' : a.eval x = .pointer (some ⟨g, off, none⟩) := by rw [hx, had, add_g]
  have hrun := run_storeAt_mid (P := Try.prog) w g off ty ys.toArray (fun j hj => by
    rw [List.size_toArray] at hj
    refine ⟨?_, blk_frozen hg (off + j)⟩
    rw [blk_cell hg, Array.getElem?_eq_getElem (by omega)]
    rfl) (by rw [List.size_toArray]; exact hi) (all_oneCell_toArray h1)
  unfold Oper.wp execOp
  simp only [ho, hx', hy, Sem.run_bind, Sem.run_pure, hrun, Result.andThen_ok]
  exact hK _ _ (h _ i1 ⟨i2⟩ (i3 _ _ hb hBg) i4)
end
/-- requests, filtered in place: so far -/
def DF (p : S27 → Bool) (xs : List S27) (Tl : List Value) (i j : Nat) (cur : Array Value) : Prop := i = ((xs.take j).filter (fun x => !p x)).length ∧ i < j ∧ ∃ M : List Value, cur.toList = flat27 ((xs.take j).filter (fun x => !p x)) ++ M ++ flat27 (xs.drop j) ++ Tl ∧ M.length = (j - i) * 5
theorem firstAt_take (p : S27 → Bool) : ∀ xs : List S27, (xs.take (firstAt p xs)).filter (fun x => !p x) = xs.take (firstAt p xs)
  | [] => rfl
  | x :: r => by
    unfold firstAt
    by_cases h : p x = true
    · rw [if_pos h]; rfl
    · rw [if_neg h, List.take_succ_cons, List.filter_cons, if_pos (by simp [h]), firstAt_take p r]
theorem firstAt_get (p : S27 → Bool) : ∀ xs : List S27, (h : firstAt p xs < xs.length) → p xs[firstAt p xs] = true
  | [], h => by simp at h
  | x :: r, h => by
    unfold firstAt at h ⊢
    by_cases hx : p x = true
    · simp only [if_pos hx]; exact hx
    · simp only [if_neg hx, List.getElem_cons_succ] at h ⊢
      exact firstAt_get p r (by simpa using h)
theorem DF.start {p : S27 → Bool} {xs : List S27} {Tl : List Value} {cur : Array Value} (hf : firstAt p xs < xs.length) (h : cur.toList = flat27 xs ++ Tl) : DF p xs Tl (firstAt p xs) (firstAt p xs + 1) cur := by
  obtain ⟨f, hfe⟩ : ∃ f, f = firstAt p xs := ⟨_, rfl⟩
  have hg := firstAt_get p xs hf
  have ht := firstAt_take p xs
  have e : xs.take (f + 1) = xs.take f ++ [xs[f]] := by rw [List.take_add_one, List.getElem?_eq_getElem (by omega)]; rfl
  have hflt : (xs.take (firstAt p xs + 1)).filter (fun x => !p x) = xs.take (firstAt p xs) := by
    rw [← hfe, e, List.filter_append]
    simp only [← hfe] at hg ht
    rw [ht]
    simp [hg]
  have hxs : xs = xs.take f ++ xs[f] :: xs.drop (f + 1) := by
    rw [← List.drop_eq_getElem_cons]
    exact (List.take_append_drop f xs).symm
  refine ⟨by rw [hflt, List.length_take]; omega, by omega, cell5 xs[f], ?_, by rw [cell5_len]; omega⟩
  rw [h, hflt]
  conv => lhs; rw [hxs]
  rw [flat27_app, flat27_cell, ← hfe]
  simp
theorem DF.skip {p : S27 → Bool} {xs : List S27} {Tl : List Value} {i j : Nat} {cur : Array Value} (h : DF p xs Tl i j cur) (hj : j < xs.length) (hp : p xs[j] = true) : DF p xs Tl i (j + 1) cur := by
  obtain ⟨h1, h2, M, h3, h4⟩ := h
  have e : xs.take (j + 1) = xs.take j ++ [xs[j]] := by rw [List.take_add_one, List.getElem?_eq_getElem hj]; rfl
  have hflt : (xs.take (j + 1)).filter (fun x => !p x) = (xs.take j).filter (fun x => !p x) := by rw [e, List.filter_append]; simp [hp]
  refine ⟨by rw [hflt]; exact h1, by omega, M ++ cell5 xs[j], ?_, by rw [List.length_append, h4, cell5_len]; omega⟩
  rw [h3, hflt, List.drop_eq_getElem_cons hj, flat27_cell]
  simp
theorem DF.keep {p : S27 → Bool} {xs : List S27} {Tl : List Value} {i j : Nat} {cur : Array Value} (h : DF p xs Tl i j cur) (hj : j < xs.length) (hp : p xs[j] = false) : DF p xs Tl (i + 1) (j + 1) (spl cur (i * 5) (cell5 xs[j])) := by
  obtain ⟨h1, h2, M, h3, h4⟩ := h
  have e : xs.take (j + 1) = xs.take j ++ [xs[j]] := by rw [List.take_add_one, List.getElem?_eq_getElem hj]; rfl
  have hflt : (xs.take (j + 1)).filter (fun x => !p x) = (xs.take j).filter (fun x => !p x) ++ [xs[j]] := by rw [e, List.filter_append]; simp [hp]
  obtain ⟨D, hD⟩ : ∃ D, D = (xs.take j).filter (fun x => !p x) := ⟨_, rfl⟩
  rw [← hD] at h1 h3 hflt
  refine ⟨by rw [hflt, List.length_append, ← h1]; rfl, by omega, (M ++ cell5 xs[j]).drop 5, ?_, by rw [List.length_drop, List.length_append, h4, cell5_len]; omega⟩
  rw [spl_list, h3, hflt, flat27_app, cell5_len, List.drop_eq_getElem_cons hj, flat27_cell]
  have hl : (flat27 D).length = i * 5 := by rw [flat27_len, h1]
  have e1 : flat27 D ++ M ++ (cell5 xs[j] ++ flat27 (xs.drop (j + 1))) ++ Tl = flat27 D ++ ((M ++ cell5 xs[j]) ++ (flat27 (xs.drop (j + 1)) ++ Tl)) := by simp
  rw [e1, List.take_left' hl, List.drop_append, hl, List.drop_eq_nil_of_le (by omega), List.nil_append, show i * 5 + 5 - i * 5 = 5 by omega, List.drop_append, List.length_append, h4, cell5_len,
    show 5 - ((j - i) * 5 + 5) = 0 by omega, List.drop_zero]
  show _ = flat27 D ++ flat27 [xs[j]] ++ _ ++ _ ++ _
  rw [show flat27 [xs[j]] = cell5 xs[j] by rw [flat27_cell]; simp [flat27]]
  simp
theorem DF.at_ {p : S27 → Bool} {xs : List S27} {Tl : List Value} {i j : Nat} {cur : Array Value} (h : DF p xs Tl i j cur) (hj : j < xs.length) (k : Nat) (hk : k < 5) : cur[j * 5 + k]? = (cell5 xs[j])[k]? := by
  obtain ⟨h1, h2, M, h3, h4⟩ := h
  rw [← Array.getElem?_toList, h3, List.drop_eq_getElem_cons hj, flat27_cell]
  have hl : (flat27 ((xs.take j).filter (fun x => !p x)) ++ M).length = j * 5 := by rw [List.length_append, flat27_len, ← h1, h4]; omega
  rw [List.append_assoc, List.getElem?_append_right (by omega), hl, show j * 5 + k - j * 5 = k by omega, List.append_assoc, List.getElem?_append_left (by rw [cell5_len]; omega)]
theorem DF.fin {p : S27 → Bool} {xs : List S27} {Tl : List Value} {i : Nat} {cur : Array Value} (h : DF p xs Tl i xs.length cur) (Z : List Value) : (spl cur (i * 5) Z).toList.take (i * 5) = flat27 (xs.filter (fun x => !p x)) ∧ i = (xs.filter (fun x => !p x)).length := by
  obtain ⟨h1, h2, M, h3, h4⟩ := h
  rw [List.take_length] at h1 h3
  refine ⟨?_, h1⟩
  have hl : (flat27 (xs.filter (fun x => !p x))).length = i * 5 := by rw [flat27_len, h1]
  rw [spl_list, h3, List.append_assoc, List.append_assoc, List.append_assoc, List.take_left' hl]
  exact List.take_left' hl
theorem run_clear_row {P : Program} (w : World) (t ty e : TypeId) (g o m c : Nat) (cur : Array Value) (bt : TypeId) (z : Value) (zs : List Value) (ht : P.underlying t = some (.slice e)) (hv : ∀ w, (zeroValue e).run P w = .ok z w) (hz : (Builtin.zeroCells z.cells m).toList = zs)
    (hg : w.heap[g]? = some (.cells cur bt (0, 0))) (hfit : o + zs.length ≤ cur.size) (h1 : ∀ v ∈ zs, v.oneCell' = true) (hm : m ≠ 0) :
    (Builtin.clear_ #[t] ty #[.slice (some ⟨g, o, none⟩) m c]).run P w = .ok (.tuple #[]) (w.setRow g (spl cur o zs)) := by
  have hst := run_storeCells_at P g o bt zs 0 cur w hg (by simpa using hfit) h1
  simp only [Nat.add_zero] at hst
  obtain ⟨k, rfl⟩ := Nat.exists_eq_succ_of_ne_zero hm
  simp [Builtin.clear_, run_underlying ht, hv, hz, hst, spl]
theorem zeros27 (m : Nat) : (Builtin.zeroCells (Value.agg #[.int .u8 0, .int .u64 0, .int .i64 0, .bool false, .int .u64 0]).cells m).size = m * 5 ∧ ∀ v ∈ (Builtin.zeroCells (Value.agg #[.int .u8 0, .int .u64 0, .int .i64 0, .bool false, .int .u64 0]).cells m).toList, v.oneCell' = true := by
  refine ⟨by simp [Builtin.zeroCells, Value.cells], fun v hv => ?_⟩
  simp only [Builtin.zeroCells, Value.cells, Array.toList_map, List.mem_map] at hv
  obtain ⟨j, -, rfl⟩ := hv
  have h5 : j % 5 < 5 := Nat.mod_lt _ (by decide)
  have : j % 5 = 0 ∨ j % 5 = 1 ∨ j % 5 = 2 ∨ j % 5 = 3 ∨ j % 5 = 4 := by omega
  rcases this with h | h | h | h | h <;> simp [h] <;> rfl
theorem sl27 {g : Nat} {ad : Addr} (had : ad = ⟨g, 0, none⟩) (n c i : Nat) (hi : i < n) (hc : n ≤ c) (W : World) : (Instr.slice 35 (.slice (some ad) n c) (some (.int .i64 (i : Int))) none none).run Try.prog W = .ok (.slice (some ⟨g, i * 5, none⟩) (n - i) (c - i)) W := by
  obtain ⟨i0, hi0, hz⟩ := Option.map_eq_some_iff.1 size27
  have hel : Try.prog.elem 35 = 27 := by simp [Program.elem, Try.underlying35]
  have hu : Try.prog.underlying 35 = some (.slice (Try.prog.elem 35)) := by rw [hel]; exact Try.underlying35
  rw [run_slice_l W 35 (some ad) n c hu .i64 (i : Int) (by omega) (by omega), hel]
  simp only [sizeOf, typeInfo, hi0, hz, sliced, Result.andThen, Int.toNat_natCast, Sem.run_bind, Sem.run_pure, Sem.run_map]
  simp only [if_neg (show ¬ c = i by omega)]
  have ha := add_g g (i * 5)
  simp [had, ha, hi0, hz]
theorem sh27 (ad : Addr) (n c i : Nat) (hc : i ≤ c) (W : World) : (Instr.slice 35 (.slice (some ad) n c) none (some (.int .i64 (i : Int))) none).run Try.prog W = .ok (.slice (some ad) i c) W := by
  obtain ⟨i0, hi0, hz⟩ := Option.map_eq_some_iff.1 size27
  have hel : Try.prog.elem 35 = 27 := by simp [Program.elem, Try.underlying35]
  have hu : Try.prog.underlying 35 = some (.slice (Try.prog.elem 35)) := by rw [hel]; exact Try.underlying35
  rw [run_slice_h W 35 (some ad) n c hu .i64 (i : Int) (by omega) (by omega), hel]
  simp only [sizeOf, typeInfo, hi0, hz, sliced, Result.andThen, Int.toNat_natCast, Sem.run_bind, Sem.run_pure, Sem.run_map, Nat.zero_mul, Nat.sub_zero]
  simp [hi0, hz, Go.Addr.add_zero']
end
section
open Go.RowKit Go.Shelf Go.Proofs.YtfhopjigdkjnoaaW.PrintWords Go.Proofs.YtfhopjigdkjnoaaW.PrintLast Go.Proofs.YtfhopjigdkjnoaaW.PrintMore
set_option linter.unusedVariables false
set_option linter.unusedSimpArgs false

theorem bstep {B : Nat} {w w1 w2 : World} (h : Below B w w1) (hB : B ≤ w1.heap.size) (hb : Below w1.heap.size w1 w2) : Below B w w2 := h.trans (Below.mono hb hB)
theorem below_size' {B : Nat} {w w' : World} (h : B ≤ w.heap.size) (hb : Below w.heap.size w w') : Below B w w' := Below.mono hb h

set_option maxHeartbeats 8000000 in
set_option maxRecDepth 100000 in
theorem DeleteFunc.none_ (ad : Addr) (c : Nat) (xs : List S27) (g : Nat) (caps : Array Value) (p : S27 → Bool) (F : List (Nat × Obj)) (w : World) (hC : Kd.C k27 w (some ad) xs.length xs) (hc : xs.length ≤ c) (hm : xs.length < 9223372036854775807) (eg : ∀ args w, (callFunc g args).run Try.prog w = .ok (.enter g args) w) (hp : Tells g caps p F) (hF : Sees F w) (hn : firstAt p xs = xs.length) :
    Calls Try.prog 42 #[.slice (some ad) xs.length c, .func (.func g) #[] caps] w fun e w' => e = .returned (.slice (some ad) xs.length c) ∧ Below w.heap.size w w' := by
  have HP : Aside0 (Tells g caps p F) := Aside0.mk hp
  have HF0 : Aside0 (Sees F w) := Aside0.mk hF
  have HC := Aside0.mk hC
  have hi : firstI p xs = -1 := by unfold firstI; rw [if_neg (by omega)]
  clear hp hF hC hn
  go_enter Try.func42, Try.ntmps42
  go_wp2_with (go_at_call 27; with_reducible refine (IndexFunc.calls (some ad) c xs g caps p F _ HC.out hc hm eg HP.out HF0.out).mono ?_; rw [hi]; rintro e w1 ⟨rfl, hb⟩; have HB := Aside0.mk hb; clear hb)
  go_ret
  exact ⟨rfl, HB.out⟩
theorem DeleteFunc.nil_ (g : Nat) (caps : Array Value) (p : S27 → Bool) (F : List (Nat × Obj)) (w : World) (eg : ∀ args w, (callFunc g args).run Try.prog w = .ok (.enter g args) w) (hp : Tells g caps p F) (hF : Sees F w) :
    Calls Try.prog 42 #[.slice none 0 0, .func (.func g) #[] caps] w fun e w' => e = .returned (.slice none 0 0) ∧ Below w.heap.size w w' := by
  have HP : Aside0 (Tells g caps p F) := Aside0.mk hp
  have HF0 : Aside0 (Sees F w) := Aside0.mk hF
  have HC : Aside0 (Kd.C k27 w none ([] : List S27).length []) := ⟨(Kd.R_reads' (Kd.R_nil k27 27 w 0 (fun _ => True))).2.2⟩
  have HI : Aside0 (∀ W, Sees F W → Kd.C k27 W none ([] : List S27).length [] → Calls Try.prog 27 #[.slice none 0 0, .func (.func g) #[] caps] W fun e w' => e = .returned (.int .i64 (-1)) ∧ Below W.heap.size W w') := ⟨fun W h1 h2 => IndexFunc.calls none 0 [] g caps p F W h2 (Nat.le_refl 0) (by decide) eg HP.out h1⟩
  have hi : firstI p [] = -1 := rfl
  clear hp hF
  go_enter Try.func42, Try.ntmps42
  go_wp2_with (go_at_call 27; with_reducible refine (HI.out _ HF0.out HC.out).mono ?_; rintro e w1 ⟨rfl, hb⟩; have HB := Aside0.mk hb; clear hb)
  go_ret
  exact ⟨rfl, HB.out⟩

set_option maxHeartbeats 8000000 in
set_option maxRecDepth 100000 in
theorem DeleteFunc.some_ (ad : Addr) (B gb c : Nat) (had : ad = ⟨gb, 0, none⟩) (xs : List S27) (cur0 : Array Value) (Tl : List Value) (g : Nat) (caps : Array Value) (p : S27 → Bool) (F : List (Nat × Obj)) (w : World) (hC : Kd.C k27 w (some ad) xs.length xs) (hG : w.heap[gb]? = some (.cells cur0 27 (0, 0))) (hcur : cur0.toList = flat27 xs ++ Tl) (hs : cur0.size = c * 5) (hBg : B ≤ gb) (hBw : B ≤ w.heap.size) (hc : xs.length ≤ c) (hm : xs.length < 9223372036854775807) (eg : ∀ args w, (callFunc g args).run Try.prog w = .ok (.enter g args) w) (hp : Tells g caps p F) (hF : Sees F w) (hFg : ∀ q ∈ F, q.1 ≠ gb) (hn : firstAt p xs < xs.length) :
    Calls Try.prog 42 #[.slice (some ad) xs.length c, .func (.func g) #[] caps] w fun e w' => ∃ (i : Nat) (cur : Array Value), e = .returned (.slice (some ad) i c) ∧ w'.heap[gb]? = some (.cells cur 27 (0, 0)) ∧ cur.size = c * 5 ∧ i = (xs.filter (fun x => !p x)).length ∧ cur.toList.take (i * 5) = flat27 (xs.filter (fun x => !p x)) ∧ Below B w w' ∧ (∀ k, k < w.heap.size → k ≠ gb → w'.heap[k]? = w.heap[k]?) := by
  have HP : Aside0 (Tells g caps p F) := Aside0.mk hp
  have HF0 : Aside0 (Sees F w) := Aside0.mk hF
  have HC := Aside0.mk hC
  have HG0 := Aside0.mk hG
  have HAD := Aside0.mk had
  have HN := Aside0.mk hn
  have HCUR := Aside0.mk hcur
  have HS := Aside0.mk hs
  have HBG := Aside0.mk hBg
  have HBW := Aside0.mk hBw
  have HFG : Aside0 (∀ q ∈ F, q.1 ≠ gb) := Aside0.mk hFg
  have HGL := Aside0.mk (blk_lt hG)
  have AN := Aside0.mk (firstAt_le p xs)
  obtain ⟨f, hf⟩ : ∃ f, f = firstAt p xs := ⟨_, rfl⟩
  have HFE := Aside0.mk hf
  have hi : firstI p xs = (f : Int) := by unfold firstI; rw [if_pos hn, hf]
  have hfl : f < xs.length := by omega
  have z1 : ((f : Int) == -1) = false := beq_false_of_ne (by omega)
  have z2 : wrap64 ((f : Int) + 1) = (f : Int) + 1 := wrap_ok (by omega) (by omega)
  clear hp hF hC hG had hn hcur hs hBg hBw hFg hf
  go_enter Try.func42, Try.ntmps42
  go_wp2_with (go_at_call 27; with_reducible refine (IndexFunc.calls (some ad) c xs g caps p F _ HC.out hc hm eg HP.out HF0.out).mono ?_; rw [hi]; rintro e w1 ⟨rfl, hb⟩; have HB := Aside0.mk (below_size' HBW.out hb); have HKP : Aside0 (∀ k, k < w.heap.size → k ≠ gb → w1.heap[k]? = w.heap[k]?) := ⟨fun k hk _ => hb.block k hk⟩; have HSZ := Aside0.mk hb.size; have HG := Aside0.mk (blk_below HG0.out hb); have HF := Aside0.mk (HF0.out.below hb); clear hb)
  clear z1 z2
  go_loopw [5, 6] (fun v5 v6 w' => ∃ (i j : Nat) (cur : Array Value), j ≤ xs.length ∧ v5 = .int .i64 i ∧ v6 = .int .i64 j ∧ Aside0 (DF p xs Tl i j cur) ∧ Aside0 (w'.heap[gb]? = some (.cells cur 27 (0, 0))) ∧ Aside0 (cur.size = c * 5) ∧ Aside0 (Sees F w') ∧ Aside0 (Below B w w') ∧ Aside0 (∀ k, k < w.heap.size → k ≠ gb → w'.heap[k]? = w.heap[k]?) ∧ Aside0 (w.heap.size ≤ w'.heap.size)) (fun v5 v6 _ => xs.length - (intOf v6).toNat)
  case atStart => exact ⟨f, f + 1, cur0, by omega, rfl, by first | rfl | simp, ⟨by rw [HFE.out]; exact DF.start HN.out HCUR.out⟩, HG, HS, HF, HB, HKP, HSZ⟩
  case round =>
    clear HB HG HF HSZ HKP
    obtain ⟨i, j, cur, hj, rfl, rfl, HD, HG, HCS, HF, HB, HKP, HSZ⟩ := hrel
    by_cases hlt : j < xs.length
    · have i1 : (0 : Int) ≤ (j : Int) := by omega
      have i2 : (j : Int) < (xs.length : Int) := by omega
      have hij := HD.out.2.1
      have i3 : (0 : Int) ≤ (i : Int) := by omega
      have i4 : (i : Int) < (xs.length : Int) := by omega
      have w5 : wrap64 ((i : Int) + 1) = (i : Int) + 1 := wrap_ok (by omega) (by omega)
      have w6 : wrap64 ((j : Int) + 1) = (j : Int) + 1 := wrap_ok (by omega) (by omega)
      obtain ⟨x, hx⟩ : ∃ x, x = xs[j] := ⟨_, rfl⟩
      have HX := Aside0.mk hx
      have hcell : ∀ (k : Nat) (u : Value), (cell5 xs[j])[k]? = some u → k < 5 → wr.cell? ⟨gb, j * 5 + k, none⟩ = some u := fun k u hu hk => by
        rw [blk_cell HG.out, HD.out.at_ hlt k hk, hu]
      rw [← hx] at hcell
      have x0 : wr.cell? (ad.add (j * 5)) = some (.int .u8 x.f0) := by rw [HAD.out, add_g]; exact hcell 0 _ rfl (by decide)
      have x1 : wr.cell? ⟨(ad.add (j * 5)).block, (ad.add (j * 5)).off + 1, none⟩ = some (.int .u64 x.f1) := by rw [HAD.out, add_g]; exact hcell 1 _ rfl (by decide)
      have x2 : wr.cell? ⟨(ad.add (j * 5)).block, (ad.add (j * 5)).off + 2, none⟩ = some (.int .i64 x.f2) := by rw [HAD.out, add_g]; exact hcell 2 _ rfl (by decide)
      have x3 : wr.cell? ⟨(ad.add (j * 5)).block, (ad.add (j * 5)).off + 3, none⟩ = some (.bool x.f3) := by rw [HAD.out, add_g]; exact hcell 3 _ rfl (by decide)
      have x4 : wr.cell? ⟨(ad.add (j * 5)).block, (ad.add (j * 5)).off + 4, none⟩ = some (.int .u64 x.f4) := by rw [HAD.out, add_g]; exact hcell 4 _ rfl (by decide)
      obtain ⟨px, hpx⟩ : ∃ px, p x = px := ⟨_, rfl⟩
      have PX := Aside0.mk hpx
      clear hpx hcell hx
      go_upto_region 8 with fail
      have HW0 := Aside0.mk (below_alloc (Below.refl wr.heap.size wr) (.cells #[.int .u8 x.f0, .int .u64 x.f1, .int .i64 x.f2, .bool x.f3, .int .u64 x.f4] 27 (0, 0)))
      have BKv := Aside0.mk (blk_new wr (.cells #[.int .u8 x.f0, .int .u64 x.f1, .int .i64 x.f2, .bool x.f3, .int .u64 x.f4] 27 (0, 0)))
      obtain ⟨gv, hgv⟩ : ∃ gv, gv = wr.heap.size := ⟨_, rfl⟩
      have GV : Aside0 (gv ≠ gb) := ⟨by have h1 := HGL.out; have h2 := HSZ.out; omega⟩
      rw [← hgv]
      rw [← hgv] at BKv
      generalize World.alloc wr _ = W at HW0 BKv ⊢
      have GVL := Aside0.mk (blk_lt BKv.out)
      have n1 := Aside0.mk (blk_below HG.out HW0.out)
      have n2 := Aside0.mk (HF.out.below HW0.out)
      have n3 := Aside0.mk (bstep HB.out (Nat.le_trans HBW.out HSZ.out) HW0.out)
      have n4 : Aside0 (∀ k, k < w.heap.size → k ≠ gb → W.heap[k]? = w.heap[k]?) := ⟨fun k hk hne => (HW0.out.block k (Nat.lt_of_lt_of_le hk HSZ.out)).trans (HKP.out k hk hne)⟩
      have n5 := Aside0.mk (Nat.le_trans HSZ.out HW0.out.size)
      clear HG HF HB HKP HSZ HW0 hgv x0 x1 x2 x3 x4
      have HG := n1; have HF := n2; have HB := n3; have HKP := n4; have HSZ := n5
      clear n1 n2 n3 n4 n5
      have v0 : W.cell? ⟨gv, 0, none⟩ = some (.int .u8 x.f0) := (blk_cell BKv.out 0).trans rfl
      have v1 : W.cell? ⟨gv, 1, none⟩ = some (.int .u64 x.f1) := (blk_cell BKv.out 1).trans rfl
      have v2 : W.cell? ⟨gv, 2, none⟩ = some (.int .i64 x.f2) := (blk_cell BKv.out 2).trans rfl
      have v3 : W.cell? ⟨gv, 3, none⟩ = some (.bool x.f3) := (blk_cell BKv.out 3).trans rfl
      have v4 : W.cell? ⟨gv, 4, none⟩ = some (.int .u64 x.f4) := (blk_cell BKv.out 4).trans rfl
      cases px
      · have SZ5 : Aside0 ((Try.prog.info? 27).map (·.size) = some ([.int .u8 x.f0, .int .u64 x.f1, .int .i64 x.f2, .bool x.f3, .int .u64 x.f4] : List Value).length) := ⟨size27⟩
        have ON5 : Aside0 (∀ v ∈ ([.int .u8 x.f0, .int .u64 x.f1, .int .i64 x.f2, .bool x.f3, .int .u64 x.f4] : List Value), v.oneCell' = true) := ⟨cell5_one x⟩
        have HFIT : Aside0 (i * 5 + ([.int .u8 x.f0, .int .u64 x.f1, .int .i64 x.f2, .bool x.f3, .int .u64 x.f4] : List Value).length ≤ cur.size) := ⟨by rw [HCS.out]; show i * 5 + 5 ≤ _; have := hc; omega⟩
        go_wp2_with (first
          | (go_at_fn g; with_reducible refine (HP.out.at _ _ HF.out).mono ?_; rw [PX.out]; rintro e w2 ⟨rfl, hb⟩; have n0 := Aside0.mk (blk_below BKv.out hb); have n1 := Aside0.mk (blk_below HG.out hb); have n2 := Aside0.mk (HF.out.below hb); have n3 := Aside0.mk (bstep HB.out (Nat.le_trans HBW.out HSZ.out) hb); have n4 : Aside0 (∀ k, k < w.heap.size → k ≠ gb → w2.heap[k]? = w.heap[k]?) := ⟨fun k hk hne => (hb.block k (Nat.lt_of_lt_of_le hk HSZ.out)).trans (HKP.out k hk hne)⟩; have n5 := Aside0.mk (Nat.le_trans HSZ.out hb.size); clear BKv HG HF HB HKP HSZ hb v0 v1 v2 v3 v4; have BKv := n0; have HG := n1; have HF := n2; have HB := n3; have HKP := n4; have HSZ := n5; clear n0 n1 n2 n3 n4 n5; have v0 : w2.cell? ⟨gv, 0, none⟩ = some (.int .u8 x.f0) := (blk_cell BKv.out 0).trans rfl; have v1 : w2.cell? ⟨gv, 1, none⟩ = some (.int .u64 x.f1) := (blk_cell BKv.out 1).trans rfl; have v2 : w2.cell? ⟨gv, 2, none⟩ = some (.int .i64 x.f2) := (blk_cell BKv.out 2).trans rfl; have v3 : w2.cell? ⟨gv, 3, none⟩ = some (.bool x.f3) := (blk_cell BKv.out 3).trans rfl; have v4 : w2.cell? ⟨gv, 4, none⟩ = some (.int .u64 x.f4) := (blk_cell BKv.out 4).trans rfl)
          | (refine wpList_store_el rfl 27 (.tmp 33) (.tmp 32) rfl ad gb (i * 5) rfl HAD.out [.int .u8 x.f0, .int .u64 x.f1, .int .i64 x.f2, .bool x.f3, .int .u64 x.f4] rfl SZ5.out ON5.out cur 27 HG.out HFIT.out B HB.out HBG.out ?_; intro w3 h1 h2 h3 h4; have G3 := Aside0.mk h1; have K3 := Aside0.mk h2.out; have B3 := Aside0.mk h3; have S3 := Aside0.mk h4; clear h1 h2 h3 h4))
        go_roundw
        case rel => exact ⟨i + 1, j + 1, _, by omega, by first | rfl | simp, by first | rfl | simp, ⟨by have hx := HX.out; subst hx; exact HD.out.keep hlt PX.out⟩, G3, ⟨by rw [← HCS.out]; exact spl_size _ _ _ HFIT.out⟩, ⟨HF.out.kept fun q hq => K3.out q.1 (HFG.out q hq)⟩, B3, ⟨fun k hk hne => (K3.out k hne).trans (HKP.out k hk hne)⟩, ⟨by rw [S3.out]; exact HSZ.out⟩⟩
        case measure => simp [intOf]; omega
      · go_wp2_with (go_at_fn g; with_reducible refine (HP.out.at _ _ HF.out).mono ?_; rw [PX.out]; rintro e w2 ⟨rfl, hb⟩; have n0 := Aside0.mk (blk_below BKv.out hb); have n1 := Aside0.mk (blk_below HG.out hb); have n2 := Aside0.mk (HF.out.below hb); have n3 := Aside0.mk (bstep HB.out (Nat.le_trans HBW.out HSZ.out) hb); have n4 : Aside0 (∀ k, k < w.heap.size → k ≠ gb → w2.heap[k]? = w.heap[k]?) := ⟨fun k hk hne => (hb.block k (Nat.lt_of_lt_of_le hk HSZ.out)).trans (HKP.out k hk hne)⟩; have n5 := Aside0.mk (Nat.le_trans HSZ.out hb.size); clear BKv HG HF HB HKP HSZ hb v0 v1 v2 v3 v4; have BKv := n0; have HG := n1; have HF := n2; have HB := n3; have HKP := n4; have HSZ := n5; clear n0 n1 n2 n3 n4 n5; have v0 : w2.cell? ⟨gv, 0, none⟩ = some (.int .u8 x.f0) := (blk_cell BKv.out 0).trans rfl; have v1 : w2.cell? ⟨gv, 1, none⟩ = some (.int .u64 x.f1) := (blk_cell BKv.out 1).trans rfl; have v2 : w2.cell? ⟨gv, 2, none⟩ = some (.int .i64 x.f2) := (blk_cell BKv.out 2).trans rfl; have v3 : w2.cell? ⟨gv, 3, none⟩ = some (.bool x.f3) := (blk_cell BKv.out 3).trans rfl; have v4 : w2.cell? ⟨gv, 4, none⟩ = some (.int .u64 x.f4) := (blk_cell BKv.out 4).trans rfl)
        go_roundw
        case rel => exact ⟨i, j + 1, cur, by omega, rfl, by first | rfl | simp, ⟨by have hx := HX.out; subst hx; exact HD.out.skip hlt PX.out⟩, HG, HCS, HF, HB, HKP, HSZ⟩
        case measure => simp [intOf]; omega
    · obtain rfl : j = xs.length := by omega
      have hij := HD.out.2.1
      have hS1 := sl27 HAD.out xs.length c i hij hc
      have hS2 := sh27 ad xs.length c i (by omega)
      obtain ⟨Z, hZ⟩ : ∃ Z, (Builtin.zeroCells (Value.agg #[.int .u8 0, .int .u64 0, .int .i64 0, .bool false, .int .u64 0]).cells (xs.length - i)).toList = Z := ⟨_, rfl⟩
      have hZl : Z.length = (xs.length - i) * 5 := by rw [← hZ, Array.length_toList]; exact (zeros27 _).1
      have hZ1 : ∀ v ∈ Z, v.oneCell' = true := by rw [← hZ]; exact (zeros27 _).2
      have HFIT : Aside0 (i * 5 + Z.length ≤ cur.size) := ⟨by have hs := HCS.out; omega⟩
      have hcl : ∀ ty c', (Builtin.clear_ #[35] ty #[.slice (some ⟨gb, i * 5, none⟩) (xs.length - i) c']).run Try.prog wr = .ok (.tuple #[]) (wr.setRow gb (spl cur (i * 5) Z)) := fun ty c' =>
        run_clear_row wr 35 ty 27 gb (i * 5) (xs.length - i) c' cur 27 _ Z Try.underlying35 zval27 hZ HG.out HFIT.out hZ1 (by omega)
      have HFIN := Aside0.mk (HD.out.fin Z)
      clear hZ hZl hZ1
      go_wp2
      go_ret
      exact ⟨i, spl cur (i * 5) Z, rfl, setRow_heap wr gb cur _ 27 (0, 0) HG.out, by rw [spl_size _ _ _ HFIT.out]; exact HCS.out, HFIN.out.2, HFIN.out.1, below_setRow HB.out HBG.out _, fun k hk hne => (setRow_other wr gb k _ hne).trans (HKP.out k hk hne)⟩
end
section
open Go.RowKit Go.Shelf Go.Proofs.YtfhopjigdkjnoaaW.PrintWords Go.Proofs.YtfhopjigdkjnoaaW.PrintLast Go.Proofs.YtfhopjigdkjnoaaW.PrintMore
set_option linter.unusedVariables false
set_option linter.unusedSimpArgs false


theorem firstAt_none {p : S27 → Bool} : ∀ {xs : List S27}, firstAt p xs = xs.length → xs.filter (fun x => !p x) = xs
  | [], _ => rfl
  | x :: r, h => by
    unfold firstAt at h
    by_cases hx : p x = true
    · rw [if_pos hx] at h; simp at h
    · rw [if_neg hx] at h
      rw [List.filter_cons, if_pos (by simp [hx]), firstAt_none (by simpa using h)]
theorem DeleteFunc.calls (B : Nat) (v : Value) (xs : List S27) (g : Nat) (caps : Array Value) (p : S27 → Bool) (F : List (Nat × Obj)) (w : World) (h : Row27 w B v xs) (hn : xs.length ≤ 1000000) (hBw : B ≤ w.heap.size) (eg : ∀ args w, (callFunc g args).run Try.prog w = .ok (.enter g args) w) (hp : Tells g caps p F) (hF : Sees F w) (hFg : ∀ q ∈ F, some q.1 ≠ v.ownBlock) :
    Calls Try.prog 42 #[v, .func (.func g) #[] caps] w fun e w' => ∃ v', e = .returned v' ∧ Row27 w' B v' (xs.filter (fun x => !p x)) ∧ v'.ownBlock = v.ownBlock ∧ Below B w w' ∧ (∀ k, k < w.heap.size → some k ≠ v.ownBlock → w'.heap[k]? = w.heap[k]?) := by
  have h0 := h
  obtain ⟨_, ⟨rfl, hl⟩ | ⟨gb, c, cur, rfl, h2, h3, h4, h5, h6, h7⟩⟩ := h
  · obtain rfl : xs = [] := List.eq_nil_of_length_eq_zero hl
    refine (DeleteFunc.nil_ g caps p F w eg hp hF).mono ?_
    rintro e w' ⟨rfl, hb⟩
    exact ⟨_, rfl, ⟨rfl, .inl ⟨rfl, rfl⟩⟩, rfl, Below.mono hb hBw, fun k hk _ => hb.block k hk⟩
  · obtain ⟨A, c', e, hc', hC⟩ := h0.slice
    injection e with e1 _ e3
    subst e1 e3
    by_cases hf : firstAt p xs < xs.length
    · have hcl : cur.toList = flat27 xs ++ cur.toList.drop (xs.length * 5) := by rw [← h7]; exact (List.take_append_drop _ _).symm
      refine (DeleteFunc.some_ ⟨gb, 0, none⟩ B gb c rfl xs cur _ g caps p F w hC h3 hcl h6 h2 hBw h4 (by omega) eg hp hF (fun q hq e => hFg q hq (by rw [e]; rfl)) hf).mono ?_
      rintro e w' ⟨i, cur', rfl, i1, i2, i3, i4, i5, i6⟩
      have hfl : (xs.filter (fun x => !p x)).length ≤ xs.length := List.length_filter_le _ _
      refine ⟨_, rfl, ?_, rfl, i5, fun k hk hne => i6 k hk (fun e => hne (by rw [e]; rfl))⟩
      rw [i3] at i4 ⊢
      exact Row27.of h2 i1 (Nat.le_trans hfl h4) h5 i2 i4
    · have hfe : firstAt p xs = xs.length := Nat.le_antisymm (firstAt_le p xs) (by omega)
      refine (DeleteFunc.none_ ⟨gb, 0, none⟩ c xs g caps p F w hC h4 (by omega) eg hp hF hfe).mono ?_
      rintro e w' ⟨rfl, hb⟩
      rw [firstAt_none hfe]
      exact ⟨_, rfl, h0.below hb, rfl, Below.mono hb hBw, fun k hk _ => hb.block k hk⟩
theorem step_append_runI {P : Program} {ops : Array Oper} {o : Oper} {a : Act} {w : World} {K : Act → World → Prop} {Q : Exit → Act → World → Prop} {E : Prop}
    (hg : o.guard = none) (d x : Operand) (dT sT : TypeId) (hop : o.op = Op.call { callee := Callee.builtin Builtin.append, args := #[d, x], argTypes := #[dT, sT] })
    (v u : Value) (hd : a.eval d = v) (hx : a.eval x = u) {v' : Value} {w' : World} (hr : (Builtin.append_ #[dT, sT] o.type #[v, u]).run P w = .ok v' w') (hK : K (a.put o.dst v') w') :
    if Region.wanted o (yielded ops a.tmps) = true then Oper.wp P o a w K Q else E := by
  have hw : Region.wanted o (yielded ops a.tmps) = true := by simp [Region.wanted, hg]
  rw [if_pos hw]
  unfold Oper.wp
  simp [execOp, hop, resolve, invoke, builtin, hd, hx, hr, Result.andThen]
  exact hK
theorem run_clear_one {P : Program} (w : World) (t ty e : TypeId) (g o c : Nat) (cur : Array Value) (bt : TypeId) (z : Value) (zs : List Value) (ht : P.underlying t = some (.slice e)) (hv : ∀ w, (zeroValue e).run P w = .ok z w) (hz : (Builtin.zeroCells z.cells 1).toList = zs)
    (hg : w.heap[g]? = some (.cells cur bt (0, 0))) (hfit : o + zs.length ≤ cur.size) (h1 : ∀ v ∈ zs, v.oneCell' = true) :
    (Builtin.clear_ #[t] ty #[.slice (some ⟨g, o, none⟩) 1 c]).run P w = .ok (.tuple #[]) (w.setRow g (cur.toList.take o ++ zs ++ cur.toList.drop (o + zs.length)).toArray) := by
  have hst := run_storeCells_at P g o bt zs 0 cur w hg (by simpa using hfit) h1
  simp only [Nat.add_zero] at hst
  simp [Builtin.clear_, run_underlying ht, hv, hz, hst]
def zed : List Value := [.int .u8 0, .int .u64 0, .int .i64 0, .bool false, .int .u64 0]
theorem zed_len : zed.length = 5 := rfl
theorem zed_eq : (Builtin.zeroCells (Value.agg #[.int .u8 0, .int .u64 0, .int .i64 0, .bool false, .int .u64 0]).cells 1).toList = zed := by simp [Builtin.zeroCells, Value.cells, zed, List.range_succ]
theorem zed_one : ∀ v ∈ zed, v.oneCell' = true := by
  intro v hv
  unfold zed at hv
  simp only [List.mem_cons, List.mem_nil_iff, or_false] at hv
  rcases hv with rfl | rfl | rfl | rfl | rfl <;> rfl
theorem cutT (g n c i : Nat) (h : i ≤ c) : ∀ W : World, (Instr.slice 35 (.slice (some ⟨g, 0, none⟩) n c) none (some (.int .i64 i)) none).run Try.prog W = .ok (.slice (some ⟨g, 0, none⟩) i c) W := fun W => sh27 ⟨g, 0, none⟩ n c i h W
/-- the cells of a row with an address, empty or not -/
theorem Row27.block {w : World} {B g n cap : Nat} {xs : List S27} (h : Row27 w B (.slice (some ⟨g, 0, none⟩) n cap) xs) : n = xs.length ∧ ∃ cur : Array Value, B ≤ g ∧ w.heap[g]? = some (.cells cur 27 (0, 0)) ∧ xs.length ≤ cap ∧ cap ≤ maxLen ∧ cur.size = cap * 5 ∧ cur.toList.take (xs.length * 5) = flat27 xs := by
  obtain ⟨_, ⟨hv, h0⟩ | ⟨g', cap', cur, h1, h2, h3, h4, h5, h6, h7⟩⟩ := h
  · cases hv
  · injection h1 with e1 e2 e3
    injection e1 with e1
    injection e1 with e1
    subst e1; subst e3
    exact ⟨e2, cur, h2, h3, h4, h5, h6, h7⟩
theorem Delete.fin (B g cap i : Nat) (cur1 : Array Value) (xs : List S27) (w1 : World) (hB : B ≤ g) (h1 : w1.heap[g]? = some (.cells cur1 27 (0, 0))) (h2 : xs.length - 1 ≤ cap) (h3 : cap ≤ maxLen) (h4 : cur1.size = cap * 5) (h5 : xs.length ≤ cap) (h6 : cur1.toList.take ((xs.length - 1) * 5) = flat27 (xs.eraseIdx i)) (hz : (xs.eraseIdx i).length = xs.length - 1) (hp : 0 < xs.length) :
    Row27 (w1.setRow g (cur1.toList.take ((xs.length - 1) * 5) ++ zed ++ cur1.toList.drop ((xs.length - 1) * 5 + zed.length)).toArray) B (.slice (some ⟨g, 0, none⟩) (xs.length - 1) cap) (xs.eraseIdx i) := by
  have hc : cur1.toList.length = cap * 5 := h4
  rw [← hz]
  refine Row27.of hB (setRow_heap w1 g cur1 _ 27 (0, 0) h1) (by rw [hz]; exact h2) h3 ?_ ?_
  · rw [List.size_toArray, List.length_append, List.length_append, List.length_take, List.length_drop, zed_len, hc, hz]
    omega
  · show (cur1.toList.take ((xs.eraseIdx i).length * 5) ++ zed ++ cur1.toList.drop ((xs.eraseIdx i).length * 5 + zed.length)).take _ = _
    rw [hz, h6, List.append_assoc]
    exact List.take_left' (by rw [flat27_len, hz])

set_option maxHeartbeats 8000000 in
set_option maxRecDepth 100000 in
theorem Delete.calls (B g cap i : Nat) (xs : List S27) (w : World) (hR : Row27 w B (.slice (some ⟨g, 0, none⟩) xs.length cap) xs) (hi : i < xs.length) (hB : B ≤ w.heap.size) :
    Calls Try.prog 41 #[.slice (some ⟨g, 0, none⟩) xs.length cap, .int .i64 i, .int .i64 ((i : Int) + 1)] w fun e w' => e = .returned (.slice (some ⟨g, 0, none⟩) (xs.length - 1) cap) ∧ Row27 w' B (.slice (some ⟨g, 0, none⟩) (xs.length - 1) cap) (xs.eraseIdx i) ∧ Below B w w' ∧ (∀ k, k < w.heap.size → k ≠ g → w'.heap[k]? = w.heap[k]?) := by
  obtain ⟨_, cur, hBg, hh, hn, hm, hs, ht⟩ := hR.block
  have hm' : cap ≤ 9223372036854775807 := hm
  have ar1 : (xs.length - 1) * 5 + 5 ≤ cap * 5 := by omega
  have ar2 : xs.length - 1 ≤ cap := by omega
  have ar3 : ¬ ((i : Int) = (i : Int) + 1) := by omega
  have ar4 : i + (xs.length - (i + 1)) = xs.length - 1 := by omega
  have AR5 : Aside0 (wrap64 ((i : Int) + 1) = (i : Int) + 1) := ⟨by unfold wrap64; omega⟩
  obtain ⟨i0, hi0, hz⟩ := Option.map_eq_some_iff.1 size27
  have hS : ∃ u, ∀ W : World, (Instr.slice 35 (.slice (some ⟨g, 0, none⟩) xs.length cap) (some (.int .i64 i)) (some (.int .i64 ((i : Int) + 1))) (some (.int .i64 xs.length))).run Try.prog W = .ok u W := by
    have hel : Try.prog.elem 35 = 27 := by simp [Program.elem, Try.underlying35]
    have hu : Try.prog.underlying 35 = some (.slice (Try.prog.elem 35)) := by rw [hel]; exact Try.underlying35
    refine ⟨sliced (some ⟨g, 0, none⟩) (i : Int).toNat ((i : Int) + 1).toNat (xs.length : Int).toNat 5, fun W => ?_⟩
    rw [run_slice_lhm W 35 (some ⟨g, 0, none⟩) xs.length cap hu .i64 .i64 .i64 (i : Int) ((i : Int) + 1) xs.length (by omega) (by omega) (by omega) (by omega), hel]
    simp [sizeOf, typeInfo, hi0, hz, Result.andThen]
  obtain ⟨u, hS⟩ := hS
  have hT := cutT g xs.length cap i (by omega)
  obtain ⟨A, hA, hF⟩ : ∃ A, A = (if cap = i + 1 then some (⟨g, 0, none⟩ : Addr) else (some (⟨g, 0, none⟩ : Addr)).map (·.add ((i + 1) * k27.sz))) ∧ ∀ W : World, (Instr.slice 35 (.slice (some ⟨g, 0, none⟩) xs.length cap) (some (.int .i64 ((i : Int) + 1))) none none).run Try.prog W = .ok (.slice A (xs.length - (i + 1)) (cap - (i + 1))) W := ⟨_, rfl, fun W => by
    have := cut_from (P := Try.prog) 35 27 .i64 Try.underlying35 hi0 5 hz (some ⟨g, 0, none⟩) xs.length cap ((i : Int) + 1) (by omega) (by omega) W
    rw [show ((i : Int) + 1).toNat = i + 1 by omega] at this
    exact this⟩
  have hM : ∀ W : World, (Instr.slice 35 (.slice (some ⟨g, 0, none⟩) (xs.length - 1) cap) (some (.int .i64 ((xs.length - 1 : Nat) : Int))) (some (.int .i64 xs.length)) none).run Try.prog W = .ok (.slice (some ⟨g, (xs.length - 1) * 5, none⟩) 1 (cap - (xs.length - 1))) W := fun W => by
    have hel : Try.prog.elem 35 = 27 := by simp [Program.elem, Try.underlying35]
    have hu : Try.prog.underlying 35 = some (.slice (Try.prog.elem 35)) := by rw [hel]; exact Try.underlying35
    rw [run_slice_lh W 35 (some ⟨g, 0, none⟩) (xs.length - 1) cap hu .i64 .i64 ((xs.length - 1 : Nat) : Int) xs.length (by omega) (by omega) (by omega), hel]
    simp only [sizeOf, typeInfo, hi0, hz, sliced, Result.andThen, Int.toNat_natCast, Sem.run_bind, Sem.run_pure, Sem.run_map]
    simp only [if_neg (show ¬ cap = xs.length - 1 by omega), show xs.length - (xs.length - 1) = 1 by omega]
    have ha := add_g g ((xs.length - 1) * 5)
    simp [ha, hi0, hz]
  have HRR : Aside0 (Kd.R k27 27 w.drew B (fun _ => True) (.slice (some ⟨g, 0, none⟩) xs.length cap) xs) := ⟨Kd.R_drew hR.toR⟩
  obtain ⟨w1, hrun, hr1, hg1⟩ := Kd.R_delete_run (P := Try.prog) k27 B 35 35 27 i0 Try.underlying35 hi0 hz HRR.out hi hA (cap - (i + 1))
  have hb1 : Below B w w1 := (below_drew (Below.refl B w)).grown hg1 hB (fun k e => by injection e with e; subst e; exact hBg)
  obtain ⟨ju1, cur1, ju2, hh1, hn1, ju3, hs1, ht1⟩ := (Row27.ofR hr1).block
  have hcl : ∀ ty c, (Builtin.clear_ #[35] ty #[.slice (some ⟨g, (xs.length - 1) * 5, none⟩) 1 c]).run Try.prog w1 = .ok (.tuple #[]) (w1.setRow g (cur1.toList.take ((xs.length - 1) * 5) ++ zed ++ cur1.toList.drop ((xs.length - 1) * 5 + zed.length)).toArray) := fun ty c =>
    run_clear_one w1 35 ty 27 g _ c cur1 27 _ zed Try.underlying35 zval27 zed_eq hh1 (by rw [zed_len, hs1]; exact ar1) zed_one
  have z2 : ¬ ((i : Int) = (i : Int) + 1) := by omega
  have z3 : xs.length - 1 + 1 = xs.length := by omega
  have z4 : (xs.eraseIdx i).length = xs.length - 1 := by rw [List.length_eraseIdx_of_lt hi]
  have HR1 := Aside0.mk hr1
  have HG1 := Aside0.mk hg1
  have HB1 := Aside0.mk hb1
  have HZ4 := Aside0.mk z4
  have HBg := Aside0.mk hBg
  have FIN : Aside0 (w1.heap[g]? = some (.cells cur1 27 (0, 0)) ∧ xs.length - 1 ≤ cap ∧ cap ≤ maxLen ∧ cur1.size = cap * 5 ∧ xs.length ≤ cap ∧ cur1.toList.take ((xs.length - 1) * 5) = flat27 (xs.eraseIdx i)) := ⟨hh1, ar2, hm, hs1, hn, by rw [← z4]; exact ht1⟩
  clear hR hh ht hs hA z4 hBg hz hm hm' hh1 hn1 hs1 ht1 hr1 hg1 hb1 HRR hi0 ju1 ju2 ju3
  have ar5 := AR5.out
  clear AR5
  go_enter Try.func41, Try.ntmps41
  go_wp2_with fail
  go_region_law (refine step_append_runI rfl _ _ 35 35 rfl _ _ (by simp [Act.eval, Act.put]) (by simp [Act.eval, Act.put]) hrun ?_)
  go_wp2
  go_ret
  obtain ⟨h1, h2, h3, h4, h5, h6⟩ := FIN.out
  have hg2 := HG1.out
  refine ⟨rfl, ?_, below_setRow HB1.out HBg.out _, fun k hk hne => ?_⟩
  · have fin := Delete.fin B g cap i cur1 xs w1 HBg.out h1 h2 h3 h4 h5 h6 HZ4.out (Nat.lt_of_le_of_lt (Nat.zero_le _) hi)
    rw [List.append_assoc] at fin
    exact fin
  · exact (setRow_other w1 g k _ hne).trans (hg2.block k hk (fun e => hne (by injection e)))
end
section
open Go.RowKit Go.Shelf Go.Proofs.YtfhopjigdkjnoaaW.PrintWords Go.Proofs.YtfhopjigdkjnoaaW.PrintLast Go.Proofs.YtfhopjigdkjnoaaW.PrintMore
set_option linter.unusedVariables false
set_option linter.unusedSimpArgs false

/-- an event, without a configuration -/
structure SE where
  k : Int
  t : Int
  i : Int
  p : Int
  a : Int
  b : Int
  at_ : Int
def zcf : List Value := [.slice none 0 0, .int .u8 0, .int .i64 0, .bool false, .int .i64 0, .int .i64 0, .int .i64 0, .int .i64 0, .int .i64 0, .int .i64 0, .int .u64 0, .int .u64 0, .int .u64 0, .int .u64 0, .int .u64 0, .int .u64 0, .bool false, .int .i64 0, .slice none 0 0, .slice none 0 0]
def rowL (e : SE) : List Value := .int .u8 e.k :: .int .u64 e.t :: .int .u64 e.i :: .int .i64 e.p :: .int .i64 e.a :: .int .i64 e.b :: .bool false :: .int .u64 e.at_ :: zcf
def row (e : SE) : Array Value := (rowL e).toArray
theorem row_size (e : SE) : (row e).size = 28 := rfl
theorem size45 : (Try.prog.info? 45).map (·.size) = some 28 := by kernel_rfl
theorem row_info (e : SE) : (Try.prog.info? 45).map (·.size) = some (row e).size := size45
theorem row_one (e : SE) : ∀ v ∈ rowL e, v.oneCell' = true := by
  intro v hv
  unfold rowL zcf at hv
  simp only [List.mem_cons, List.mem_nil_iff, or_false] at hv
  rcases hv with rfl | rfl | rfl | rfl | rfl | rfl | rfl | rfl | rfl | rfl | rfl | rfl | rfl | rfl | rfl | rfl | rfl | rfl | rfl | rfl | rfl | rfl | rfl | rfl | rfl | rfl | rfl | rfl <;> rfl
theorem row_all (e : SE) : (row e).all (·.oneCell') = true := all_oneCell_toArray (row_one e)
theorem zval45 (w : World) : (zeroValue 45).run Try.prog w = .ok (.agg (row ⟨0, 0, 0, 0, 0, 0, 0⟩)) w := by
  have h : (Try.prog.info? 45).map (·.zero) = some (some (.agg (row ⟨0, 0, 0, 0, 0, 0, 0⟩))) := by kernel_rfl
  obtain ⟨i0, hi, hz⟩ := Option.map_eq_some_iff.1 h
  simp [zeroValue, typeInfo, hi, hz]
theorem builtA (k i : Int) : Try.prog.built 45 [(0, .int .u8 k), (2, .int .u64 i)] = some (row ⟨k, 0, i, 0, 0, 0, 0⟩) := by kernel_rfl
theorem builtG (k t i : Int) : Try.prog.built 45 [(0, .int .u8 k), (1, .int .u64 t), (2, .int .u64 i)] = some (row ⟨k, t, i, 0, 0, 0, 0⟩) := by kernel_rfl
theorem builtR (k t : Int) : Try.prog.built 45 [(0, .int .u8 k), (1, .int .u64 t)] = some (row ⟨k, t, 0, 0, 0, 0, 0⟩) := by kernel_rfl
theorem builtN (k i at_ : Int) : Try.prog.built 45 [(0, .int .u8 k), (2, .int .u64 i), (7, .int .u64 at_)] = some (row ⟨k, 0, i, 0, 0, 0, at_⟩) := by kernel_rfl
theorem builtQ (k p a b : Int) : Try.prog.built 45 [(0, .int .u8 k), (3, .int .i64 p), (4, .int .i64 a), (5, .int .i64 b)] = some (row ⟨k, 0, 0, p, a, b, 0⟩) := by kernel_rfl
theorem evSlice_run (W : World) (e : SE) : (Instr.buildSlice 28 1 #[(0, .agg (row e))]).run Try.prog W = .ok (.slice (some ⟨W.heap.size, 0, none⟩) 1 1) (W.alloc (.cells (row e) 45)) := by
  have hsz : (Try.prog.info? 45).map (fun it => (it.size, it.zero.map (·.cells.size))) = some (28, some 28) := by kernel_rfl
  cases hit : Try.prog.info? 45 with
  | none => rw [hit] at hsz; cases hsz
  | some it =>
    cases hz : it.zero with
    | none => rw [hit] at hsz; simp [hz] at hsz
    | some z =>
      have h65 : it.size = 28 := by rw [hit] at hsz; simp [hz] at hsz; exact hsz.1
      refine run_buildSlice W 28 45 1 _ (row e) it z Try.underlying28 hit hz (by rw [h65]; decide) (by rw [h65]; decide) ?_
      rw [h65]
      have h := Great.fill_whole (s := 28) (by decide) [Value.agg (row e)] ((Array.range (1 * 28)).map (z.cells[· % z.cells.size]!)) (fun v hv => by rw [List.mem_singleton.1 hv]; exact row_size e) (by simp)
      have e' : ([Value.agg (row e)].flatMap fun v => v.cells.toList).toArray = row e := by
        simp only [List.flatMap_cons, List.flatMap_nil, List.append_nil]
        rfl
      rw [e'] at h
      exact h
section
variable {ops : Array Oper} {rest : List Oper} {o : Oper} {a : Act} {Q : Exit → Act → World → Prop}
theorem build_ev {w : World} (hgd : o.guard = none) (parts : Array (Nat × Operand)) (ho : o.op = .build 45 parts) (ps : List (Nat × Value)) (hm : (parts.map fun (i, x) => (i, a.eval x)).toList = ps) (e : SE) (hb : Try.prog.built 45 ps = some (row e))
    (h : wpList Try.prog ops Q rest (a.put o.dst (.agg (row e))) w) : wpList Try.prog ops Q (o :: rest) a w :=
  wpList_build hgd 45 parts ho (by rw [hm, hb]; rfl) (by rw [hm, hb]; exact h)
theorem evA {w : World} (hgd : o.guard = none) (k i : Int) {t : Tmp} (ho : o.op = .build 45 #[(0, .const (.int .u8 k)), (2, .tmp t)]) (h1 : a.eval (.tmp t) = .int .u64 i)
    (h : wpList Try.prog ops Q rest (a.put o.dst (.agg (row ⟨k, 0, i, 0, 0, 0, 0⟩))) w) : wpList Try.prog ops Q (o :: rest) a w :=
  build_ev hgd _ ho _ (by simp only [List.map_toArray, List.map_cons, List.map_nil]; rw [h1]; rfl) _ (builtA k i) h
theorem evG {w : World} (hgd : o.guard = none) (k v i : Int) {t u : Tmp} (ho : o.op = .build 45 #[(0, .const (.int .u8 k)), (1, .tmp t), (2, .tmp u)]) (h1 : a.eval (.tmp t) = .int .u64 v) (h2 : a.eval (.tmp u) = .int .u64 i)
    (h : wpList Try.prog ops Q rest (a.put o.dst (.agg (row ⟨k, v, i, 0, 0, 0, 0⟩))) w) : wpList Try.prog ops Q (o :: rest) a w :=
  build_ev hgd _ ho _ (by simp only [List.map_toArray, List.map_cons, List.map_nil]; rw [h1, h2]; rfl) _ (builtG k v i) h
theorem evR {w : World} (hgd : o.guard = none) (k v : Int) {t : Tmp} (ho : o.op = .build 45 #[(0, .const (.int .u8 k)), (1, .tmp t)]) (h1 : a.eval (.tmp t) = .int .u64 v)
    (h : wpList Try.prog ops Q rest (a.put o.dst (.agg (row ⟨k, v, 0, 0, 0, 0, 0⟩))) w) : wpList Try.prog ops Q (o :: rest) a w :=
  build_ev hgd _ ho _ (by simp only [List.map_toArray, List.map_cons, List.map_nil]; rw [h1]; rfl) _ (builtR k v) h
theorem evN_run {w : World} (k i v : Int) {t u : Tmp} (ho : o.op = .build 45 #[(0, .const (.int .u8 k)), (2, .tmp t), (7, .tmp u)]) (h1 : a.eval (.tmp t) = .int .u64 i) (h2 : a.eval (.tmp u) = .int .u64 v) : (execOp a.eval o).run Try.prog w = .ok (.value (.agg (row ⟨k, 0, i, 0, 0, 0, v⟩))) w := by
  unfold execOp
  have hm : #[((0 : Nat), Operand.const (.int .u8 k)), (2, .tmp t), (7, .tmp u)].map (fun (i, x) => (i, a.eval x)) = #[(0, .int .u8 k), (2, .int .u64 i), (7, .int .u64 v)] := by
    rw [← h1, ← h2]
    simp [Act.eval]
  simp only [ho, hm, Sem.run_bind, run_build w 45 #[(0, .int .u8 k), (2, .int .u64 i), (7, .int .u64 v)] (row ⟨k, 0, i, 0, 0, 0, v⟩) (builtN k i v), Result.andThen_ok, Sem.run_pure]
theorem evQ {w : World} (hgd : o.guard = none) (k p x y : Int) {t u v : Tmp} (ho : o.op = .build 45 #[(0, .const (.int .u8 k)), (3, .tmp t), (4, .tmp u), (5, .tmp v)]) (h1 : a.eval (.tmp t) = .int .i64 p) (h2 : a.eval (.tmp u) = .int .i64 x) (h3 : a.eval (.tmp v) = .int .i64 y)
    (h : wpList Try.prog ops Q rest (a.put o.dst (.agg (row ⟨k, 0, 0, p, x, y, 0⟩))) w) : wpList Try.prog ops Q (o :: rest) a w :=
  build_ev hgd _ ho _ (by simp only [List.map_toArray, List.map_cons, List.map_nil]; rw [h1, h2, h3]; rfl) _ (builtQ k p x y) h
theorem evS_run (e : SE) {t : Tmp} (ho : o.op = .buildSlice 28 1 #[(0, .tmp t)]) (hx : a.eval (.tmp t) = .agg (row e)) (W : World) : (execOp a.eval o).run Try.prog W = .ok (.value (.slice (some ⟨W.heap.size, 0, none⟩) 1 1)) (W.alloc (.cells (row e) 45 (0, 0))) := by
  unfold execOp
  have hm : #[((0 : Nat), Operand.tmp t)].map (fun (i, x) => (i, a.eval x)) = #[(0, .agg (row e))] := by
    rw [← hx]
    simp [Act.eval]
  simp only [ho, hm, Sem.run_bind, evSlice_run W e, Result.andThen_ok, Sem.run_pure]
end
/-- what is answered: nothing, or one event, in a block of its own -/
def Evs (w : World) (B : Nat) (v : Value) : Option SE → Prop
  | .none => v = .slice none 0 0
  | .some e => ∃ g, v = .slice (some ⟨g, 0, none⟩) 1 1 ∧ B ≤ g ∧ w.heap[g]? = some (.cells (row e) 45 (0, 0))
theorem Evs.below {w w' : World} {B : Nat} {v : Value} {o : Option SE} (h : Evs w B v o) (hb : Below w.heap.size w w') : Evs w' B v o := by
  cases o with
  | none => exact h
  | some e => obtain ⟨g, h1, h2, h3⟩ := h; exact ⟨g, h1, h2, blk_below h3 hb⟩
end
end Go.Proofs.Ytfhopjigdkjnoaa.GA
