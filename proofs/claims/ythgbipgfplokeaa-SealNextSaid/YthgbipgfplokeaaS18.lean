import Derived.Test.YthgbipgfplokeaaS17
import Derived.Deep.RegionHeld3
import Derived.Deep.MidRow
namespace Go.Proofs.Ythgbipgfplokeaa.GA
open Go.RowKit Go.Proofs.YthgbipgfplokeaaW.PrintWords Go.Proofs.YthgbipgfplokeaaW.PrintLast Go.Proofs.YthgbipgfplokeaaW.PrintMore
set_option linter.unusedVariables false
set_option linter.unusedSimpArgs false

theorem splice_cons (X ys : List Int) (o : Nat) (y : Int) (h : o + (ys.length + 1) ≤ X.length) : splice (X.set o y) (o + 1) ys = splice X o (y :: ys) := by
  unfold splice
  apply List.ext_getElem?
  intro j
  have e1 : (List.take (o + 1) (X.set o y)).length = o + 1 := by rw [List.length_take, List.length_set]; omega
  have e2 : (List.take o X).length = o := by rw [List.length_take]; omega
  by_cases h1 : j < o
  · rw [List.getElem?_append_left (by omega), List.getElem?_append_left (by omega), List.getElem?_take_of_lt (by omega), List.getElem?_take_of_lt h1, List.getElem?_set_ne (by omega)]
  · by_cases h2 : j = o
    · subst h2
      rw [List.getElem?_append_left (by omega), List.getElem?_append_right (by omega), List.getElem?_take_of_lt (by omega), e2, Nat.sub_self, List.getElem?_set_self (by omega)]
      rfl
    · rw [List.getElem?_append_right (show (List.take (o + 1) (X.set o y)).length ≤ j by omega), e1, List.getElem?_append_right (show (List.take o X).length ≤ j by omega), e2, show j - o = (j - (o + 1)) + 1 by omega]
      simp only [List.cons_append, List.getElem?_cons_succ, List.length_cons]
      by_cases h3 : j - (o + 1) < ys.length
      · rw [List.getElem?_append_left h3, List.getElem?_append_left h3]
      · rw [List.getElem?_append_right (by omega), List.getElem?_append_right (by omega), List.getElem?_drop, List.getElem?_drop, List.getElem?_set_ne (by omega)]
        congr 1
        omega
/-- bytes stored into a block that is known -/
theorem setCells_bc {g : Nat} {t : TypeId} : ∀ (ys : List Int) (o : Nat) (w : World) (X : List Int), w.heap[g]? = some (.cells (bcells X) t (0, 0)) → o + ys.length ≤ X.length →
    (w.setCells g o (encs (Value.int .u8) ys)).heap[g]? = some (.cells (bcells (splice X o ys)) t (0, 0)) ∧ (∀ k, k ≠ g → (w.setCells g o (encs (Value.int .u8) ys)).heap[k]? = w.heap[k]?) ∧ (∀ B w0, Below B w0 w → B ≤ g → Below B w0 (w.setCells g o (encs (Value.int .u8) ys)))
  | [], o, w, X, hg, hl => by
    refine ⟨?_, fun _ _ => rfl, fun _ _ h _ => h⟩
    show w.heap[g]? = _
    rw [hg]
    unfold splice
    simp
  | y :: ys, o, w, X, hg, hl => by
    have hl' : o + (ys.length + 1) ≤ X.length := hl
    have h1 := blk_put hg o (.int .u8 y) (bcells_set X o y)
    obtain ⟨i1, i2, i3⟩ := setCells_bc ys (o + 1) _ _ h1 (by rw [List.length_set]; omega)
    rw [splice_cons X ys o y hl'] at i1
    exact ⟨i1, fun k hk => (i2 k hk).trans (heap_setCell_other _ _ k _ hk), fun B w0 hB hg' => i3 B w0 (hB.setCell (show B ≤ (⟨g, o, none⟩ : Addr).block from hg') _) hg'⟩
theorem range_bc {w : World} {g : Nat} {t : TypeId} {F : List Int} (hb : w.heap[g]? = some (.cells (bcells F) t (0, 0))) (o : Nat) (X : List Int) (h : ∀ j, j < X.length → F[o + j]? = X[j]?) : w.rangeAt g o (encs (Value.int .u8) X) := by
  intro j v hv
  have hj : j < X.length := by have := (List.getElem?_eq_some_iff.1 hv).1; rwa [encs_length] at this
  rw [blk_cell hb]
  unfold bcells encs at *
  rw [List.getElem?_toArray, List.getElem?_map, h j hj, ← List.getElem?_map]
  exact hv
theorem range_l {w : World} {g : Nat} {t : TypeId} {A B : List Int} (hb : w.heap[g]? = some (.cells (bcells (A ++ B)) t (0, 0))) : w.rangeAt g 0 (encs (Value.int .u8) A) := range_bc hb 0 A fun j hj => by rw [Nat.zero_add, List.getElem?_append_left hj]
theorem range_r {w : World} {g : Nat} {t : TypeId} {A B : List Int} (hb : w.heap[g]? = some (.cells (bcells (A ++ B)) t (0, 0))) (hA : A.length = 64) : w.rangeAt g 64 (encs (Value.int .u8) B) := range_bc hb 64 B fun j hj => by rw [List.getElem?_append_right (by omega), hA, Nat.add_sub_cancel_left]
theorem splice_l (A B C : List Int) (h : A.length = C.length) : splice (A ++ B) 0 C = C ++ B := splice_mid [] A B C h
theorem splice_r (A B C : List Int) (hA : A.length = 64) (h : B.length = C.length) : splice (A ++ B) 64 C = A ++ C := by
  have := splice_mid A B [] C h
  rw [hA, List.append_nil, List.append_nil] at this
  exact this
theorem bcells_encs (X : List Int) : (encs (Value.int .u8) X).toArray = bcells X := rfl
theorem seal_size' (X : List Int) (h : X.length = 64) : (Try.prog.info? 26).map (·.size) = some (encs (Value.int .u8) X).length := by rw [seal_info, encs_length, h]
section
variable {ops : Array Oper} {rest : List Oper} {o : Oper} {a : Act} {Q : Exit → Act → World → Prop}
theorem wpList_load_blk {w : World} (hgd : o.guard = none) (x : Operand) (ho : o.op = .load 26 x) (g off : Nat) (hx : a.eval x = .pointer (some ⟨g, off, none⟩)) (X : List Int) (hX : X.length = 64) (hr : w.rangeAt g off (encs (Value.int .u8) X))
    (h : wpList Try.prog ops Q rest (a.put o.dst (.agg (bcells X))) w) : wpList Try.prog ops Q (o :: rest) a w :=
  wpList_load_mid hgd 26 x ho g off hx _ _ hr Try.underlying26 rfl (seal_size' X hX) h
theorem mid.load_run (t g off : Nat) (X : List Int) (hX : X.length = 64) (ho : o.op = .load 26 (.tmp t)) (hx : a.eval (.tmp t) = .pointer (some ⟨g, off, none⟩)) (w : World) (hr : w.rangeAt g off (encs (Value.int .u8) X)) :
    (execOp a.eval o).run Try.prog w = .ok (.value (.agg (bcells X))) w := by
  unfold execOp
  simp only [ho, hx, Instr.loadAt, Instr.sureAddr, Sem.run_bind, Sem.run_pure, Result.andThen_ok, run_loadVar_mid w g off 26 _ _ hr Try.underlying26 rfl (seal_size' X hX), bcells_encs]
theorem run_store_blk (w : World) (g off : Nat) (Y : List Int) (hY : Y.length = 64) (F : List Int) (t : TypeId) (hg : w.heap[g]? = some (.cells (bcells F) t (0, 0))) (hf : off + 64 ≤ F.length) :
    (Instr.storeAt 26 (.pointer (some ⟨g, off, none⟩)) (.agg (bcells Y))).run Try.prog w = .ok () (w.setCells g off (encs (Value.int .u8) Y)) := by
  refine run_storeAt_mid w g off 26 (bcells Y) (fun j hj => ?_) (seal_size Y hY) (bcells_all Y)
  rw [bcells_size, hY] at hj
  refine ⟨?_, blk_frozen hg (off + j)⟩
  rw [blk_cell hg, bcells_get F (off + j) (by omega)]
  rfl
theorem wpList_store_blk {w w0 : World} (hgd : o.guard = none) (x y : Operand) (ho : o.op = .store 26 x y) (g off : Nat) (hx : a.eval x = .pointer (some ⟨g, off, none⟩)) (Y : List Int) (hY : Y.length = 64) (hy : a.eval y = .agg (bcells Y)) (F : List Int) (t : TypeId) (hg : w.heap[g]? = some (.cells (bcells F) t (0, 0))) (hf : off + 64 ≤ F.length) (B : Nat) (hb : Below B w0 w) (hBg : B ≤ g)
    (h : ∀ w1, w1.heap[g]? = some (.cells (bcells (splice F off Y)) t (0, 0)) → Aside0 (∀ k, k ≠ g → w1.heap[k]? = w.heap[k]?) → Below B w0 w1 → wpList Try.prog ops Q rest (a.put o.dst undef) w1) : wpList Try.prog ops Q (o :: rest) a w := by
  refine wpList_plain hgd fun K hK => ?_
  obtain ⟨i1, i2, i3⟩ := setCells_bc (t := t) Y off w F hg (by omega)
  have hrun := run_store_blk w g off Y hY F t hg hf
  unfold Oper.wp execOp
  simp only [ho, hx, hy, Sem.run_bind, Sem.run_pure, hrun, Result.andThen_ok]
  exact hK _ _ (h _ i1 ⟨i2⟩ (i3 _ _ hb hBg))
theorem store_blk_ev {oi : Oper} {W w0 : World} {K : Act → World → Prop} (hw : Region.wanted oi (yielded ops a.tmps) = true) (hN : oi.dst = none) (t v : Tmp) (hop : oi.op = .store 26 (.tmp t) (.tmp v)) (g off : Nat) (hx : a.eval (.tmp t) = .pointer (some ⟨g, off, none⟩)) (Y : List Int) (hY : Y.length = 64) (hy : a.eval (.tmp v) = .agg (bcells Y)) (F : List Int) (ty : TypeId) (hg : W.heap[g]? = some (.cells (bcells F) ty (0, 0))) (hf : off + 64 ≤ F.length) (B : Nat) (hb : Below B w0 W) (hBg : B ≤ g)
    (h : ∀ w1, w1.heap[g]? = some (.cells (bcells (splice F off Y)) ty (0, 0)) → Aside0 (∀ k, k ≠ g → w1.heap[k]? = W.heap[k]?) → Below B w0 w1 → K a w1) : if Region.wanted oi (yielded ops a.tmps) = true then Oper.wp Try.prog oi a W K Q else K (a.put none undef) W := by
  obtain ⟨i1, i2, i3⟩ := setCells_bc (t := ty) Y off W F hg (by omega)
  refine skip_ hw hN (w1 := W.setCells g off (encs (Value.int .u8) Y)) ?_ (h _ i1 ⟨i2⟩ (i3 _ _ hb hBg))
  unfold execOp
  simp only [hop, hx, hy, Sem.run_bind, Sem.run_pure, run_store_blk W g off Y hY F ty hg hf, Result.andThen_ok]
end
end Go.Proofs.Ythgbipgfplokeaa.GA
