/- Blocks in memory: loads, stores and copies of 64 bytes. Blocks in memory: loads, stores and copies of 64 bytes. No condition. -/
import Derived.Test.YtlnfdhcpnbhkdaaGAx1
import Derived.Laws.CopyOwn
import Derived.ChangeKeysEq
import Derived.Deep.RegionHeld3
import Derived.Deep.MidRow
namespace Go.Proofs.Ytlnfdhcpnbhkdaa.GA
section
open Go.RowKit Go.Proofs.YtlnfdhcpnbhkdaaW.PrintWords Go.Proofs.YtlnfdhcpnbhkdaaW.PrintLast Go.Proofs.YtlnfdhcpnbhkdaaW.PrintMore
set_option linter.unusedVariables false
set_option linter.unusedSimpArgs false

/-- the cells of bytes -/
def bcells (l : List Int) : Array Value := (encs (Value.int .u8) l).toArray
theorem bcells_size (l : List Int) : (bcells l).size = l.length := by simp [bcells, encs]
theorem bcells_get (l : List Int) (j : Nat) (h : j < l.length) : (bcells l)[j]? = some (.int .u8 (rd l (j : Int))) := by
  unfold bcells rd
  rw [List.getElem?_toArray, encs_get (d := 0) l j h, Int.toNat_natCast]
theorem bcells_one (l : List Int) : ∀ v ∈ (bcells l).toList, v.oneCell' = true := by
  intro v hv
  unfold bcells encs at hv
  obtain ⟨x, _, rfl⟩ := List.mem_map.1 hv
  rfl
theorem bcells_set (l : List Int) (j : Nat) (x : Int) : (bcells l).setIfInBounds j (.int .u8 x) = bcells (l.set j x) := by
  unfold bcells encs
  rw [List.setIfInBounds_toArray, List.map_set]
section
variable {P : Program} {ops : Array Oper} {rest : List Oper} {o : Oper} {a : Act} {Q : Exit → Act → World → Prop}
theorem mk_event {W : World} (hgd : o.guard = none) {N : Tmp} (_hd : o.dst = some N) {cs : Array Value} {t : TypeId} {n : Nat}
    (hrun : (execOp a.eval o).run P W = .ok (.value (.slice (some ⟨W.heap.size, 0, none⟩) n n)) (W.alloc (.cells cs t (0, 0))))
    (h : ∀ g, g = W.heap.size → ∀ w1, w1.heap[g]? = some (.cells cs t (0, 0)) → Below W.heap.size W w1 → wpList P ops Q rest (a.put o.dst (.slice (some ⟨g, 0, none⟩) n n)) w1) : wpList P ops Q (o :: rest) a W :=
  Kd.event_run hgd hrun (h _ rfl _ (blk_new W _) (below_alloc (Below.refl _ _) _))
end
/-- bytes of a block that is known are read -/
theorem C_block {w : World} {g : Nat} {t : TypeId} {X : List Int} (hb : w.heap[g]? = some (.cells (bcells X) t (0, 0))) (p n : Nat) (h : p + n ≤ X.length) (hm : n ≤ 9223372036854775807) : Kd.C (Kd.int .u8) w (some ⟨g, p, none⟩) n ((X.drop p).take n) := by
  refine Kd.C_of_reads (d := (0 : Int)) (h1 := fun _ => rfl) ⟨by rw [List.length_take, List.length_drop]; omega, hm, fun _ => ⟨⟨g, p, none⟩, rfl, fun j hj => ?_⟩⟩
  have e : (⟨g, p, none⟩ : Addr).add j = ⟨g, p + j, none⟩ := Addr.add_mid g p j
  rw [e, blk_cell hb, bcells_get X (p + j) (by omega)]
  congr 2
  unfold rd
  rw [Int.toNat_natCast, List.getD_eq_getElem?_getD, List.getD_eq_getElem?_getD, List.getElem?_take, if_pos hj, List.getElem?_drop]
theorem bcells_ofSize : (Try.prog.info? 5).map (·.size) = some 1 := by kernel_rfl
section
variable {ops : Array Oper} {rest : List Oper} {o : Oper} {a : Act} {Q : Exit → Act → World → Prop}
/-- bytes copied into a block that is known -/
theorem wpList_bcopy {W w0 : World} (hgd : o.guard = none) (d s : Operand) (ho : o.op = .call { callee := .builtin .copy, args := #[d, s], argTypes := #[68, 68] }) (g off n : Nat) (X xs : List Int) (A : Option Addr) (m c t : Nat)
    (hd : a.eval d = .slice (some ⟨g, off, none⟩) n n) (hs : a.eval s = .slice A m c) (hg : W.heap[g]? = some (.cells (bcells X) t (0, 0))) (hx : Kd.C (Kd.int .u8) W A m xs) (hm : m ≤ n) (hf : off + m ≤ X.length) (B : Nat) (hb : Below B w0 W) (hBg : B ≤ g)
    (h : ∀ w1, Aside0 (w1.heap[g]? = some (.cells (bcells (splice X off xs)) t (0, 0))) → Aside0 (∀ k, k ≠ g → w1.heap[k]? = W.heap[k]?) → Below B w0 w1 → wpList Try.prog ops Q rest (a.put o.dst (goInt m)) w1) : wpList Try.prog ops Q (o :: rest) a W := by
  have hr := Kd.reads_of_C (d := (0 : Int)) (show (Kd.scalar (Value.int .u8) (fun _ => rfl)).C W A m xs from hx)
  have hxm : xs.length = m := hr.1
  by_cases h0 : m = 0
  · subst h0
    have hnil : xs = [] := List.length_eq_zero_iff.1 hxm
    subst hnil
    refine wpList_copy_nothing hgd d s 68 68 ho 5 Try.underlying68 bcells_ofSize _ _ _ _ _ _ hd hs (by simp [Nat.min_def]) ?_
    exact h W ⟨by simpa [splice] using hg⟩ ⟨fun k _ => rfl⟩ hb
  · obtain ⟨ad, rfl, hcell⟩ := hr.2.2 (by omega)
    refine wpList_copy_own hgd d s 68 68 ho 5 Try.underlying68 bcells_ofSize g off n n ad m c hd hs (bcells X) t hg (encs (Value.int .u8) xs) (by rw [encs_length, hxm]; exact (Nat.min_eq_left hm).symm) ?_ (by rw [encs_length, bcells_size]; omega) ?_ ?_
    · intro j v hv
      have hj : j < m := by
        have := (List.getElem?_eq_some_iff.1 hv).1
        rw [encs_length] at this; omega
      have h2 := hcell j hj
      rw [encs_get (d := (0 : Int)) xs j (by omega)] at hv
      rw [h2]; exact hv
    · intro v hv
      unfold encs at hv
      obtain ⟨x, _, rfl⟩ := List.mem_map.1 hv
      rfl
    · have e : ((bcells X).toList.take off ++ (encs (Value.int .u8) xs ++ (bcells X).toList.drop (off + (encs (Value.int .u8) xs).length))).toArray = bcells (splice X off xs) := by
        unfold bcells splice encs
        simp only [List.map_append, List.map_take, List.map_drop, List.length_map]
      rw [e, show (goInt (encs (Value.int .u8) xs).length) = goInt m from by rw [encs_length, hxm]]
      exact h _ ⟨setRow_heap W g _ _ t _ hg⟩ ⟨fun k hk => setRow_other W g k _ hk⟩ (below_setRow hb hBg _)
end
theorem splice_mid {α : Type} (A M C xs : List α) (h : M.length = xs.length) : splice (A ++ (M ++ C)) A.length xs = A ++ (xs ++ C) := by
  unfold splice
  rw [List.take_left, ← List.drop_drop, List.drop_left, ← h, List.drop_left]

def zero64 : List Int := List.replicate 64 0
theorem seal_info : (Try.prog.info? 29).map (·.size) = some 64 := by kernel_rfl
theorem seal_size (X : List Int) (h : X.length = 64) : (Try.prog.info? 29).map (·.size) = some (bcells X).size := by rw [seal_info, bcells_size, h]
theorem bcells_all (X : List Int) : (bcells X).all (·.oneCell') = true := by
  rw [Array.all_eq_true]
  intro i hi
  have := bcells_one X ((bcells X)[i]) (by simp)
  exact this
theorem bl.load_run {o : Oper} {a : Act} (t : Nat) (g : Nat) (cs : Array Value) (ho : o.op = .load 29 (.tmp t)) (hx : a.eval (.tmp t) = .pointer (some ⟨g, 0, none⟩)) (w : World) (hg : w.heap[g]? = some (.cells cs 29 (0, 0))) (hi : (Try.prog.info? 29).map (·.size) = some cs.size) :
    (execOp a.eval o).run Try.prog w = .ok (.value (.agg cs)) w := by
  unfold execOp
  simp only [ho, hx, Instr.loadAt, Instr.sureAddr, Sem.run_bind, Sem.run_pure, Result.andThen_ok, run_loadVar_row w g 29 29 cs (0, 0) _ hg Try.underlying29 rfl hi]
theorem splice_cons (X ys : List Int) (o : Nat) (y : Int) (h : o + (ys.length + 1) ≤ X.length) : splice (X.set o y) (o + 1) ys = splice X o (y :: ys) := by
  unfold splice
  apply List.ext_getElem?
  intro j
  have e1 : (List.take (o + 1) (X.set o y)).length = o + 1 := by rw [List.length_take, List.length_set]; omega
  have e2 : (List.take o X).length = o := by rw [List.length_take]; omega
  by_cases h1 : j < o
  · rw [List.getElem?_append_left (by omega), List.getElem?_append_left (by omega), List.getElem?_take_of_lt (by omega), List.getElem?_take_of_lt h1, List.getElem?_set_ne (by omega)]
  · by_cases h2 : j = o
    · subst h2
      rw [List.getElem?_append_left (by omega), List.getElem?_append_right (by omega), List.getElem?_take_of_lt (by omega), e2, Nat.sub_self, List.getElem?_set_self (by omega)]
      rfl
    · rw [List.getElem?_append_right (show (List.take (o + 1) (X.set o y)).length ≤ j by omega), e1, List.getElem?_append_right (show (List.take o X).length ≤ j by omega), e2, show j - o = (j - (o + 1)) + 1 by omega]
      simp only [List.cons_append, List.getElem?_cons_succ, List.length_cons]
      by_cases h3 : j - (o + 1) < ys.length
      · rw [List.getElem?_append_left h3, List.getElem?_append_left h3]
      · rw [List.getElem?_append_right (by omega), List.getElem?_append_right (by omega), List.getElem?_drop, List.getElem?_drop, List.getElem?_set_ne (by omega)]
        congr 1
        omega
/-- bytes stored into a block that is known -/
theorem setCells_bc {g : Nat} {t : TypeId} : ∀ (ys : List Int) (o : Nat) (w : World) (X : List Int), w.heap[g]? = some (.cells (bcells X) t (0, 0)) → o + ys.length ≤ X.length →
    (w.setCells g o (encs (Value.int .u8) ys)).heap[g]? = some (.cells (bcells (splice X o ys)) t (0, 0)) ∧ (∀ k, k ≠ g → (w.setCells g o (encs (Value.int .u8) ys)).heap[k]? = w.heap[k]?) ∧ (∀ B w0, Below B w0 w → B ≤ g → Below B w0 (w.setCells g o (encs (Value.int .u8) ys)))
  | [], o, w, X, hg, hl => by
    refine ⟨?_, fun _ _ => rfl, fun _ _ h _ => h⟩
    show w.heap[g]? = _
    rw [hg]
    unfold splice
    simp
  | y :: ys, o, w, X, hg, hl => by
    have hl' : o + (ys.length + 1) ≤ X.length := hl
    have h1 := blk_put hg o (.int .u8 y) (bcells_set X o y)
    obtain ⟨i1, i2, i3⟩ := setCells_bc ys (o + 1) _ _ h1 (by rw [List.length_set]; omega)
    rw [splice_cons X ys o y hl'] at i1
    exact ⟨i1, fun k hk => (i2 k hk).trans (heap_setCell_other _ _ k _ hk), fun B w0 hB hg' => i3 B w0 (hB.setCell (show B ≤ (⟨g, o, none⟩ : Addr).block from hg') _) hg'⟩
theorem range_bc {w : World} {g : Nat} {t : TypeId} {F : List Int} (hb : w.heap[g]? = some (.cells (bcells F) t (0, 0))) (o : Nat) (X : List Int) (h : ∀ j, j < X.length → F[o + j]? = X[j]?) : w.rangeAt g o (encs (Value.int .u8) X) := by
  intro j v hv
  have hj : j < X.length := by have := (List.getElem?_eq_some_iff.1 hv).1; rwa [encs_length] at this
  rw [blk_cell hb]
  unfold bcells encs at *
  rw [List.getElem?_toArray, List.getElem?_map, h j hj, ← List.getElem?_map]
  exact hv
theorem range_l {w : World} {g : Nat} {t : TypeId} {A B : List Int} (hb : w.heap[g]? = some (.cells (bcells (A ++ B)) t (0, 0))) : w.rangeAt g 0 (encs (Value.int .u8) A) := range_bc hb 0 A fun j hj => by rw [Nat.zero_add, List.getElem?_append_left hj]
theorem range_r {w : World} {g : Nat} {t : TypeId} {A B : List Int} (hb : w.heap[g]? = some (.cells (bcells (A ++ B)) t (0, 0))) (hA : A.length = 64) : w.rangeAt g 64 (encs (Value.int .u8) B) := range_bc hb 64 B fun j hj => by rw [List.getElem?_append_right (by omega), hA, Nat.add_sub_cancel_left]
theorem splice_l (A B C : List Int) (h : A.length = C.length) : splice (A ++ B) 0 C = C ++ B := splice_mid [] A B C h
theorem splice_r (A B C : List Int) (hA : A.length = 64) (h : B.length = C.length) : splice (A ++ B) 64 C = A ++ C := by
  have := splice_mid A B [] C h
  rw [hA, List.append_nil, List.append_nil] at this
  exact this
theorem bcells_encs (X : List Int) : (encs (Value.int .u8) X).toArray = bcells X := rfl
theorem seal_size' (X : List Int) (h : X.length = 64) : (Try.prog.info? 29).map (·.size) = some (encs (Value.int .u8) X).length := by rw [seal_info, encs_length, h]
section
variable {ops : Array Oper} {rest : List Oper} {o : Oper} {a : Act} {Q : Exit → Act → World → Prop}
theorem wpList_load_blk {w : World} (hgd : o.guard = none) (x : Operand) (ho : o.op = .load 29 x) (g off : Nat) (hx : a.eval x = .pointer (some ⟨g, off, none⟩)) (X : List Int) (hX : X.length = 64) (hr : w.rangeAt g off (encs (Value.int .u8) X))
    (h : wpList Try.prog ops Q rest (a.put o.dst (.agg (bcells X))) w) : wpList Try.prog ops Q (o :: rest) a w :=
  wpList_load_mid hgd 29 x ho g off hx _ _ hr Try.underlying29 rfl (seal_size' X hX) h
theorem mid.load_run (t g off : Nat) (X : List Int) (hX : X.length = 64) (ho : o.op = .load 29 (.tmp t)) (hx : a.eval (.tmp t) = .pointer (some ⟨g, off, none⟩)) (w : World) (hr : w.rangeAt g off (encs (Value.int .u8) X)) :
    (execOp a.eval o).run Try.prog w = .ok (.value (.agg (bcells X))) w := by
  unfold execOp
  simp only [ho, hx, Instr.loadAt, Instr.sureAddr, Sem.run_bind, Sem.run_pure, Result.andThen_ok, run_loadVar_mid w g off 29 _ _ hr Try.underlying29 rfl (seal_size' X hX), bcells_encs]
theorem run_store_blk (w : World) (g off : Nat) (Y : List Int) (hY : Y.length = 64) (F : List Int) (t : TypeId) (hg : w.heap[g]? = some (.cells (bcells F) t (0, 0))) (hf : off + 64 ≤ F.length) :
    (Instr.storeAt 29 (.pointer (some ⟨g, off, none⟩)) (.agg (bcells Y))).run Try.prog w = .ok () (w.setCells g off (encs (Value.int .u8) Y)) := by
  refine run_storeAt_mid w g off 29 (bcells Y) (fun j hj => ?_) (seal_size Y hY) (bcells_all Y)
  rw [bcells_size, hY] at hj
  refine ⟨?_, blk_frozen hg (off + j)⟩
  rw [blk_cell hg, bcells_get F (off + j) (by omega)]
  rfl
theorem wpList_store_blk {w w0 : World} (hgd : o.guard = none) (x y : Operand) (ho : o.op = .store 29 x y) (g off : Nat) (hx : a.eval x = .pointer (some ⟨g, off, none⟩)) (Y : List Int) (hY : Y.length = 64) (hy : a.eval y = .agg (bcells Y)) (F : List Int) (t : TypeId) (hg : w.heap[g]? = some (.cells (bcells F) t (0, 0))) (hf : off + 64 ≤ F.length) (B : Nat) (hb : Below B w0 w) (hBg : B ≤ g)
    (h : ∀ w1, w1.heap[g]? = some (.cells (bcells (splice F off Y)) t (0, 0)) → Aside0 (∀ k, k ≠ g → w1.heap[k]? = w.heap[k]?) → Below B w0 w1 → wpList Try.prog ops Q rest (a.put o.dst undef) w1) : wpList Try.prog ops Q (o :: rest) a w := by
  refine wpList_plain hgd fun K hK => ?_
  obtain ⟨i1, i2, i3⟩ := setCells_bc (t := t) Y off w F hg (by omega)
  have hrun := run_store_blk w g off Y hY F t hg hf
  unfold Oper.wp execOp
  simp only [ho, hx, hy, Sem.run_bind, Sem.run_pure, hrun, Result.andThen_ok]
  exact hK _ _ (h _ i1 ⟨i2⟩ (i3 _ _ hb hBg))
theorem store_blk_ev {oi : Oper} {W w0 : World} {K : Act → World → Prop} (hw : Region.wanted oi (yielded ops a.tmps) = true) (hN : oi.dst = none) (t v : Tmp) (hop : oi.op = .store 29 (.tmp t) (.tmp v)) (g off : Nat) (hx : a.eval (.tmp t) = .pointer (some ⟨g, off, none⟩)) (Y : List Int) (hY : Y.length = 64) (hy : a.eval (.tmp v) = .agg (bcells Y)) (F : List Int) (ty : TypeId) (hg : W.heap[g]? = some (.cells (bcells F) ty (0, 0))) (hf : off + 64 ≤ F.length) (B : Nat) (hb : Below B w0 W) (hBg : B ≤ g)
    (h : ∀ w1, w1.heap[g]? = some (.cells (bcells (splice F off Y)) ty (0, 0)) → Aside0 (∀ k, k ≠ g → w1.heap[k]? = W.heap[k]?) → Below B w0 w1 → K a w1) : if Region.wanted oi (yielded ops a.tmps) = true then Oper.wp Try.prog oi a W K Q else K (a.put none undef) W := by
  obtain ⟨i1, i2, i3⟩ := setCells_bc (t := ty) Y off W F hg (by omega)
  refine skip_ hw hN (w1 := W.setCells g off (encs (Value.int .u8) Y)) ?_ (h _ i1 ⟨i2⟩ (i3 _ _ hb hBg))
  unfold execOp
  simp only [hop, hx, hy, Sem.run_bind, Sem.run_pure, run_store_blk W g off Y hY F ty hg hf, Result.andThen_ok]
end
theorem infoU8 : (Try.prog.info? 5).map (fun i => (i.zero, i.size, i.bytes)) = some (some (.int .u8 0), 1, 1) := by kernel_rfl
theorem eqItems_b (d : Nat) (a b : List Int) (ha : a.length = 64) (hb : b.length = 64) (w : World) : ∀ is : List Nat, (∀ i ∈ is, i < 64) →
    (Op.eqItems (d + 1) 5 1 (bcells a) (bcells b) is).run Try.prog w = .ok (is.all fun i => rd a (i : Int) == rd b (i : Int)) w
  | [], _ => by simp [Op.eqItems]
  | i :: is, h => by
    have hi : i < 64 := h i (List.mem_cons_self ..)
    have pa : (part 5 (bcells a) (i * 1)).run Try.prog w = .ok (.int .u8 (rd a (i : Int))) w := run_part_plain w (by kernel_rfl) (by rw [Nat.mul_one]; exact bcells_get a i (by omega))
    have pb : (part 5 (bcells b) (i * 1)).run Try.prog w = .ok (.int .u8 (rd b (i : Int))) w := run_part_plain w (by kernel_rfl) (by rw [Nat.mul_one]; exact bcells_get b i (by omega))
    have ih := eqItems_b d a b ha hb w is (fun j hj => h j (List.mem_cons_of_mem _ hj))
    have pe : (Op.equalIn (d + 1) 5 (.int .u8 (rd a (i : Int))) (.int .u8 (rd b (i : Int)))).run Try.prog w = .ok (rd a (i : Int) == rd b (i : Int)) w := run_equalIn_int (w := w) d 5 .u8 .u8 _ _ Try.underlying5
    simp only [Op.eqItems, Sem.run_bind, pa, pb, pe, Result.andThen_ok, List.all_cons]
    cases hq : (rd a (i : Int) == rd b (i : Int))
    · simp
    · simpa using ih
theorem all_rd (a b : List Int) (ha : a.length = 64) (hb : b.length = 64) : ((List.range 64).all fun i => rd a (i : Int) == rd b (i : Int)) = decide (a = b) := by
  by_cases h : a = b
  · subst h
    simp
  · rw [decide_eq_false h]
    apply Bool.eq_false_iff.2
    intro hall
    apply h
    rw [List.all_eq_true] at hall
    apply List.ext_getElem (by omega)
    intro i h1 h2
    have := hall i (List.mem_range.2 (by omega))
    simp only [beq_iff_eq] at this
    unfold rd at this
    rw [Int.toNat_natCast, List.getD_eq_getElem?_getD, List.getD_eq_getElem?_getD, List.getElem?_eq_getElem h1, List.getElem?_eq_getElem h2] at this
    exact this
theorem eqArr (d : Nat) (a b : List Int) (ha : a.length = 64) (hb : b.length = 64) (w : World) : (Op.equalIn (d + 2) 29 (.agg (bcells a)) (.agg (bcells b))).run Try.prog w = .ok (decide (a = b)) w := by
  obtain ⟨i, hi, _⟩ := info_parts infoU8
  rw [run_equalIn_array (P := Try.prog) w (d + 1) (n := 64) (e := 5) (bcells a) (bcells b) Try.underlying29 hi, show Try.prog.cellsOf 5 = 1 by kernel_rfl, eqItems_b d a b ha hb w _ (fun i hi => List.mem_range.1 hi), all_rd a b ha hb]
theorem store29_ev {ops : Array Oper} {Q : Exit → Act → World → Prop} {oi : Oper} {a : Act} {W : World} {K : Act → World → Prop} (hw : Region.wanted oi (yielded ops a.tmps) = true) (hN : oi.dst = none) (t v : Tmp) (hop : oi.op = .store 29 (.tmp t) (.tmp v)) (g : Nat) (hx : a.eval (.tmp t) = .pointer (some ⟨g, 0, none⟩)) (X : List Int) (hX : X.length = 64) (hy : a.eval (.tmp v) = .agg (bcells X)) (old : List Int) (ho : old.length = 64) (hg : W.heap[g]? = some (.cells (bcells old) 29 (0, 0)))
    (h : K a (W.setRow g (bcells X))) : if Region.wanted oi (yielded ops a.tmps) = true then Oper.wp Try.prog oi a W K Q else K (a.put none undef) W := by
  refine skip_ hw hN (w1 := W.setRow g (bcells X)) ?_ h
  unfold execOp
  simp only [hop, hx, hy, Instr.storeAt, Instr.sureAddr, Sem.run_bind, Sem.run_pure, Result.andThen_ok, run_storeVar_row W g 29 29 (bcells old) (bcells X) hg (seal_size X hX) (by rw [bcells_size, bcells_size, ho, hX]) (bcells_all X)]
end
section
open Go.RowKit Go.Proofs.YtlnfdhcpnbhkdaaW.PrintWords Go.Proofs.YtlnfdhcpnbhkdaaW.PrintLast Go.Proofs.YtlnfdhcpnbhkdaaW.PrintMore
set_option linter.unusedVariables false
set_option linter.unusedSimpArgs false


/-- the cells of a disk -/
def drow (a : Value) (H : Option Addr) (n c : Nat) (bt : Value) (al st : Int) (ni : Bool) : Array Value := #[a, .slice H n c, bt, .int .i64 al, .int .i64 st, .bool ni]
/-- none, or a zero one -/
def ZV (w : World) (v : Value) : Prop := v = .pointer none ∨ ∃ gd : Nat, v = .pointer (some ⟨gd, 0, none⟩) ∧ w.heap[gd]? = some (.cells (drow (.slice none 0 0) none 0 0 (.slice none 0 0) 0 0 false) 60 (0, 0))

set_option maxHeartbeats 4000000 in
set_option maxRecDepth 100000 in
theorem Blocks.row (w : World) (gd : Nat) (a : Value) (H : Option Addr) (n c : Nat) (bt : Value) (al st : Int) (ni : Bool) (hg : w.heap[gd]? = some (.cells (drow a H n c bt al st ni) 60 (0, 0))) :
    Calls Try.prog 26 #[.pointer (some ⟨gd, 0, none⟩)] w fun e w' => e = .returned (.int .i64 n) ∧ w' = w := by
  have x1 : w.cell? ⟨gd, 1, none⟩ = some (.slice H n c) := (blk_cell hg 1).trans rfl
  clear hg
  go_enter Try.func26, Try.ntmps26
  go_wp2
  go_ret
  exact ⟨rfl, rfl⟩

set_option maxHeartbeats 4000000 in
set_option maxRecDepth 100000 in
theorem Blocks.zero (w : World) (v : Value) (h : ZV w v) :
    Calls Try.prog 26 #[v] w fun e w' => e = .returned (.int .i64 0) ∧ w' = w := by
  rcases h with rfl | ⟨gd, rfl, hg⟩
  · go_enter Try.func26, Try.ntmps26
    go_wp2
    go_ret
    exact ⟨rfl, rfl⟩
  · have x1 : w.cell? ⟨gd, 1, none⟩ = some (.slice none 0 0) := (blk_cell hg 1).trans rfl
    clear hg
    go_enter Try.func26, Try.ntmps26
    go_wp2
    go_ret
    exact ⟨rfl, rfl⟩

set_option maxHeartbeats 4000000 in
set_option maxRecDepth 100000 in
theorem Dark.zero (w : World) (v : Value) (h : ZV w v) :
    Calls Try.prog 12 #[v] w fun e w' => e = .returned (.bool false) ∧ w' = w := by
  rcases h with rfl | ⟨gd, rfl, hg⟩
  · go_enter Try.func12, Try.ntmps12
    go_wp2
    go_ret
    exact ⟨rfl, rfl⟩
  · have x5 : w.cell? ⟨gd, 5, none⟩ = some (.bool false) := (blk_cell hg 5).trans rfl
    clear hg
    go_enter Try.func12, Try.ntmps12
    go_wp2
    go_ret
    exact ⟨rfl, rfl⟩

set_option maxHeartbeats 4000000 in
set_option maxRecDepth 100000 in
theorem Steps.zero (w : World) (v : Value) (h : ZV w v) :
    Calls Try.prog 13 #[v] w fun e w' => e = .returned (.int .i64 0) ∧ w' = w := by
  rcases h with rfl | ⟨gd, rfl, hg⟩
  · go_enter Try.func13, Try.ntmps13
    go_wp2
    go_ret
    exact ⟨rfl, rfl⟩
  · have x4 : w.cell? ⟨gd, 4, none⟩ = some (.int .i64 0) := (blk_cell hg 4).trans rfl
    clear hg
    go_enter Try.func13, Try.ntmps13
    go_wp2
    go_ret
    exact ⟨rfl, rfl⟩

set_option maxHeartbeats 4000000 in
set_option maxRecDepth 100000 in
theorem Loose.zero (w : World) (v : Value) (h : ZV w v) :
    Calls Try.prog 16 #[v] w fun e w' => e = .returned (.int .i64 0) ∧ w' = w := by
  rcases h with rfl | ⟨gd, rfl, hg⟩
  · go_enter Try.func16, Try.ntmps16
    go_wp2
    go_ret
    exact ⟨rfl, rfl⟩
  · have x2 : w.cell? ⟨gd, 2, none⟩ = some (.slice none 0 0) := (blk_cell hg 2).trans rfl
    clear hg
    go_enter Try.func16, Try.ntmps16
    go_wp2
    go_ret
    exact ⟨rfl, rfl⟩

set_option maxHeartbeats 4000000 in
set_option maxRecDepth 100000 in
theorem Dark.row (w : World) (gd : Nat) (a : Value) (H : Option Addr) (n c : Nat) (bt : Value) (al st : Int) (ni : Bool) (hg : w.heap[gd]? = some (.cells (drow a H n c bt al st ni) 60 (0, 0))) :
    Calls Try.prog 12 #[.pointer (some ⟨gd, 0, none⟩)] w fun e w' => e = .returned (.bool ni) ∧ w' = w := by
  have x5 : w.cell? ⟨gd, 5, none⟩ = some (.bool ni) := (blk_cell hg 5).trans rfl
  clear hg
  cases ni
  · go_enter Try.func12, Try.ntmps12
    go_wp2
    go_ret
    exact ⟨rfl, rfl⟩
  · go_enter Try.func12, Try.ntmps12
    go_wp2
    go_ret
    exact ⟨rfl, rfl⟩

set_option maxHeartbeats 4000000 in
set_option maxRecDepth 100000 in
theorem Steps.row (w : World) (gd : Nat) (a : Value) (H : Option Addr) (n c : Nat) (bt : Value) (al st : Int) (ni : Bool) (hg : w.heap[gd]? = some (.cells (drow a H n c bt al st ni) 60 (0, 0))) :
    Calls Try.prog 13 #[.pointer (some ⟨gd, 0, none⟩)] w fun e w' => e = .returned (.int .i64 st) ∧ w' = w := by
  have x4 : w.cell? ⟨gd, 4, none⟩ = some (.int .i64 st) := (blk_cell hg 4).trans rfl
  clear hg
  go_enter Try.func13, Try.ntmps13
  go_wp2
  go_ret
  exact ⟨rfl, rfl⟩

set_option maxHeartbeats 4000000 in
set_option maxRecDepth 100000 in
theorem Loose.row (w : World) (gd : Nat) (a : Value) (H : Option Addr) (n c : Nat) (B : Option Addr) (m cb : Nat) (al st : Int) (ni : Bool) (hg : w.heap[gd]? = some (.cells (drow a H n c (.slice B m cb) al st ni) 60 (0, 0))) :
    Calls Try.prog 16 #[.pointer (some ⟨gd, 0, none⟩)] w fun e w' => e = .returned (.int .i64 m) ∧ w' = w := by
  have x2 : w.cell? ⟨gd, 2, none⟩ = some (.slice B m cb) := (blk_cell hg 2).trans rfl
  clear hg
  go_enter Try.func16, Try.ntmps16
  go_wp2
  go_ret
  exact ⟨rfl, rfl⟩

set_option maxHeartbeats 4000000 in
set_option maxRecDepth 100000 in
theorem known.zero (w : World) (v : Value) (h : ZV w v) (i : Int) :
    Calls Try.prog 31 #[v, .int .i64 i] w fun e w' => e = .returned (.int .i64 1) ∧ w' = w := by
  go_enter Try.func31, Try.ntmps31
  go_wp2_with (first
    | (go_at_call 26; with_reducible refine (Blocks.zero _ v h).mono ?_; rintro e' w' ⟨rfl, rfl⟩))
  go_ret
  exact ⟨rfl, rfl⟩

set_option maxHeartbeats 4000000 in
set_option maxRecDepth 100000 in
theorem known.ok (w : World) (gd : Nat) (a : Value) (H : Option Addr) (n c : Nat) (bt : Value) (al st : Int) (ni : Bool) (hg : w.heap[gd]? = some (.cells (drow a H n c bt al st ni) 60 (0, 0))) (i : Int) (hn : 0 < n) (h0 : 0 ≤ i) (h1 : i < n) :
    Calls Try.prog 31 #[.pointer (some ⟨gd, 0, none⟩), .int .i64 i] w fun e w' => e = .returned (.int .i64 0) ∧ w' = w := by
  have d1 : ((n : Int) == 0) = false := by simp; omega
  have d2 : decide (i < 0) = false := decide_eq_false (by omega)
  have d3 : decide ((n : Int) ≤ i) = false := decide_eq_false (by omega)
  go_enter Try.func31, Try.ntmps31
  go_wp2_with (first
    | (go_at_call 26; with_reducible refine (Blocks.row _ gd a H n c bt al st ni hg).mono ?_; rintro e' w' ⟨rfl, rfl⟩))
  go_ret
  exact ⟨rfl, rfl⟩

set_option maxHeartbeats 4000000 in
set_option maxRecDepth 100000 in
theorem known.neg (w : World) (gd : Nat) (a : Value) (H : Option Addr) (n c : Nat) (bt : Value) (al st : Int) (ni : Bool) (hg : w.heap[gd]? = some (.cells (drow a H n c bt al st ni) 60 (0, 0))) (i : Int) (hn : 0 < n) (h0 : i < 0) :
    Calls Try.prog 31 #[.pointer (some ⟨gd, 0, none⟩), .int .i64 i] w fun e w' => e = .returned (.int .i64 2) ∧ w' = w := by
  have d1 : ((n : Int) == 0) = false := by simp; omega
  have d2 : decide (i < 0) = true := decide_eq_true h0
  go_enter Try.func31, Try.ntmps31
  go_wp2_with (first
    | (go_at_call 26; with_reducible refine (Blocks.row _ gd a H n c bt al st ni hg).mono ?_; rintro e' w' ⟨rfl, rfl⟩))
  go_ret
  exact ⟨rfl, rfl⟩

set_option maxHeartbeats 4000000 in
set_option maxRecDepth 100000 in
theorem known.far (w : World) (gd : Nat) (a : Value) (H : Option Addr) (n c : Nat) (bt : Value) (al st : Int) (ni : Bool) (hg : w.heap[gd]? = some (.cells (drow a H n c bt al st ni) 60 (0, 0))) (i : Int) (hn : 0 < n) (h0 : 0 ≤ i) (h1 : n ≤ i) :
    Calls Try.prog 31 #[.pointer (some ⟨gd, 0, none⟩), .int .i64 i] w fun e w' => e = .returned (.int .i64 2) ∧ w' = w := by
  have d1 : ((n : Int) == 0) = false := by simp; omega
  have d2 : decide (i < 0) = false := decide_eq_false (by omega)
  have d3 : decide ((n : Int) ≤ i) = true := decide_eq_true h1
  go_enter Try.func31, Try.ntmps31
  go_wp2_with (first
    | (go_at_call 26; with_reducible refine (Blocks.row _ gd a H n c bt al st ni hg).mono ?_; rintro e' w' ⟨rfl, rfl⟩))
  go_ret
  exact ⟨rfl, rfl⟩

/-- what known answers -/
def knownR (n : Nat) (i : Int) : Int := if i < 0 ∨ (n : Int) ≤ i then 2 else 0
theorem known.row (w : World) (gd : Nat) (a : Value) (H : Option Addr) (n c : Nat) (bt : Value) (al st : Int) (ni : Bool) (hg : w.heap[gd]? = some (.cells (drow a H n c bt al st ni) 60 (0, 0))) (i : Int) (hn : 0 < n) :
    Calls Try.prog 31 #[.pointer (some ⟨gd, 0, none⟩), .int .i64 i] w fun e w' => e = .returned (.int .i64 (knownR n i)) ∧ w' = w := by
  unfold knownR
  by_cases h0 : i < 0
  · rw [if_pos (.inl h0)]; exact known.neg w gd a H n c bt al st ni hg i hn h0
  · by_cases h1 : (n : Int) ≤ i
    · rw [if_pos (.inr h1)]; exact known.far w gd a H n c bt al st ni hg i hn (by omega) h1
    · rw [if_neg (fun h => h.elim h0 h1)]; exact known.ok w gd a H n c bt al st ni hg i hn (by omega) (by omega)

set_option maxHeartbeats 4000000 in
set_option maxRecDepth 100000 in
theorem day.zero (w : World) (v : Value) (h : ZV w v) :
    Calls Try.prog 27 #[v] w fun e w' => e = .returned (.int .i64 1) ∧ w' = w := by
  go_enter Try.func27, Try.ntmps27
  go_wp2_with (first
    | (go_at_call 31; with_reducible refine (known.zero _ v h 0).mono ?_; rintro e' w' ⟨rfl, rfl⟩))
  go_ret
  exact ⟨rfl, rfl⟩

set_option maxHeartbeats 4000000 in
set_option maxRecDepth 100000 in
theorem day.ok (w : World) (gd : Nat) (a : Value) (H : Option Addr) (n c : Nat) (bt : Value) (al st : Int)  (hg : w.heap[gd]? = some (.cells (drow a H n c bt al st false) 60 (0, 0))) (hn : 0 < n) :
    Calls Try.prog 27 #[.pointer (some ⟨gd, 0, none⟩)] w fun e w' => e = .returned (.int .i64 0) ∧ w' = w := by
  have x5 : w.cell? ⟨gd, 5, none⟩ = some (.bool false) := (blk_cell hg 5).trans rfl
  go_enter Try.func27, Try.ntmps27
  go_wp2_with (first
    | (go_at_call 31; with_reducible refine (known.ok _ gd a H n c bt al st false hg 0 hn (Int.le_refl 0) (by omega)).mono ?_; rintro e' w' ⟨rfl, rfl⟩))
  go_ret
  exact ⟨rfl, rfl⟩

set_option maxHeartbeats 4000000 in
set_option maxRecDepth 100000 in
theorem day.night (w : World) (gd : Nat) (a : Value) (H : Option Addr) (n c : Nat) (bt : Value) (al st : Int)  (hg : w.heap[gd]? = some (.cells (drow a H n c bt al st true) 60 (0, 0))) (hn : 0 < n) :
    Calls Try.prog 27 #[.pointer (some ⟨gd, 0, none⟩)] w fun e w' => e = .returned (.int .i64 9) ∧ w' = w := by
  have x5 : w.cell? ⟨gd, 5, none⟩ = some (.bool true) := (blk_cell hg 5).trans rfl
  go_enter Try.func27, Try.ntmps27
  go_wp2_with (first
    | (go_at_call 31; with_reducible refine (known.ok _ gd a H n c bt al st true hg 0 hn (Int.le_refl 0) (by omega)).mono ?_; rintro e' w' ⟨rfl, rfl⟩))
  go_ret
  exact ⟨rfl, rfl⟩

set_option maxHeartbeats 4000000 in
set_option maxRecDepth 100000 in
theorem Arm.zero (w : World) (v : Value) (h : ZV w v) (i : Int) :
    Calls Try.prog 9 #[v, .int .i64 i] w fun e w' => e = .returned (.int .i64 1) ∧ w' = w := by
  go_enter Try.func9, Try.ntmps9
  go_wp2_with (first
    | (go_at_call 27; with_reducible refine (day.zero _ v h).mono ?_; rintro e' w' ⟨rfl, rfl⟩))
  go_ret
  exact ⟨rfl, rfl⟩

set_option maxHeartbeats 4000000 in
set_option maxRecDepth 100000 in
theorem step.zero (w : World) (v : Value) (h : ZV w v) (i : Int) (F : Value) :
    Calls Try.prog 28 #[v, .int .i64 i, F] w fun e w' => e = .returned (.int .i64 1) ∧ w' = w := by
  go_enter Try.func28, Try.ntmps28
  go_wp2_with (first
    | (go_at_call 27; with_reducible refine (day.zero _ v h).mono ?_; rintro e' w' ⟨rfl, rfl⟩))
  go_ret
  exact ⟨rfl, rfl⟩

set_option maxHeartbeats 4000000 in
set_option maxRecDepth 100000 in
theorem Copy.zero (w : World) (v : Value) (h : ZV w v) :
    Calls Try.prog 20 #[v] w fun e w' => e = .returned (.pointer none) ∧ w' = w := by
  go_enter Try.func20, Try.ntmps20
  go_wp2_with (first
    | (go_at_call 26; with_reducible refine (Blocks.zero _ v h).mono ?_; rintro e' w' ⟨rfl, rfl⟩))
  go_ret
  exact ⟨rfl, rfl⟩

set_option maxHeartbeats 4000000 in
set_option maxRecDepth 100000 in
theorem Crash.zero (w : World) (v : Value) (h : ZV w v) (A : Value) :
    Calls Try.prog 17 #[v, A] w fun e w' => e = .returned (.int .i64 1) ∧ w' = w := by
  go_enter Try.func17, Try.ntmps17
  go_wp2_with (first
    | (go_at_call 31; with_reducible refine (known.zero _ v h 0).mono ?_; rintro e' w' ⟨rfl, rfl⟩))
  go_ret
  exact ⟨rfl, rfl⟩

set_option maxHeartbeats 4000000 in
set_option maxRecDepth 100000 in
theorem New.few (w : World) (i : Int) (h : i < 64) :
    Calls Try.prog 8 #[.int .i64 i] w fun e w' => e = .returned (.tuple #[.pointer none, .int .i64 2]) ∧ w' = w := by
  have d1 : decide (i < 64) = true := decide_eq_true h
  go_enter Try.func8, Try.ntmps8
  go_wp2
  go_ret2
  exact ⟨rfl, rfl⟩
end
end Go.Proofs.Ytlnfdhcpnbhkdaa.GA
