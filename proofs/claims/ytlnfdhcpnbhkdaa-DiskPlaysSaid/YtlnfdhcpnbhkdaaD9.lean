/- Blocks in memory: loads, stores and copies of 64 bytes. No condition. -/
import Derived.Test.YtlnfdhcpnbhkdaaD8
import Derived.Laws.CopyOwn
import Derived.ChangeKeysEq
import Derived.Deep.RegionHeld3
import Derived.Deep.MidRow
namespace Go.Proofs.Ytlnfdhcpnbhkdaa.GA
open Go.RowKit Go.Proofs.YtlnfdhcpnbhkdaaW.PrintWords Go.Proofs.YtlnfdhcpnbhkdaaW.PrintLast Go.Proofs.YtlnfdhcpnbhkdaaW.PrintMore
set_option linter.unusedVariables false
set_option linter.unusedSimpArgs false


theorem AskOwn.at {B : Nat} {w : World} {bt : Value} {l : List (Int × List Int)} (h : AskOwn B w bt l) (k : Nat) (x : Int × List Int) (hk : l[k]? = some x) : ∃ g c, bt = .slice (some ⟨g, 0, none⟩) l.length c ∧ x.2.length = 64 ∧ w.rangeAt g (k * 65) (.int .i64 x.1 :: encs (Value.int .u8) x.2) ∧ ∃ cur, w.heap[g]? = some (.cells cur 65 (0, 0)) := by
  obtain ⟨_, inner, ⟨hlen, ho⟩, hrl, hr⟩ := h
  have hkl : k < l.length := (List.getElem?_eq_some_iff.1 hk).1
  rcases ho with ⟨_, h0⟩ | ⟨g, cap, cur, hv0, _, hg, _, _, hsz, hcur⟩
  · omega
  · obtain ⟨h1, h2⟩ := hr k x hk
    have h1' : ((cur.toList.take (l.length * 65)).drop (k * 65)).take 65 = .int .i64 x.1 :: encs (Value.int .u8) x.2 := by
      have e : cur.toList.take (l.length * 65) = inner := hcur
      rw [e]
      exact h1
    refine ⟨g, cap, hv0, h2, fun j v hv => ?_, cur, hg⟩
    have hj : j < 65 := by
      have := (List.getElem?_eq_some_iff.1 hv).1
      rw [List.length_cons, encs_length, h2] at this
      exact this
    have hm := Nat.mul_le_mul_right 65 (Nat.succ_le_of_lt hkl)
    rw [Nat.succ_mul] at hm
    rw [← h1', List.getElem?_take_of_lt hj, List.getElem?_drop, List.getElem?_take_of_lt (by omega)] at hv
    rw [blk_cell hg, ← Array.getElem?_toList]
    exact hv
theorem ask_size (i : Int) (b : List Int) (h : b.length = 64) : (Try.prog.info? 65).map (·.size) = some (.int .i64 i :: encs (Value.int .u8) b : List Value).length := by
  rw [List.length_cons, encs_length, h]
  kernel_rfl
theorem ask_size' (i : Int) (b : List Int) (h : b.length = 64) : (Try.prog.info? 65).map (·.size) = some (askC i b).size := by
  rw [askC_size i b h]
  kernel_rfl
theorem askC_all (i : Int) (b : List Int) : (askC i b).all (·.oneCell') = true := by
  refine all_oneCell_toArray (fun v hv => ?_)
  rcases List.mem_cons.1 hv with rfl | hv
  · rfl
  · obtain ⟨y, _, rfl⟩ := List.mem_map.1 hv
    rfl
theorem askC_0 (i : Int) (b : List Int) : (askC i b)[0]? = some (.int .i64 i) := rfl
theorem askC_b (i : Int) (b : List Int) (j : Nat) (h : j < b.length) : (askC i b)[1 + j]? = some (.int .u8 (rd b (j : Int))) := by
  unfold askC
  have e : (Value.int .i64 i :: encs (Value.int .u8) b).toArray[1 + j]? = (Value.int .i64 i :: encs (Value.int .u8) b)[1 + j]? := by simp
  rw [e, show 1 + j = j + 1 by omega, List.getElem?_cons_succ, encs_get (d := 0) b j h]
  unfold rd
  rw [Int.toNat_natCast]
theorem alloc65_make (W : World) : (Instr.alloc 65 true (.tuple #[])).run Try.prog W = .ok (.pointer (some ⟨W.heap.size, 0, none⟩)) (W.alloc (.cells (askC 0 zero64) 65)) := by kernel_rfl
theorem alloc65_run {o : Oper} {a : Act} (ho : o.op = .alloc 65) (W : World) : (execOp a.eval o).run Try.prog W = .ok (.value (.pointer (some ⟨W.heap.size, 0, none⟩))) (W.alloc (.cells (askC 0 zero64) 65 (0, 0))) := by
  unfold execOp
  simp only [ho, Sem.run_bind, alloc65_make, Result.andThen_ok, Sem.run_pure]
section
variable {ops : Array Oper} {rest : List Oper} {o : Oper} {a : Act} {Q : Exit → Act → World → Prop}
theorem wpList_load_ask {w : World} (hgd : o.guard = none) (x : Operand) (ho : o.op = .load 65 x) (g off : Nat) (hx : a.eval x = .pointer (some ⟨g, off, none⟩)) (i : Int) (b : List Int) (hb : b.length = 64) (hr : w.rangeAt g off (.int .i64 i :: encs (Value.int .u8) b))
    (h : wpList Try.prog ops Q rest (a.put o.dst (.agg (askC i b))) w) : wpList Try.prog ops Q (o :: rest) a w :=
  wpList_load_mid hgd 65 x ho g off hx _ _ hr Try.underlying65 rfl (ask_size i b hb) h
/-- bytes copied into a block that is known, in a region that draws its order -/
theorem copyB_ev {W w0 : World} {K : Act → World → Prop} (hw : Region.wanted o (yielded ops a.tmps) = true) {N : Option Tmp} (hN : o.dst = N) (d s : Operand) (ho : o.op = .call { callee := .builtin .copy, args := #[d, s], argTypes := #[68, 68] }) (g off dl dc g2 off2 sl sc : Nat) (hd : a.eval d = .slice (some ⟨g, off, none⟩) dl dc) (hs : a.eval s = .slice (some ⟨g2, off2, none⟩) sl sc)
    (H ys : List Int) (t : TypeId) (hg : W.heap[g]? = some (.cells (bcells H) t (0, 0))) (hn : ys.length = Nat.min sl dl) (hsrc : ∀ j, j < ys.length → W.cell? ⟨g2, off2 + j, none⟩ = some (.int .u8 (rd ys (j : Int)))) (hf : off + ys.length ≤ H.length) (B : Nat) (hb : Below B w0 W) (hBg : B ≤ g)
    (h : ∀ w1, w1.heap[g]? = some (.cells (bcells (splice H off ys)) t (0, 0)) → Aside0 (∀ k, k ≠ g → w1.heap[k]? = W.heap[k]?) → Below B w0 w1 → K (a.put N (goInt ys.length)) w1) : if Region.wanted o (yielded ops a.tmps) = true then Oper.wp Try.prog o a W K Q else K (a.put N undef) W := by
  rw [if_pos hw]
  subst hN
  have hrun := run_copy_row Try.prog W 68 68 o.type 5 g off dl dc ⟨g2, off2, none⟩ sl sc (bcells H) t (encs (Value.int .u8) ys) Try.underlying68 bcells_ofSize hg (by rw [encs_length]; exact hn) (fun j v hv => by
    have hj : j < ys.length := by have := (List.getElem?_eq_some_iff.1 hv).1; rwa [encs_length] at this
    rw [Addr.add_mid, hsrc j hj, ← hv, encs_get (d := (0 : Int)) ys j hj]
    unfold rd
    rw [Int.toNat_natCast]) (by rw [encs_length, bcells_size]; exact hf) (fun v hv => by obtain ⟨x, _, rfl⟩ := List.mem_map.1 hv; rfl)
  have e : ((bcells H).toList.take off ++ encs (Value.int .u8) ys ++ (bcells H).toList.drop (off + (encs (Value.int .u8) ys).length)).toArray = bcells (splice H off ys) := by
    unfold bcells splice encs
    simp only [List.map_append, List.map_take, List.map_drop, List.length_map, List.append_assoc]
  rw [e, encs_length] at hrun
  unfold Oper.wp
  simp only [execOp, ho, resolve, invoke, builtin, hd, hs, hrun, Result.andThen]
  simp [hd, hs, hrun, Result.andThen]
  exact h _ (setRow_heap W g _ _ t _ hg) ⟨fun k hk => setRow_other W g k _ hk⟩ (below_setRow hb hBg _)
theorem run_copy_blocks (W : World) (ty : TypeId) (ga gh n : Nat) (A H : List Int) (hA : W.heap[ga]? = some (.cells (bcells A) 29 (0, 0))) (hH : W.heap[gh]? = some (.cells (bcells H) 29 (0, 0))) (la : A.length = n * 64) (lh : H.length = n * 64) :
    (Builtin.copy_ #[57, 57] ty #[.slice (some ⟨ga, 0, none⟩) n n, .slice (some ⟨gh, 0, none⟩) n n]).run Try.prog W = .ok (goInt n) (W.setRow ga (bcells H)) := by
  have hl := run_loadCells_list (P := Try.prog) W ⟨gh, 0, none⟩ (encs (Value.int .u8) H) (fun j v hv => by
    rw [Addr.add_mid, Nat.zero_add, blk_cell hH]
    unfold bcells
    rw [List.getElem?_toArray]
    exact hv)
  have hst := run_storeCells_at Try.prog ga 0 29 (encs (Value.int .u8) H) 0 (bcells A) W hA (by rw [encs_length, bcells_size]; omega) (fun v hv => by obtain ⟨x, _, rfl⟩ := List.mem_map.1 hv; rfl)
  have e : ((bcells A).toList.take (0 + 0) ++ encs (Value.int .u8) H ++ (bcells A).toList.drop (0 + 0 + (encs (Value.int .u8) H).length)).toArray = bcells H := by
    rw [List.take_zero, List.nil_append, List.drop_of_length_le (by rw [Array.length_toList, bcells_size, encs_length]; omega), List.append_nil]
    rfl
  rw [e] at hst
  rw [encs_length, lh] at hl
  cases hq : Try.prog.info? 29 with
  | none => have := seal_info; rw [hq] at this; cases this
  | some i =>
    have hi : i.size = 64 := by have := seal_info; rw [hq] at this; simpa using this
    simp [Builtin.copy_, run_underlying Try.underlying57, Builtin.lenOf, Builtin.firstCells, sizeOf, typeInfo, hq, hi, hl, hst]
theorem copyAll_ev {W w0 : World} {K : Act → World → Prop} (hw : Region.wanted o (yielded ops a.tmps) = true) {N : Option Tmp} (hN : o.dst = N) (d s : Operand) (ho : o.op = .call { callee := .builtin .copy, args := #[d, s], argTypes := #[57, 57] }) (ga gh n : Nat) (hd : a.eval d = .slice (some ⟨ga, 0, none⟩) n n) (hs : a.eval s = .slice (some ⟨gh, 0, none⟩) n n)
    (A H : List Int) (hA : W.heap[ga]? = some (.cells (bcells A) 29 (0, 0))) (hH : W.heap[gh]? = some (.cells (bcells H) 29 (0, 0))) (la : A.length = n * 64) (lh : H.length = n * 64) (B : Nat) (hb : Below B w0 W) (hBg : B ≤ ga)
    (h : ∀ w1, w1.heap[ga]? = some (.cells (bcells H) 29 (0, 0)) → Aside0 (∀ k, k ≠ ga → w1.heap[k]? = W.heap[k]?) → Below B w0 w1 → K (a.put N (goInt n)) w1) : if Region.wanted o (yielded ops a.tmps) = true then Oper.wp Try.prog o a W K Q else K (a.put N undef) W := by
  rw [if_pos hw]
  subst hN
  have hrun := run_copy_blocks W o.type ga gh n A H hA hH la lh
  unfold Oper.wp
  simp [execOp, ho, resolve, invoke, builtin, hd, hs, hrun, Result.andThen]
  exact h _ (setRow_heap W ga _ _ 29 _ hA) ⟨fun k hk => setRow_other W ga k _ hk⟩ (below_setRow hb hBg _)
end
/-- which bytes are held -/
def partR (p : Int) : Nat × Nat := if p < 1 then (0, 0) else if p ≥ 64 then (0, 64) else if p % 2 = 1 then (0, 32) else (32, 64)

set_option maxHeartbeats 8000000 in
set_option maxRecDepth 100000 in
theorem part.calls (p : Int) (w : World) :
    Calls Try.prog 32 #[.int .i64 p] w fun e' w' => e' = .returned (.tuple #[.int .i64 ((partR p).1 : Int), .int .i64 ((partR p).2 : Int)]) ∧ w' = w := by
  unfold partR
  by_cases c1 : p < 1
  · rw [if_pos c1]
    skip
    show Calls Try.prog 32 #[.int .i64 p] w fun e' w' => e' = .returned (.tuple #[.int .i64 0, .int .i64 0]) ∧ w' = w
    go_enter Try.func32, Try.ntmps32
    go_wp2
    go_ret2
    exact ⟨rfl, rfl⟩
  · have d1 := decide_eq_false c1
    rw [if_neg c1]
    by_cases c2 : p ≥ 64
    · rw [if_pos c2]
      have d2 : decide (64 ≤ p) = true := decide_eq_true c2
      skip
      show Calls Try.prog 32 #[.int .i64 p] w fun e' w' => e' = .returned (.tuple #[.int .i64 0, .int .i64 64]) ∧ w' = w
      go_enter Try.func32, Try.ntmps32
      go_wp2
      go_ret2
      exact ⟨rfl, rfl⟩
    · rw [if_neg c2]
      have d2 : decide (64 ≤ p) = false := decide_eq_false c2
      have e3 : Int.tmod p 2 = p % 2 := Int.tmod_eq_emod_of_nonneg (by omega)
      by_cases c3 : p % 2 = 1
      · rw [if_pos c3]
        have d3 : Int.tmod p 2 = 1 := e3.trans c3
        clear e3
        show Calls Try.prog 32 #[.int .i64 p] w fun e' w' => e' = .returned (.tuple #[.int .i64 0, .int .i64 32]) ∧ w' = w
        go_enter Try.func32, Try.ntmps32
        go_wp2
        go_ret2
        exact ⟨rfl, rfl⟩
      · rw [if_neg c3]
        have d3 : Int.tmod p 2 = 0 := by rw [e3]; omega
        clear e3
        show Calls Try.prog 32 #[.int .i64 p] w fun e' w' => e' = .returned (.tuple #[.int .i64 32, .int .i64 64]) ∧ w' = w
        go_enter Try.func32, Try.ntmps32
        go_wp2
        go_ret2
        exact ⟨rfl, rfl⟩
end Go.Proofs.Ytlnfdhcpnbhkdaa.GA
