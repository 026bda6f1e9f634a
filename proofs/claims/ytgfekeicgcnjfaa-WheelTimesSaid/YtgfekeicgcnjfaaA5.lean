/- slices.Delete, of things. No condition. -/
import Derived.Test.YtgfekeicgcnjfaaA3
import Derived.Laws.CopyOwn
import Derived.Laws.CopyRow
import Derived.ChangeKeysEq
import Derived.Deep.RegionHeld3
import Derived.Deep.MidRow
import Derived.Shelf.Abstract
import Derived.Lib.Overlaps
import Derived.Lib.AppendZerosOnto
import Derived.Shelf.Spec.SlicesInsertGrow
namespace Go.Proofs.Ytgfekeicgcnjfaa.GA
open Go.RowKit Go.Shelf Go.Proofs.YtgfekeicgcnjfaaW.PrintWords Go.Proofs.YtgfekeicgcnjfaaW.PrintLast Go.Proofs.YtgfekeicgcnjfaaW.PrintMore
set_option linter.unusedVariables false
set_option linter.unusedSimpArgs false

theorem step_append_runI {P : Program} {ops : Array Oper} {o : Oper} {a : Act} {w : World} {K : Act → World → Prop} {Q : Exit → Act → World → Prop} {E : Prop}
    (hg : o.guard = none) (d x : Operand) (dT sT : TypeId) (hop : o.op = Op.call { callee := Callee.builtin Builtin.append, args := #[d, x], argTypes := #[dT, sT] })
    (v u : Value) (hd : a.eval d = v) (hx : a.eval x = u) {v' : Value} {w' : World} (hr : (Builtin.append_ #[dT, sT] o.type #[v, u]).run P w = .ok v' w') (hK : K (a.put o.dst v') w') :
    if Region.wanted o (yielded ops a.tmps) = true then Oper.wp P o a w K Q else E := by
  have hw : Region.wanted o (yielded ops a.tmps) = true := by simp [Region.wanted, hg]
  rw [if_pos hw]
  unfold Oper.wp
  simp [execOp, hop, resolve, invoke, builtin, hd, hx, hr, Result.andThen]
  exact hK
theorem run_clear_one {P : Program} (w : World) (t ty e : TypeId) (g o c : Nat) (cur : Array Value) (bt : TypeId) (z : Value) (zs : List Value) (ht : P.underlying t = some (.slice e)) (hv : ∀ w, (zeroValue e).run P w = .ok z w) (hz : (Builtin.zeroCells z.cells 1).toList = zs)
    (hg : w.heap[g]? = some (.cells cur bt (0, 0))) (hfit : o + zs.length ≤ cur.size) (h1 : ∀ v ∈ zs, v.oneCell' = true) :
    (Builtin.clear_ #[t] ty #[.slice (some ⟨g, o, none⟩) 1 c]).run P w = .ok (.tuple #[]) (w.setRow g (cur.toList.take o ++ zs ++ cur.toList.drop (o + zs.length)).toArray) := by
  have hst := run_storeCells_at P g o bt zs 0 cur w hg (by simpa using hfit) h1
  simp only [Nat.add_zero] at hst
  simp [Builtin.clear_, run_underlying ht, hv, hz, hst]
theorem zval71 (w : World) : (zeroValue 71).run Try.prog w = .ok (.agg #[.string ⟨#[]⟩, .int .u64 0, .int .u64 0]) w := by
  obtain ⟨i0, hi, hz⟩ := Option.map_eq_some_iff.1 info71
  have hz0 : i0.zero = some (.agg #[.string ⟨#[]⟩, .int .u64 0, .int .u64 0]) := by injection hz
  simp [zeroValue, typeInfo, hi, hz0]
theorem sz71 : (Try.prog.info? 71).map (·.size) = some k71.sz := size71
def zed : List Value := [.string ⟨#[]⟩, .int .u64 0, .int .u64 0]
theorem zed_len : zed.length = 3 := rfl
theorem zed_eq : (Builtin.zeroCells (Value.agg #[.string ⟨#[]⟩, .int .u64 0, .int .u64 0]).cells 1).toList = zed := by simp [Builtin.zeroCells, Value.cells, zed, List.range_succ]
theorem zed_one : ∀ v ∈ zed, v.oneCell' = true := by
  intro v hv
  unfold zed at hv
  rcases List.mem_cons.1 hv with rfl | hv
  · rfl
  · rcases List.mem_cons.1 hv with rfl | hv
    · rfl
    · rcases List.mem_cons.1 hv with rfl | hv
      · rfl
      · cases hv
/-- the cells of a row with an address, empty or not -/
theorem TRow.block {w : World} {B g n cap : Nat} {xs : List S71} (h : TRow w B (.slice (some ⟨g, 0, none⟩) n cap) xs) : n = xs.length ∧ ∃ cur : Array Value, B ≤ g ∧ w.heap[g]? = some (.cells cur 71 (0, 0)) ∧ xs.length ≤ cap ∧ cap ≤ maxLen ∧ cur.size = cap * 3 ∧ cur.toList.take (xs.length * 3) = flat xs := by
  obtain ⟨_, ⟨hv, h0⟩ | ⟨g', cap', cur, h1, h2, h3, h4, h5, h6, h7⟩⟩ := h
  · cases hv
  · injection h1 with e1 e2 e3
    injection e1 with e1
    injection e1 with e1
    subst e1; subst e3
    exact ⟨e2, cur, h2, h3, h4, h5, h6, h7⟩
theorem Delete.fin (B g cap i : Nat) (cur1 : Array Value) (xs : List S71) (w1 : World) (hB : B ≤ g) (h1 : w1.heap[g]? = some (.cells cur1 71 (0, 0))) (h2 : xs.length - 1 ≤ cap) (h3 : cap ≤ maxLen) (h4 : cur1.size = cap * 3) (h5 : xs.length ≤ cap) (h6 : cur1.toList.take ((xs.length - 1) * 3) = flat (xs.eraseIdx i)) (hz : (xs.eraseIdx i).length = xs.length - 1) (hp : 0 < xs.length) :
    TRow (w1.setRow g (cur1.toList.take ((xs.length - 1) * 3) ++ zed ++ cur1.toList.drop ((xs.length - 1) * 3 + zed.length)).toArray) B (.slice (some ⟨g, 0, none⟩) (xs.length - 1) cap) (xs.eraseIdx i) := by
  have hc : cur1.toList.length = cap * 3 := h4
  rw [← hz]
  refine TRow.of hB (setRow_heap w1 g cur1 _ 71 (0, 0) h1) (by rw [hz]; exact h2) h3 ?_ ?_
  · rw [List.size_toArray, List.length_append, List.length_append, List.length_take, List.length_drop, zed_len, hc, hz]
    omega
  · show (cur1.toList.take ((xs.eraseIdx i).length * 3) ++ zed ++ cur1.toList.drop ((xs.eraseIdx i).length * 3 + zed.length)).take _ = _
    rw [hz, h6, List.append_assoc]
    exact List.take_left' (by rw [flat_len, hz])

set_option maxHeartbeats 8000000 in
set_option maxRecDepth 100000 in
theorem Delete.calls (B g cap i : Nat) (xs : List S71) (w : World) (hR : TRow w B (.slice (some ⟨g, 0, none⟩) xs.length cap) xs) (hi : i < xs.length) (hB : B ≤ w.heap.size) :
    Calls Try.prog 42 #[.slice (some ⟨g, 0, none⟩) xs.length cap, .int .i64 i, .int .i64 ((i : Int) + 1)] w fun e w' => e = .returned (.slice (some ⟨g, 0, none⟩) (xs.length - 1) cap) ∧ TRow w' B (.slice (some ⟨g, 0, none⟩) (xs.length - 1) cap) (xs.eraseIdx i) ∧ Below B w w' ∧ (∀ k, k < w.heap.size → k ≠ g → w'.heap[k]? = w.heap[k]?) := by
  obtain ⟨_, cur, hBg, hh, hn, hm, hs, ht⟩ := hR.block
  have hm' : cap ≤ 9223372036854775807 := hm
  have ar1 : (xs.length - 1) * 3 + 3 ≤ cap * 3 := by omega
  have ar2 : xs.length - 1 ≤ cap := by omega
  have ar3 : ¬ ((i : Int) = (i : Int) + 1) := by omega
  have ar4 : i + (xs.length - (i + 1)) = xs.length - 1 := by omega
  have AR5 : Aside0 (wrap64 ((i : Int) + 1) = (i : Int) + 1) := ⟨by unfold wrap64; omega⟩
  obtain ⟨i0, hi0, hz⟩ := Option.map_eq_some_iff.1 size71
  have hS : ∃ u, ∀ W : World, (Instr.slice 53 (.slice (some ⟨g, 0, none⟩) xs.length cap) (some (.int .i64 i)) (some (.int .i64 ((i : Int) + 1))) (some (.int .i64 xs.length))).run Try.prog W = .ok u W := by
    have hel : Try.prog.elem 53 = 71 := by simp [Program.elem, Try.underlying53]
    have hu : Try.prog.underlying 53 = some (.slice (Try.prog.elem 53)) := by rw [hel]; exact Try.underlying53
    refine ⟨sliced (some ⟨g, 0, none⟩) (i : Int).toNat ((i : Int) + 1).toNat (xs.length : Int).toNat 3, fun W => ?_⟩
    rw [run_slice_lhm W 53 (some ⟨g, 0, none⟩) xs.length cap hu .i64 .i64 .i64 (i : Int) ((i : Int) + 1) xs.length (by omega) (by omega) (by omega) (by omega), hel]
    simp [sizeOf, typeInfo, hi0, hz, Result.andThen]
  obtain ⟨u, hS⟩ := hS
  have hT := cutT g xs.length cap i (by omega)
  obtain ⟨A, hA, hF⟩ : ∃ A, A = (if cap = i + 1 then some (⟨g, 0, none⟩ : Addr) else (some (⟨g, 0, none⟩ : Addr)).map (·.add ((i + 1) * k71.sz))) ∧ ∀ W : World, (Instr.slice 53 (.slice (some ⟨g, 0, none⟩) xs.length cap) (some (.int .i64 ((i : Int) + 1))) none none).run Try.prog W = .ok (.slice A (xs.length - (i + 1)) (cap - (i + 1))) W := ⟨_, rfl, fun W => by
    have := cut_from (P := Try.prog) 53 71 .i64 Try.underlying53 hi0 3 hz (some ⟨g, 0, none⟩) xs.length cap ((i : Int) + 1) (by omega) (by omega) W
    rw [show ((i : Int) + 1).toNat = i + 1 by omega] at this
    exact this⟩
  have hM : ∀ W : World, (Instr.slice 53 (.slice (some ⟨g, 0, none⟩) (xs.length - 1) cap) (some (.int .i64 ((xs.length - 1 : Nat) : Int))) (some (.int .i64 xs.length)) none).run Try.prog W = .ok (.slice (some ⟨g, (xs.length - 1) * 3, none⟩) 1 (cap - (xs.length - 1))) W := fun W => by
    have hel : Try.prog.elem 53 = 71 := by simp [Program.elem, Try.underlying53]
    have hu : Try.prog.underlying 53 = some (.slice (Try.prog.elem 53)) := by rw [hel]; exact Try.underlying53
    rw [run_slice_lh W 53 (some ⟨g, 0, none⟩) (xs.length - 1) cap hu .i64 .i64 ((xs.length - 1 : Nat) : Int) xs.length (by omega) (by omega) (by omega), hel]
    simp only [sizeOf, typeInfo, hi0, hz, sliced, Result.andThen, Int.toNat_natCast, Sem.run_bind, Sem.run_pure, Sem.run_map]
    simp only [if_neg (show ¬ cap = xs.length - 1 by omega), show xs.length - (xs.length - 1) = 1 by omega]
    have ha := add_g g ((xs.length - 1) * 3)
    simp [ha, hi0, hz]
  have HRR : Aside0 (Kd.R k71 71 w.drew B (fun _ => True) (.slice (some ⟨g, 0, none⟩) xs.length cap) xs) := ⟨Kd.R_drew hR.toR⟩
  obtain ⟨w1, hrun, hr1, hg1⟩ := Kd.R_delete_run (P := Try.prog) k71 B 53 53 71 i0 Try.underlying53 hi0 hz HRR.out hi hA (cap - (i + 1))
  have hb1 : Below B w w1 := (below_drew (Below.refl B w)).grown hg1 hB (fun k e => by injection e with e; subst e; exact hBg)
  obtain ⟨ju1, cur1, ju2, hh1, hn1, ju3, hs1, ht1⟩ := (TRow.ofR hr1).block
  have hcl : ∀ ty c, (Builtin.clear_ #[53] ty #[.slice (some ⟨g, (xs.length - 1) * 3, none⟩) 1 c]).run Try.prog w1 = .ok (.tuple #[]) (w1.setRow g (cur1.toList.take ((xs.length - 1) * 3) ++ zed ++ cur1.toList.drop ((xs.length - 1) * 3 + zed.length)).toArray) := fun ty c =>
    run_clear_one w1 53 ty 71 g _ c cur1 71 _ zed Try.underlying53 zval71 zed_eq hh1 (by rw [zed_len, hs1]; exact ar1) zed_one
  have z2 : ¬ ((i : Int) = (i : Int) + 1) := by omega
  have z3 : xs.length - 1 + 1 = xs.length := by omega
  have z4 : (xs.eraseIdx i).length = xs.length - 1 := by rw [List.length_eraseIdx_of_lt hi]
  have HR1 := Aside0.mk hr1
  have HG1 := Aside0.mk hg1
  have HB1 := Aside0.mk hb1
  have HZ4 := Aside0.mk z4
  have HBg := Aside0.mk hBg
  have FIN : Aside0 (w1.heap[g]? = some (.cells cur1 71 (0, 0)) ∧ xs.length - 1 ≤ cap ∧ cap ≤ maxLen ∧ cur1.size = cap * 3 ∧ xs.length ≤ cap ∧ cur1.toList.take ((xs.length - 1) * 3) = flat (xs.eraseIdx i)) := ⟨hh1, ar2, hm, hs1, hn, by rw [← z4]; exact ht1⟩
  clear hR hh ht hs hA z4 hBg hz hm hm' hh1 hn1 hs1 ht1 hr1 hg1 hb1 HRR hi0 ju1 ju2 ju3
  have ar5 := AR5.out
  clear AR5
  go_enter Try.func42, Try.ntmps42
  go_wp2_with fail
  go_region_law (refine step_append_runI rfl _ _ 53 53 rfl _ _ (by simp [Act.eval, Act.put]) (by simp [Act.eval, Act.put]) hrun ?_)
  go_wp2
  go_ret
  obtain ⟨h1, h2, h3, h4, h5, h6⟩ := FIN.out
  have hg2 := HG1.out
  refine ⟨rfl, ?_, below_setRow HB1.out HBg.out _, fun k hk hne => ?_⟩
  · have fin := Delete.fin B g cap i cur1 xs w1 HBg.out h1 h2 h3 h4 h5 h6 HZ4.out (Nat.lt_of_le_of_lt (Nat.zero_le _) hi)
    rw [List.append_assoc] at fin
    exact fin
  · exact (setRow_other w1 g k _ hne).trans (hg2.block k hk (fun e => hne (by injection e)))

end Go.Proofs.Ytgfekeicgcnjfaa.GA
