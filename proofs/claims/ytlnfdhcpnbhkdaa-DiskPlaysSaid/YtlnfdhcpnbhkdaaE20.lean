/- Blocks in memory: loads, stores and copies of 64 bytes. No condition. -/
import Derived.Test.YtlnfdhcpnbhkdaaE10
import Derived.Laws.CopyOwn
import Derived.ChangeKeysEq
import Derived.Deep.RegionHeld3
import Derived.Deep.MidRow
import Derived.Great.Walk
namespace Go.Proofs.Ytlnfdhcpnbhkdaa.GA.E
open Go.RowKit Go.Proofs.YtlnfdhcpnbhkdaaW.PrintWords Go.Proofs.YtlnfdhcpnbhkdaaW.PrintLast Go.Proofs.YtlnfdhcpnbhkdaaW.PrintMore
set_option linter.unusedVariables false
set_option linter.unusedSimpArgs false


theorem empty57 (W : World) : (Instr.buildSlice 57 0 #[]).run Try.prog W = .ok (.slice (some ⟨W.heap.size, 0, none⟩) 0 0) (W.alloc (.cells #[] 29)) := by kernel_rfl
theorem empty58 (W : World) : (Instr.buildSlice 58 0 #[]).run Try.prog W = .ok (.slice (some ⟨W.heap.size, 0, none⟩) 0 0) (W.alloc (.cells #[] 65)) := by kernel_rfl
theorem empty_run {o : Oper} {a : Act} {t e : TypeId} (ho : o.op = .buildSlice t 0 #[]) (h : ∀ W : World, (Instr.buildSlice t 0 #[]).run Try.prog W = .ok (.slice (some ⟨W.heap.size, 0, none⟩) 0 0) (W.alloc (.cells #[] e))) (W : World) : (execOp a.eval o).run Try.prog W = .ok (.value (.slice (some ⟨W.heap.size, 0, none⟩) 0 0)) (W.alloc (.cells #[] e (0, 0))) := by
  unfold execOp
  have hm : (#[] : Array (Nat × Operand)).map (fun (i, x) => (i, a.eval x)) = #[] := by simp
  simp only [ho, hm, Sem.run_bind, h, Result.andThen_ok, Sem.run_pure]
theorem zeroCells_29 (m : Nat) : Builtin.zeroCells (bcells zero64) m = bcells (zerosN m) := by
  have h64 : (bcells zero64).size = 64 := by rw [bcells_size]; rfl
  have h := zero_row m
  rw [h64] at h
  unfold Builtin.zeroCells
  rw [h64]
  exact h
section
variable {ops : Array Oper} {rest : List Oper} {o : Oper} {a : Act} {Q : Exit → Act → World → Prop}
theorem cloneB_event {W : World} (hgd : o.guard = none) (s x : Operand) (ho : o.op = .call { callee := .builtin .append, args := #[s, x], argTypes := #[57, 57] }) (g0 g n c : Nat) (hs : a.eval s = .slice (some ⟨g0, 0, none⟩) 0 0) (hx : a.eval x = .slice (some ⟨g, 0, none⟩) n c)
    (F : List Int) (hg : W.heap[g]? = some (.cells (bcells F) 29 (0, 0))) (hl : n * 64 ≤ F.length) (h0 : 0 < n) (h1 : n ≤ 16384)
    (h : ∀ g2 c2 F2 w1, g2 = W.heap.size → w1.heap[g2]? = some (.cells (bcells F2) 29 (0, 0)) → n * 64 ≤ F2.length → F2.take (n * 64) = F.take (n * 64) → Below W.heap.size W w1 → wpList Try.prog ops Q rest (a.put o.dst (.slice (some ⟨g2, 0, none⟩) n c2)) w1) : wpList Try.prog ops Q (o :: rest) a W := by
  have hi : (Try.prog.info? 29).map (fun i => (i.zero, i.size, i.bytes)) = some (some (.agg (bcells zero64)), 64, 64) := by kernel_rfl
  obtain ⟨i, hit, hi⟩ := Option.map_eq_some_iff.1 hi
  simp only [Prod.mk.injEq] at hi
  obtain ⟨hz, hsz, hby⟩ := hi
  have lt : (F.take (n * 64)).length = n * 64 := by rw [List.length_take]; omega
  have hrun := run_append_grow (P := Try.prog) (w := W) 57 o.type 29 i (.agg (bcells zero64)) Try.underlying57 hit hz ⟨g0, 0, none⟩ 0 0 [] (by rw [Nat.zero_mul]; rfl) (fun j v hv => by simp at hv) ⟨g, 0, none⟩ n c (encs (Value.int .u8) (F.take (n * 64))) (by rw [encs_length, lt, hsz]) (fun j v hv => by
    have hj : j < n * 64 := by have := (List.getElem?_eq_some_iff.1 hv).1; rwa [encs_length, lt] at this
    rw [Addr.add_mid, Nat.zero_add, blk_cell hg]
    unfold bcells
    rw [List.getElem?_toArray]
    unfold encs at hv ⊢
    rw [List.map_take, List.getElem?_take_of_lt hj] at hv
    exact hv) (by omega) (by omega) (growslice_fits (by omega) (by rw [hby]; omega))
  rw [show (Value.agg (bcells zero64)).cells = bcells zero64 from rfl, zeroCells_29] at hrun
  have e : ([] : List Value).toArray ++ (encs (Value.int .u8) (F.take (n * 64))).toArray ++ bcells (zerosN (grownCap W (0 + n) 0 29 - (0 + n))) = bcells (F.take (n * 64) ++ zerosN (grownCap W (0 + n) 0 29 - (0 + n))) := by
    unfold bcells encs
    simp
  rw [e, Nat.zero_add] at hrun
  refine wpList_plain hgd fun K hK => ?_
  unfold Oper.wp
  simp [execOp, ho, resolve, invoke, builtin, hs, hx, hrun, Result.andThen]
  exact hK _ _ (h _ _ _ _ rfl (blk_new W.drew _) (by rw [List.length_append, lt]; omega) (by rw [List.take_left' lt]) (below_alloc (Below.refl W.heap.size W).drew _))
theorem cloneA_event {W : World} (hgd : o.guard = none) (s x : Operand) (ho : o.op = .call { callee := .builtin .append, args := #[s, x], argTypes := #[58, 58] }) (g0 : Nat) (A : Option Addr) (c : Nat) (l : List (Int × List Int)) (hs : a.eval s = .slice (some ⟨g0, 0, none⟩) 0 0) (hx : a.eval x = .slice A l.length c)
    (B B2 : Nat) (hA : AskOwn B W (.slice A l.length c) l) (hlen : l.length * 72 ≤ 140737488355328) (hB : B2 ≤ W.heap.size) (hg0 : W.heap[g0]? = some (.cells #[] 65 (0, 0))) (hB0 : B2 ≤ g0)
    (h : ∀ v w1, AskOwn B2 w1 v l → Below W.heap.size W w1 → wpList Try.prog ops Q rest (a.put o.dst v) w1) : wpList Try.prog ops Q (o :: rest) a W := by
  have hi : (Try.prog.info? 65).map (fun i => (i.zero, i.size, i.bytes)) = some (some (.agg (askC 0 zero64)), 65, 72) := infoAsk
  obtain ⟨i, hit, hi⟩ := Option.map_eq_some_iff.1 hi
  simp only [Prod.mk.injEq] at hi
  obtain ⟨hz, hsz, hby⟩ := hi
  obtain ⟨_, inner, ⟨hil, ho'⟩, hr⟩ := hA
  by_cases h0 : l.length = 0
  · have hl0 : l = [] := List.eq_nil_of_length_eq_zero h0
    subst hl0
    have hrun : (Builtin.append_ #[58, 58] o.type #[.slice (some ⟨g0, 0, none⟩) 0 0, .slice A ([] : List (Int × List Int)).length c]).run Try.prog W = .ok (.slice (some ⟨g0, 0, none⟩) 0 0) W := by
      rcases A with _ | ad
      · simp [Builtin.append_, run_underlying Try.underlying58, sizeOf, typeInfo, hit, Builtin.lenOf, Builtin.firstCells, storeCells]
      · have hf := run_firstCells_some (P := Try.prog) W i.size 0 ad 0 c [] (by rw [Nat.zero_mul]; rfl) (fun j v hv => by simp at hv)
        simp [Builtin.append_, run_underlying Try.underlying58, sizeOf, typeInfo, hit, Builtin.lenOf, hf, storeCells]
    refine wpList_plain hgd fun K hK => ?_
    unfold Oper.wp
    simp only [List.length_nil] at hx hrun
    simp [execOp, ho, resolve, invoke, builtin, hs, hx, hrun, Result.andThen]
    refine hK _ _ (h _ _ ⟨fun _ _ => trivial, [], ⟨rfl, .inr ⟨g0, 0, #[], rfl, hB0, hg0, Nat.le_refl 0, Nat.zero_le _, rfl, rfl⟩⟩, Reps.none _ _⟩ (Below.refl _ _))
  · rcases ho' with ⟨_, h00⟩ | ⟨g, cap, cur, hv, _, hg, _, _, hcs, hcur⟩
    · exact absurd h00 h0
    injection hv with hv _ _
    subst hv
    have hil' : inner.length = l.length * 65 := hil
    have hcs' : cur.size = cap * 65 := hcs
    have hcur' : cur.toList.take (l.length * 65) = inner := hcur
    have hrun := run_append_grow (P := Try.prog) (w := W) 58 o.type 65 i (.agg (askC 0 zero64)) Try.underlying58 hit hz ⟨g0, 0, none⟩ 0 0 [] (by rw [Nat.zero_mul]; rfl) (fun j v hv => by simp at hv) ⟨g, 0, none⟩ l.length c inner (by rw [hsz]; exact hil') (fun j v hv => by
      have hj : j < l.length * 65 := by have := (List.getElem?_eq_some_iff.1 hv).1; omega
      rw [← hcur', List.getElem?_take_of_lt hj] at hv
      rw [Addr.add_mid, Nat.zero_add, blk_cell hg, ← Array.getElem?_toList]
      exact hv) (by omega) (by omega) (growslice_fits (by omega) (by rw [hby]; omega))
    rw [Nat.zero_add] at hrun
    refine wpList_plain hgd fun K hK => ?_
    unfold Oper.wp
    simp [execOp, ho, resolve, invoke, builtin, hs, hx, hrun, Result.andThen]
    have hge := grownCap_ge W l.length 0 65
    have hcm : grownCap W l.length 0 65 ≤ maxLen := grownCap_le_maxLen W l.length 0 65 (by unfold maxLen; omega)
    refine hK _ _ (h _ _ ⟨fun _ _ => trivial, inner, ⟨hil, .inr ⟨W.heap.size, grownCap W l.length 0 65, _, rfl, hB, blk_new W.drew _, hge, hcm, ?_, ?_⟩⟩, hr⟩ (below_alloc (Below.refl W.heap.size W).drew _))
    · show _ = grownCap W l.length 0 65 * 65
      have hzs : ((Value.agg (askC 0 zero64)).cells).size = 65 := askC_size 0 zero64 rfl
      simp only [Array.size_append, List.size_toArray, List.length_nil, Nat.zero_add, hil', Builtin.zeroCells, Array.size_map, Array.size_range, hzs]
      rw [← Nat.add_mul]
      congr 1
      omega
    · show List.take (l.length * 65) _ = inner
      simp only [Array.toList_append, List.append_assoc]
      rw [← hil']
      first | exact List.take_left | (rw [List.nil_append]; exact List.take_left)
end

set_option maxHeartbeats 8000000 in
set_option maxRecDepth 100000 in
theorem cloneB.calls (w : World) (g n c : Nat) (F : List Int) (hg : w.heap[g]? = some (.cells (bcells F) 29 (0, 0))) (hl : n * 64 ≤ F.length) (h0 : 0 < n) (h1 : n ≤ 16384) :
    Calls Try.prog 33 #[.slice (some ⟨g, 0, none⟩) n c] w fun e' w' => ∃ g2 c2, e' = .returned (.slice (some ⟨g2, 0, none⟩) n c2) ∧ (∃ F2, w'.heap[g2]? = some (.cells (bcells F2) 29 (0, 0)) ∧ n * 64 ≤ F2.length ∧ F2.take (n * 64) = F.take (n * 64)) ∧ w.heap.size ≤ g2 ∧ Below w.heap.size w w' := by
  have HB := Aside0.mk (Below.refl w.heap.size w)
  have BKf := Aside0.mk hg
  have HL := Aside0.mk hl
  have H0 := Aside0.mk h0
  have H1 := Aside0.mk h1
  clear hg hl h0 h1
  have heq := fun w => Lib.run_eql_slice_nil (P := Try.prog) w 57 29 (some ⟨g, 0, none⟩) n c 0 0 Try.underlying57
  go_enter Try.func33, Try.ntmps33
  go_wp2_with (first
    | ((with_reducible refine gate_dst (N := 5) rfl ?_); refine mk_event rfl (N := 5) rfl (cs := #[]) (t := 29) (n := 0) (empty_run rfl empty57 _) ?_; intro g0 hg w0 hbox hb; have G0 := Aside0.mk (show w.heap.size ≤ g0 from by rw [hg]; exact below_size (by repeat (first | (with_reducible first | exact HB.out | apply below_alloc | apply pw_below_drewN | apply below_drew1) | exact HB.out))); have BK0 := Aside0.mk hbox; clear hbox hg; have n0_ := Aside0.mk (below_step (by repeat (first | (with_reducible first | exact HB.out | apply below_alloc | apply pw_below_drewN | apply below_drew1) | exact HB.out)) hb); (first | have n1_ := Aside0.mk (blk_below BKf.out hb) | have n1_ := Aside0.mk (blk_below (blk_drewN BKf.out _) hb) | have n1_ := Aside0.mk (blk_below (blk_drew BKf.out) hb) | have n1_ := Aside0.mk (blk_below (blk_alloc BKf.out _) hb) | have n1_ := Aside0.mk (blk_below (by (with_reducible repeat (first | refine blk_drewN ?_ _ | refine blk_drew ?_ | refine blk_alloc ?_ _)); exact BKf.out) hb)); clear HB BKf; have HB := n0_; have BKf := n1_; clear n0_ n1_ hb)
    | ((with_reducible refine gate_builtin (b := .append) (xs := #[.tmp 5, .tmp 6]) rfl ?_); at_builtin; refine cloneB_event rfl (.tmp 5) (.tmp 6) rfl g0 g n c rfl rfl F BKf.out HL.out H0.out H1.out ?_; intro g2 c2 F2 w2 e2 h2 hl2 ht2 hb; have B2 := Aside0.mk h2; have L2 := Aside0.mk hl2; have T2 := Aside0.mk ht2; have G2 := Aside0.mk (show w.heap.size ≤ g2 from by rw [e2]; exact below_size (by repeat (first | (with_reducible first | exact HB.out | apply below_alloc | apply pw_below_drewN | apply below_drew1) | exact HB.out))); clear e2 h2 hl2 ht2; have n0_ := Aside0.mk (below_step (by repeat (first | (with_reducible first | exact HB.out | apply below_alloc | apply pw_below_drewN | apply below_drew1) | exact HB.out)) hb); (first | have n1_ := Aside0.mk (blk_below BKf.out hb) | have n1_ := Aside0.mk (blk_below (blk_drewN BKf.out _) hb) | have n1_ := Aside0.mk (blk_below (blk_drew BKf.out) hb) | have n1_ := Aside0.mk (blk_below (blk_alloc BKf.out _) hb) | have n1_ := Aside0.mk (blk_below (by (with_reducible repeat (first | refine blk_drewN ?_ _ | refine blk_drew ?_ | refine blk_alloc ?_ _)); exact BKf.out) hb)); clear HB BKf; have HB := n0_; have BKf := n1_; clear n0_ n1_ hb))
  go_ret
  exact ⟨g2, c2, rfl, ⟨F2, B2.out, L2.out, T2.out⟩, G2.out, by repeat (first | (with_reducible first | exact HB.out | apply below_alloc | apply pw_below_drewN | apply below_drew1) | exact HB.out)⟩

set_option maxHeartbeats 8000000 in
set_option maxRecDepth 100000 in
theorem cloneA.calls (w : World) (B : Nat) (bt : Value) (l : List (Int × List Int)) (ha : AskOwn B w bt l) (hl : l.length * 72 ≤ 140737488355328) :
    Calls Try.prog 34 #[bt] w fun e' w' => ∃ v, e' = .returned v ∧ AskOwn w.heap.size w' v l ∧ Below w.heap.size w w' := by
  have HB := Aside0.mk (Below.refl w.heap.size w)
  have HL := Aside0.mk hl
  obtain ⟨A, c, e⟩ := Kd.R_slice ha
  subst e
  rcases A with _ | ad
  · have hn : l.length = 0 ∧ c = 0 := by
      obtain ⟨_, inner, ⟨_, ho⟩, _⟩ := ha
      rcases ho with ⟨he, hn⟩ | ⟨g, cap, cur, he, _⟩
      · injection he with _ _ h3
        exact ⟨hn, h3⟩
      · injection he with h1 _ _
        cases h1
    obtain ⟨hn, rfl⟩ := hn
    have hl0 : l = [] := List.eq_nil_of_length_eq_zero hn
    subst hl0
    show Calls Try.prog 34 #[.slice none 0 0] w _
    clear ha hl
    have heq := fun w => Lib.run_eql_slice_nil (P := Try.prog) w 58 65 none 0 0 0 0 Try.underlying58
    go_enter Try.func34, Try.ntmps34
    go_wp2
    go_ret
    exact ⟨_, rfl, Kd.R_nil _ _ _ _ _, HB.out⟩
  · have HA := Aside0.mk ha
    clear ha hl
    have heq := fun w => Lib.run_eql_slice_nil (P := Try.prog) w 58 65 (some ad) l.length c 0 0 Try.underlying58
    go_enter Try.func34, Try.ntmps34
    go_wp2_with (first
      | ((with_reducible refine gate_dst (N := 5) rfl ?_); refine mk_event rfl (N := 5) rfl (cs := #[]) (t := 65) (n := 0) (empty_run rfl empty58 _) ?_; intro g0 hg w0 hbox hb; have G0 := Aside0.mk (show w.heap.size ≤ g0 from by rw [hg]; exact below_size (by repeat (first | (with_reducible first | exact HB.out | apply below_alloc | apply pw_below_drewN | apply below_drew1) | exact HB.out))); have BK0 := Aside0.mk hbox; have hb0 := hb; clear hbox hg; have n0_ := Aside0.mk (below_step (by repeat (first | (with_reducible first | exact HB.out | apply below_alloc | apply pw_below_drewN | apply below_drew1) | exact HB.out)) hb); clear HB; have HB := n0_; clear n0_ hb; have n1 := Aside0.mk (Kd.R_below HA.out hb0); clear HA hb0; have HA := n1; clear n1)
      | ((with_reducible refine gate_builtin (b := .append) (xs := #[.tmp 5, .tmp 6]) rfl ?_); at_builtin; refine cloneA_event rfl (.tmp 5) (.tmp 6) rfl g0 (some ad) c l rfl rfl B w.heap.size HA.out HL.out (below_size (by repeat (first | (with_reducible first | exact HB.out | apply below_alloc | apply pw_below_drewN | apply below_drew1) | exact HB.out))) BK0.out G0.out ?_; intro v1 w2 h2 hb; have O2 := Aside0.mk h2; clear h2; have n0_ := Aside0.mk (below_step (by repeat (first | (with_reducible first | exact HB.out | apply below_alloc | apply pw_below_drewN | apply below_drew1) | exact HB.out)) hb); clear HB; have HB := n0_; clear n0_ hb))
    go_ret
    exact ⟨v1, rfl, O2.out, by repeat (first | (with_reducible first | exact HB.out | apply below_alloc | apply pw_below_drewN | apply below_drew1) | exact HB.out)⟩
end Go.Proofs.Ytlnfdhcpnbhkdaa.GA.E
