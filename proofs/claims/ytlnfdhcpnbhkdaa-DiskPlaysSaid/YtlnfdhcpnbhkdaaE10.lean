/- Blocks in memory: loads, stores and copies of 64 bytes. No condition. -/
import Derived.Test.YtlnfdhcpnbhkdaaE14
import Derived.Laws.CopyOwn
import Derived.ChangeKeysEq
import Derived.Deep.RegionHeld3
import Derived.Deep.MidRow
import Derived.Great.Walk
namespace Go.Proofs.Ytlnfdhcpnbhkdaa.GA.E
open Go.RowKit Go.Proofs.YtlnfdhcpnbhkdaaW.PrintWords Go.Proofs.YtlnfdhcpnbhkdaaW.PrintLast Go.Proofs.YtlnfdhcpnbhkdaaW.PrintMore
set_option linter.unusedVariables false
set_option linter.unusedSimpArgs false


/-- all but a disk's three blocks stays -/
def Fx (gd ga gh : Nat) (w w' : World) : Prop := ∀ (k : Nat) (o : Obj), w.heap[k]? = some o → k ≠ gd → k ≠ ga → k ≠ gh → w'.heap[k]? = some o
theorem Fx.refl (gd ga gh : Nat) (w : World) : Fx gd ga gh w w := fun _ _ h _ _ _ => h
theorem Fx.trans {gd ga gh : Nat} {w w1 w2 : World} (h1 : Fx gd ga gh w w1) (h2 : Fx gd ga gh w1 w2) : Fx gd ga gh w w2 := fun k o h a b d => h2 k o (h1 k o h a b d) a b d
theorem Fx.below {gd ga gh : Nat} {w w' : World} (h : Below w.heap.size w w') : Fx gd ga gh w w' := fun k o hk _ _ _ => blk_below hk h
theorem Fx.d {gd ga gh : Nat} {w w' : World} (ho : ∀ k, k ≠ gd → w'.heap[k]? = w.heap[k]?) : Fx gd ga gh w w' := fun k o h a _ _ => (ho k a).trans h
theorem Fx.a {gd ga gh : Nat} {w w' : World} (ho : ∀ k, k ≠ ga → w'.heap[k]? = w.heap[k]?) : Fx gd ga gh w w' := fun k o h _ a _ => (ho k a).trans h
theorem Fx.h {gd ga gh : Nat} {w w' : World} (ho : ∀ k, k ≠ gh → w'.heap[k]? = w.heap[k]?) : Fx gd ga gh w w' := fun k o h _ _ a => (ho k a).trans h
theorem Fx.get {gd ga gh : Nat} {w w' : World} (h : Fx gd ga gh w w') {k : Nat} {o : Obj} (hk : w.heap[k]? = some o) (a : k ≠ gd) (b : k ≠ ga) (d : k ≠ gh) : w'.heap[k]? = some o := h k o hk a b d
/-- a disk of n blocks behind a crash -/
def _root_.Go.Proofs.Ytlnfdhcpnbhkdaa.GA.DS.crashE (s : DS) (n : Nat) (p : List Int) : DS := { asked := splice s.asked 0 ((crashTo s.held s.btw p s.btw.length).take (n * 64)), held := crashTo s.held s.btw p s.btw.length, btw := [], al := 0, st := s.st, ni := false }
theorem askLen {A H : List Int} {n : Nat} (la : n * 64 ≤ A.length) (lh : n * 64 ≤ H.length) : n * 64 ≤ (splice A 0 (H.take (n * 64))).length := by
  rw [length_splice _ _ _ (by rw [List.length_take]; omega)]
  exact la
theorem run_copy_blocks (W : World) (ty : TypeId) (ga gh n ca ch : Nat) (A H : List Int) (hA : W.heap[ga]? = some (.cells (bcells A) 29 (0, 0))) (hH : W.heap[gh]? = some (.cells (bcells H) 29 (0, 0))) (la : n * 64 ≤ A.length) (lh : n * 64 ≤ H.length) :
    (Builtin.copy_ #[57, 57] ty #[.slice (some ⟨ga, 0, none⟩) n ca, .slice (some ⟨gh, 0, none⟩) n ch]).run Try.prog W = .ok (goInt n) (W.setRow ga (bcells (splice A 0 (H.take (n * 64))))) := by
  have lt : (H.take (n * 64)).length = n * 64 := by rw [List.length_take]; omega
  have hl := run_loadCells_list (P := Try.prog) W ⟨gh, 0, none⟩ (encs (Value.int .u8) (H.take (n * 64))) (fun j v hv => by
    have hj : j < n * 64 := by have := (List.getElem?_eq_some_iff.1 hv).1; rwa [encs_length, lt] at this
    rw [Addr.add_mid, Nat.zero_add, blk_cell hH]
    unfold bcells
    rw [List.getElem?_toArray]
    unfold encs at hv ⊢
    rw [List.map_take, List.getElem?_take_of_lt hj] at hv
    exact hv)
  have hst := run_storeCells_at Try.prog ga 0 29 (encs (Value.int .u8) (H.take (n * 64))) 0 (bcells A) W hA (by rw [encs_length, bcells_size, lt]; omega) (fun v hv => by obtain ⟨x, _, rfl⟩ := List.mem_map.1 hv; rfl)
  have e : ((bcells A).toList.take (0 + 0) ++ encs (Value.int .u8) (H.take (n * 64)) ++ (bcells A).toList.drop (0 + 0 + (encs (Value.int .u8) (H.take (n * 64))).length)).toArray = bcells (splice A 0 (H.take (n * 64))) := by
    unfold bcells splice encs
    simp only [List.map_append, List.map_take, List.map_drop, List.length_map, List.length_take, List.append_assoc, Nat.zero_add, Nat.add_zero]
  rw [e] at hst
  rw [encs_length, lt] at hl
  cases hq : Try.prog.info? 29 with
  | none => have := seal_info; rw [hq] at this; cases this
  | some i =>
    have hi : i.size = 64 := by have := seal_info; rw [hq] at this; simpa using this
    simp [Builtin.copy_, run_underlying Try.underlying57, Builtin.lenOf, Builtin.firstCells, sizeOf, typeInfo, hq, hi, hl, hst]
theorem copyAll_ev {ops : Array Oper} {o : Oper} {a : Act} {Q : Exit → Act → World → Prop} {W w0 : World} {K : Act → World → Prop} (hw : Region.wanted o (yielded ops a.tmps) = true) {N : Option Tmp} (hN : o.dst = N) (d s : Operand) (ho : o.op = .call { callee := .builtin .copy, args := #[d, s], argTypes := #[57, 57] }) (ga gh n ca ch : Nat) (hd : a.eval d = .slice (some ⟨ga, 0, none⟩) n ca) (hs : a.eval s = .slice (some ⟨gh, 0, none⟩) n ch)
    (A H : List Int) (hA : W.heap[ga]? = some (.cells (bcells A) 29 (0, 0))) (hH : W.heap[gh]? = some (.cells (bcells H) 29 (0, 0))) (la : n * 64 ≤ A.length) (lh : n * 64 ≤ H.length) (B : Nat) (hb : Below B w0 W) (hBg : B ≤ ga)
    (h : ∀ w1, w1.heap[ga]? = some (.cells (bcells (splice A 0 (H.take (n * 64)))) 29 (0, 0)) → Aside0 (∀ k, k ≠ ga → w1.heap[k]? = W.heap[k]?) → Below B w0 w1 → K (a.put N (goInt n)) w1) : if Region.wanted o (yielded ops a.tmps) = true then Oper.wp Try.prog o a W K Q else K (a.put N undef) W := by
  rw [if_pos hw]
  subst hN
  have hrun := run_copy_blocks W o.type ga gh n ca ch A H hA hH la lh
  unfold Oper.wp
  simp [execOp, ho, resolve, invoke, builtin, hd, hs, hrun, Result.andThen]
  exact h _ (setRow_heap W ga _ _ 29 _ hA) ⟨fun k hk => setRow_other W ga k _ hk⟩ (below_setRow hb hBg _)
set_option maxHeartbeats 16000000 in
set_option maxRecDepth 100000 in
theorem Crash.calls (w : World) (B gd ga gh n ca ch : Nat) (bt : Value) (s : DS) (r : Rep B w gd ga gh n ca ch bt s) (A : Option Addr) (c : Nat) (p : List Int) (hlb : s.btw.length ≤ 4611686018427387904) (hp : ∀ w', Below B w w' → Fx gd ga gh w w' → Kd.C (Kd.int .i64) w' A p.length p) :
    Calls Try.prog 17 #[.pointer (some ⟨gd, 0, none⟩), .slice A p.length c] w fun e' w' => e' = .returned (.int .i64 0) ∧ Rep B w' gd ga gh n ca ch (.slice none 0 0) (s.crashE n p) ∧ Below B w w' ∧ Fx gd ga gh w w' := by
  have HLB := Aside0.mk hlb
  have HPK := Aside0.mk hp
  obtain ⟨Aq, cq, eq⟩ := Kd.R_slice r.b
  subst eq
  have hg := r.d
  have hn := r.n0
  have x2 : w.cell? ⟨gd, 2, none⟩ = some (.slice Aq s.btw.length cq) := (blk_cell hg 2).trans rfl
  have RR := Aside0.mk r
  have HX := Aside0.mk (Below.refl B w)
  have FR := Aside0.mk (Fx.refl gd ga gh w)
  clear hp r
  go_enter Try.func17, Try.ntmps17
  go_wp2_with (go_at_call 31; with_reducible refine (known.ok _ gd _ _ n ch _ s.al s.st s.ni hg 0 hn (Int.le_refl 0) (by omega)).mono ?_; rintro e' w' ⟨rfl, hw⟩; subst w')
  go_loopw [20] (fun v20 w' => ∃ k : Nat, k ≤ s.btw.length ∧ v20 = .int .i64 k ∧ Aside0 (Rep B w' gd ga gh n ca ch (.slice Aq s.btw.length cq) { s with held := crashTo s.held s.btw p k }) ∧ Aside0 (Below B w w') ∧ Aside0 (Fx gd ga gh w w')) (fun v20 _ => s.btw.length - (intOf v20).toNat)
  case atStart => exact ⟨0, Nat.zero_le _, rfl, RR, HX, FR⟩
  case round =>
    clear RR HX FR x2 hg
    obtain ⟨k, hk, rfl, RR, HX, FR⟩ := hrel
    by_cases hlt : k < s.btw.length
    · have k1 : (0 : Int) ≤ (k : Int) := Int.natCast_nonneg k
      have k2 : (k : Int) < (s.btw.length : Int) := by omega
      have k3 : wrap64 ((k : Int) + 1) = (k : Int) + 1 := by
        have h1 : s.btw.length ≤ 4611686018427387904 := HLB.out
        unfold wrap64; omega
      obtain ⟨x, hx⟩ : ∃ x, s.btw[k]? = some x := ⟨_, List.getElem?_eq_getElem hlt⟩
      obtain ⟨gq, c', eA, hb64, hrg, cur, hcur⟩ := AskOwn.at RR.out.b k x hx
      have hok := RR.out.ok x (List.mem_of_getElem? hx)
      obtain ⟨xi, xb⟩ := x
      obtain ⟨j, rfl⟩ := Int.eq_ofNat_of_zero_le hok.1
      injection eA with eA _ ec
      subst eA
      subst ec
      have LB := Aside0.mk (show xb.length = 64 from hb64)
      have RG := Aside0.mk (show wr.rangeAt gq (k * 65) (.int .i64 (j : Int) :: encs (Value.int .u8) xb) from hrg)
      have HJ := Aside0.mk (show j < n from by have := hok.2.1; simp only at this; omega)
      have HG := Aside0.mk (show s.btw.getD k (0, []) = ((j : Int), xb) from by rw [List.getD_eq_getElem?_getD, hx]; rfl)
      have j0 : (0 : Int) ≤ (j : Int) := Int.natCast_nonneg j
      have j1 : (j : Int) < (n : Int) := by have := HJ.out; omega
      have HB := Aside0.mk (Below.refl wr.heap.size wr)
      clear hx hb64 hrg hcur hok cur
      by_cases hlp : k < p.length
      · have k4 : (k : Int) < (p.length : Int) := by omega
        go_upto_region 8 with (first
          | ((with_reducible refine gate_dst (N := 24) rfl ?_); refine wpList_load_ask rfl (.tmp 23) rfl gq (k * 65) rfl (j : Int) xb LB.out RG.out ?_)
          | ((with_reducible refine gate_dst (N := 7) rfl ?_); refine box_event ?hg (N := 7) ?hd (cs := askC 0 zero64) (t := 65) ?hr ?_; (case hd => rfl); (case hg => rfl); (case hr => exact alloc65_run rfl _); intro gz hg w1z hbox hb; have Gz := Aside0.mk (show wr.heap.size ≤ gz from by rw [hg]; exact below_size (by repeat (first | (with_reducible first | exact HB.out | apply below_alloc | apply pw_below_drewN | apply below_drew1) | exact HB.out))); have BKz := Aside0.mk hbox; clear hbox hg; have n0_ := Aside0.mk (below_step (by repeat (first | (with_reducible first | exact HB.out | apply below_alloc | apply pw_below_drewN | apply below_drew1) | exact HB.out)) hb); clear HB; have HB := n0_; clear n0_ hb)
          | (refine wpList_store_row rfl 65 (.tmp 7) (.tmp 24) rfl gz (askC (j : Int) xb) rfl (by rfl) 65 (askC 0 zero64) (by (with_reducible repeat (first | refine blk_drewN ?_ _ | refine blk_drew ?_ | refine blk_alloc ?_ _)); exact BKz.out) (ask_size' (j : Int) xb LB.out) (by rw [askC_size _ _ LB.out]; rfl) (askC_all _ _) ?_; have n0 := Aside0.mk (below_setRow (show Below wr.heap.size wr _ from by repeat (first | (with_reducible first | exact HB.out | apply below_alloc | apply pw_below_drewN | apply below_drew1) | exact HB.out)) (show wr.heap.size ≤ gz from Gz.out) (askC (j : Int) xb)); have n1 := Aside0.mk (setRow_heap _ _ _ (askC (j : Int) xb) _ _ (by (with_reducible repeat (first | refine blk_drewN ?_ _ | refine blk_drew ?_ | refine blk_alloc ?_ _)); exact BKz.out)); generalize World.setRow _ _ _ = w3 at n0 n1; clear HB BKz; have HB := n0; have BKz := n1; clear n0 n1))
        have HX3 := Aside0.mk (HX.out.trans (below_of_le RR.out.size HB.out))
        have FR3 := Aside0.mk (FR.out.trans (Fx.below HB.out))
        have R3 := Aside0.mk (RR.out.below HB.out)
        obtain ⟨ap, eap, hpc⟩ := Kd.at_int (HPK.out w3 HX3.out FR3.out) (k : Int) k1 k4
        cases eap
        rw [Int.toNat_natCast] at hpc
        have d1 : w3.cell? ⟨gd, 1, none⟩ = some (.slice (some ⟨gh, 0, none⟩) n ch) := (blk_cell R3.out.d 1).trans rfl
        have z0 : w3.cell? ⟨gz, 0, none⟩ = some (.int .i64 (j : Int)) := (blk_cell BKz.out 0).trans rfl
        clear RR HX FR HB
        rcases part_cases (rd p (k : Int)) with hpart | hpart | hpart | hpart
        · skip
          have CP := Aside0.mk (show ∀ W, Calls Try.prog 32 #[.int .i64 (rd p (k : Int))] W fun e' w' => e' = .returned (.tuple #[.int .i64 0, .int .i64 0]) ∧ w' = W from fun W => by have h := part.calls (rd p (k : Int)) W; rw [hpart] at h; exact h)
          have EC := Aside0.mk (show crashTo s.held s.btw p (k + 1) = splice (crashTo s.held s.btw p k) (j * 64 + 0) ((xb.drop 0).take 0) from by rw [crashTo, crashAt, if_pos hlp, HG.out, hpart]; rfl)
          clear hpart
          go_wp2_with (go_at_call 32; with_reducible refine (CP.out _).mono ?_; rintro e' w' ⟨rfl, hw⟩; subst w')
          refine start_ (n := 15) (S := fun w' => w'.cell? ⟨gd, 1, none⟩ = some (.slice (some ⟨gh, 0, none⟩) n ch) ∧ w'.cell? ⟨gz, 0, none⟩ = some (.int .i64 (j : Int))) (ds := [14]) #[false, false, false, false, false, false, false, false, false, false, false, false, false, false, false] (by kernel_rfl) rfl rfl ⟨d1, z0⟩ (fun hHeld => ?_)
          refine pure_ (i := 0) (N := some 37) (v := ?_) (a' := ?_) #[true, false, false, false, false, false, false, false, false, false, false, false, false, false, false] rfl rfl (by kernel_rfl) (fun _ _ _ h => h) (Or.inl ⟨by rfl, ?_⟩) ?_ ?_
          rotate_left
          · intro w'
            go_simp
            with_reducible rfl
          rotate_left
          · simp only [Act.put, List.setIfInBounds_toArray, List.set_cons_zero, List.set_cons_succ, i64_w, i32_w]
            rfl
          refine pure_ (i := 1) (N := some 38) (v := ?_) (a' := ?_) #[true, true, false, false, false, false, false, false, false, false, false, false, false, false, false] rfl rfl (by kernel_rfl) (fun _ _ _ h => h) (Or.inl ⟨by rfl, ?_⟩) ?_ ?_
          rotate_left
          · intro w'
            go_simp
            with_reducible rfl
          rotate_left
          · simp only [Act.put, List.setIfInBounds_toArray, List.set_cons_zero, List.set_cons_succ, i64_w, i32_w]
            rfl
          refine pure_ (i := 2) (N := some 39) (v := ?_) (a' := ?_) #[true, true, true, false, false, false, false, false, false, false, false, false, false, false, false] rfl rfl (by kernel_rfl) (fun _ _ _ h => h) (Or.inl ⟨by rfl, ?_⟩) ?_ ?_
          rotate_left
          · intro w'
            go_simp
            with_reducible rfl
          rotate_left
          · simp only [Act.put, List.setIfInBounds_toArray, List.set_cons_zero, List.set_cons_succ, i64_w, i32_w]
            rfl
          refine pure_ (i := 4) (N := some 41) (v := ?_) (a' := ?_) #[true, true, true, false, true, false, false, false, false, false, false, false, false, false, false] rfl rfl (by kernel_rfl) (fun _ _ _ h => h) (Or.inl ⟨by rfl, ?_⟩) ?_ ?_
          rotate_left
          · intro w'
            go_simp
            with_reducible rfl
          rotate_left
          · simp only [Act.put, List.setIfInBounds_toArray, List.set_cons_zero, List.set_cons_succ, i64_w, i32_w]
            rfl
          refine pure_ (i := 7) (N := some 44) (v := ?_) (a' := ?_) #[true, true, true, false, true, false, false, true, false, false, false, false, false, false, false] rfl rfl (by kernel_rfl) (fun _ _ _ h => h) (Or.inl ⟨by rfl, ?_⟩) ?_ ?_
          rotate_left
          · intro w'
            go_simp
            with_reducible rfl
          rotate_left
          · simp only [Act.put, List.setIfInBounds_toArray, List.set_cons_zero, List.set_cons_succ, i64_w, i32_w]
            rfl
          refine pure_ (i := 8) (N := some 45) (v := ?_) (a' := ?_) #[true, true, true, false, true, false, false, true, true, false, false, false, false, false, false] rfl rfl (by kernel_rfl) (fun _ _ _ h => h) (Or.inl ⟨by rfl, ?_⟩) ?_ ?_
          rotate_left
          · intro w'
            go_simp
            with_reducible rfl
          rotate_left
          · simp only [Act.put, List.setIfInBounds_toArray, List.set_cons_zero, List.set_cons_succ, i64_w, i32_w]
            rfl
          refine pure_ (i := 10) (N := some 47) (v := ?_) (a' := ?_) #[true, true, true, false, true, false, false, true, true, false, true, false, false, false, false] rfl rfl (by kernel_rfl) (fun _ _ _ h => h) (Or.inl ⟨by rfl, ?_⟩) ?_ ?_
          rotate_left
          · intro w'
            go_simp
            with_reducible rfl
          rotate_left
          · simp only [Act.put, List.setIfInBounds_toArray, List.set_cons_zero, List.set_cons_succ, i64_w, i32_w]
            rfl
          refine pure_ (i := 11) (N := some 48) (v := ?_) (a' := ?_) #[true, true, true, false, true, false, false, true, true, false, true, true, false, false, false] rfl rfl (by kernel_rfl) (fun _ _ _ h => h) (Or.inl ⟨by rfl, ?_⟩) ?_ ?_
          rotate_left
          · intro w'
            go_simp
            with_reducible rfl
          rotate_left
          · simp only [Act.put, List.setIfInBounds_toArray, List.set_cons_zero, List.set_cons_succ, i64_w, i32_w]
            rfl
          refine pure_ (i := 12) (N := some 49) (v := ?_) (a' := ?_) #[true, true, true, false, true, false, false, true, true, false, true, true, true, false, false] rfl rfl (by kernel_rfl) (fun _ _ _ h => h) (Or.inl ⟨by rfl, ?_⟩) ?_ ?_
          rotate_left
          · intro w'
            go_simp
            with_reducible rfl
          rotate_left
          · simp only [Act.put, List.setIfInBounds_toArray, List.set_cons_zero, List.set_cons_succ, i64_w, i32_w]
            rfl
          refine pure_ (i := 13) (N := some 50) (v := ?_) (a' := ?_) #[true, true, true, false, true, false, false, true, true, false, true, true, true, true, false] rfl rfl (by kernel_rfl) (fun _ _ _ h => h) (Or.inl ⟨by rfl, ?_⟩) ?_ ?_
          rotate_left
          · intro w'
            go_simp
            with_reducible rfl
          rotate_left
          · simp only [Act.put, List.setIfInBounds_toArray, List.set_cons_zero, List.set_cons_succ, i64_w, i32_w]
            rfl
          refine take_ (i := 3) (N := some 40) (v := ?_) (a' := ?_) #[true, true, true, true, true, false, false, true, true, false, true, true, true, true, false] rfl rfl (by kernel_rfl) (fun _ _ _ h => h) (Or.inl ⟨by rfl, ?_⟩) hHeld ?_ ?_
          rotate_left
          · rintro w' ⟨s0, s1⟩
            go_simp
            with_reducible rfl
          rotate_left
          · simp only [Act.put, List.setIfInBounds_toArray, List.set_cons_zero, List.set_cons_succ, i64_w, i32_w]
            rfl
          refine take_ (i := 5) (N := some 42) (v := ?_) (a' := ?_) #[true, true, true, true, true, true, false, true, true, false, true, true, true, true, false] rfl rfl (by kernel_rfl) (fun _ _ _ h => h) (Or.inl ⟨by rfl, ?_⟩) hHeld ?_ ?_
          rotate_left
          · rintro w' ⟨s0, s1⟩
            go_simp
            with_reducible rfl
          rotate_left
          · simp only [Act.put, List.setIfInBounds_toArray, List.set_cons_zero, List.set_cons_succ, i64_w, i32_w]
            rfl
          refine pure_ (i := 6) (N := some 43) (v := ?_) (a' := ?_) #[true, true, true, true, true, true, true, true, true, false, true, true, true, true, false] rfl rfl (by kernel_rfl) (fun _ _ _ h => h) (Or.inl ⟨by rfl, ?_⟩) ?_ ?_
          rotate_left
          · intro w'
            go_simp
            with_reducible rfl
          rotate_left
          · simp only [Act.put, List.setIfInBounds_toArray, List.set_cons_zero, List.set_cons_succ, i64_w, i32_w]
            rfl
          refine pure_ (i := 9) (N := some 46) (v := ?_) (a' := ?_) #[true, true, true, true, true, true, true, true, true, true, true, true, true, true, false] rfl rfl (by kernel_rfl) (fun _ _ _ h => h) (Or.inl ⟨by rfl, ?_⟩) ?_ ?_
          rotate_left
          · intro w'
            go_simp
            with_reducible rfl
          rotate_left
          · simp only [Act.put, List.setIfInBounds_toArray, List.set_cons_zero, List.set_cons_succ, i64_w, i32_w]
            rfl
          refine last_ (i := 14) (N := some 51) #[true, true, true, true, true, true, true, true, true, true, true, true, true, true, true] rfl rfl (by kernel_rfl) (by decide) (fun K hK => ?_)
          refine copyB_ev (by rfl) rfl (.tmp 46) (.tmp 50) rfl gh (j * 64 + 0) 0 64 gz (1 + 0) 0 64 rfl rfl (crashTo s.held s.btw p k) ((xb.drop 0).take 0) 29 R3.out.h (by rw [List.length_take, List.length_drop, LB.out] <;> decide) (fun q hq => ?_) (by rw [List.length_take, List.length_drop, LB.out]; have h0 : n * 64 ≤ (crashTo s.held s.btw p k).length := R3.out.lh; have := HJ.out; show j * 64 + 0 + 0 ≤ (crashTo s.held s.btw p k).length; omega) B (below_drew1 HX3.out) R3.out.bh ?_
          · rw [List.length_take, List.length_drop, LB.out] at hq; have hq' : q < 0 := Nat.lt_of_lt_of_le hq (Nat.min_le_left _ _); exact part_src BKz.out LB.out 0 0 q hq' (by decide)
          intro w4 h1 h2 h3; have BH := Aside0.mk h1; have OH := Aside0.mk (show ∀ k, k ≠ gh → w4.heap[k]? = w3.heap[k]? from h2.out); have HX4 := Aside0.mk h3; clear h1 h2 h3
          refine hK.out _ _ ?_
          clear hK K
          refine norm_ (a' := ?_) ?_ ?_
          rotate_left
          · show Act.put _ (some 51) _ = _
            simp only [Act.put, List.setIfInBounds_toArray, List.set_cons_zero, List.set_cons_succ, i64_w, i32_w]
            rfl
          refine done_ (by kernel_rfl) ?_
          
          clear d1 z0 hpc
          go_wp2
          have r4 := R3.out.heldTo (splice (crashTo s.held s.btw p k) (j * 64 + 0) ((xb.drop 0).take 0)) (by rw [length_splice _ _ _ (by rw [List.length_take, List.length_drop, LB.out]; have h0 : n * 64 ≤ (crashTo s.held s.btw p k).length := R3.out.lh; have := HJ.out; show j * 64 + 0 + 0 ≤ (crashTo s.held s.btw p k).length; omega)]; exact R3.out.lh) BH.out OH.out
          rw [← EC.out] at r4
          exact ⟨⟨k + 1, hlt, by first | rfl | (rw [Int.natCast_add]; rfl), Aside0.mk r4, Aside0.mk HX4.out, Aside0.mk (FR3.out.trans (Fx.h OH.out))⟩, by show s.btw.length - (k + 1) < s.btw.length - k; omega⟩
        · skip
          have CP := Aside0.mk (show ∀ W, Calls Try.prog 32 #[.int .i64 (rd p (k : Int))] W fun e' w' => e' = .returned (.tuple #[.int .i64 0, .int .i64 64]) ∧ w' = W from fun W => by have h := part.calls (rd p (k : Int)) W; rw [hpart] at h; exact h)
          have EC := Aside0.mk (show crashTo s.held s.btw p (k + 1) = splice (crashTo s.held s.btw p k) (j * 64 + 0) ((xb.drop 0).take 64) from by rw [crashTo, crashAt, if_pos hlp, HG.out, hpart]; rfl)
          clear hpart
          go_wp2_with (go_at_call 32; with_reducible refine (CP.out _).mono ?_; rintro e' w' ⟨rfl, hw⟩; subst w')
          refine start_ (n := 15) (S := fun w' => w'.cell? ⟨gd, 1, none⟩ = some (.slice (some ⟨gh, 0, none⟩) n ch) ∧ w'.cell? ⟨gz, 0, none⟩ = some (.int .i64 (j : Int))) (ds := [14]) #[false, false, false, false, false, false, false, false, false, false, false, false, false, false, false] (by kernel_rfl) rfl rfl ⟨d1, z0⟩ (fun hHeld => ?_)
          refine pure_ (i := 0) (N := some 37) (v := ?_) (a' := ?_) #[true, false, false, false, false, false, false, false, false, false, false, false, false, false, false] rfl rfl (by kernel_rfl) (fun _ _ _ h => h) (Or.inl ⟨by rfl, ?_⟩) ?_ ?_
          rotate_left
          · intro w'
            go_simp
            with_reducible rfl
          rotate_left
          · simp only [Act.put, List.setIfInBounds_toArray, List.set_cons_zero, List.set_cons_succ, i64_w, i32_w]
            rfl
          refine pure_ (i := 1) (N := some 38) (v := ?_) (a' := ?_) #[true, true, false, false, false, false, false, false, false, false, false, false, false, false, false] rfl rfl (by kernel_rfl) (fun _ _ _ h => h) (Or.inl ⟨by rfl, ?_⟩) ?_ ?_
          rotate_left
          · intro w'
            go_simp
            with_reducible rfl
          rotate_left
          · simp only [Act.put, List.setIfInBounds_toArray, List.set_cons_zero, List.set_cons_succ, i64_w, i32_w]
            rfl
          refine pure_ (i := 2) (N := some 39) (v := ?_) (a' := ?_) #[true, true, true, false, false, false, false, false, false, false, false, false, false, false, false] rfl rfl (by kernel_rfl) (fun _ _ _ h => h) (Or.inl ⟨by rfl, ?_⟩) ?_ ?_
          rotate_left
          · intro w'
            go_simp
            with_reducible rfl
          rotate_left
          · simp only [Act.put, List.setIfInBounds_toArray, List.set_cons_zero, List.set_cons_succ, i64_w, i32_w]
            rfl
          refine pure_ (i := 4) (N := some 41) (v := ?_) (a' := ?_) #[true, true, true, false, true, false, false, false, false, false, false, false, false, false, false] rfl rfl (by kernel_rfl) (fun _ _ _ h => h) (Or.inl ⟨by rfl, ?_⟩) ?_ ?_
          rotate_left
          · intro w'
            go_simp
            with_reducible rfl
          rotate_left
          · simp only [Act.put, List.setIfInBounds_toArray, List.set_cons_zero, List.set_cons_succ, i64_w, i32_w]
            rfl
          refine pure_ (i := 7) (N := some 44) (v := ?_) (a' := ?_) #[true, true, true, false, true, false, false, true, false, false, false, false, false, false, false] rfl rfl (by kernel_rfl) (fun _ _ _ h => h) (Or.inl ⟨by rfl, ?_⟩) ?_ ?_
          rotate_left
          · intro w'
            go_simp
            with_reducible rfl
          rotate_left
          · simp only [Act.put, List.setIfInBounds_toArray, List.set_cons_zero, List.set_cons_succ, i64_w, i32_w]
            rfl
          refine pure_ (i := 8) (N := some 45) (v := ?_) (a' := ?_) #[true, true, true, false, true, false, false, true, true, false, false, false, false, false, false] rfl rfl (by kernel_rfl) (fun _ _ _ h => h) (Or.inl ⟨by rfl, ?_⟩) ?_ ?_
          rotate_left
          · intro w'
            go_simp
            with_reducible rfl
          rotate_left
          · simp only [Act.put, List.setIfInBounds_toArray, List.set_cons_zero, List.set_cons_succ, i64_w, i32_w]
            rfl
          refine pure_ (i := 10) (N := some 47) (v := ?_) (a' := ?_) #[true, true, true, false, true, false, false, true, true, false, true, false, false, false, false] rfl rfl (by kernel_rfl) (fun _ _ _ h => h) (Or.inl ⟨by rfl, ?_⟩) ?_ ?_
          rotate_left
          · intro w'
            go_simp
            with_reducible rfl
          rotate_left
          · simp only [Act.put, List.setIfInBounds_toArray, List.set_cons_zero, List.set_cons_succ, i64_w, i32_w]
            rfl
          refine pure_ (i := 11) (N := some 48) (v := ?_) (a' := ?_) #[true, true, true, false, true, false, false, true, true, false, true, true, false, false, false] rfl rfl (by kernel_rfl) (fun _ _ _ h => h) (Or.inl ⟨by rfl, ?_⟩) ?_ ?_
          rotate_left
          · intro w'
            go_simp
            with_reducible rfl
          rotate_left
          · simp only [Act.put, List.setIfInBounds_toArray, List.set_cons_zero, List.set_cons_succ, i64_w, i32_w]
            rfl
          refine pure_ (i := 12) (N := some 49) (v := ?_) (a' := ?_) #[true, true, true, false, true, false, false, true, true, false, true, true, true, false, false] rfl rfl (by kernel_rfl) (fun _ _ _ h => h) (Or.inl ⟨by rfl, ?_⟩) ?_ ?_
          rotate_left
          · intro w'
            go_simp
            with_reducible rfl
          rotate_left
          · simp only [Act.put, List.setIfInBounds_toArray, List.set_cons_zero, List.set_cons_succ, i64_w, i32_w]
            rfl
          refine pure_ (i := 13) (N := some 50) (v := ?_) (a' := ?_) #[true, true, true, false, true, false, false, true, true, false, true, true, true, true, false] rfl rfl (by kernel_rfl) (fun _ _ _ h => h) (Or.inl ⟨by rfl, ?_⟩) ?_ ?_
          rotate_left
          · intro w'
            go_simp
            with_reducible rfl
          rotate_left
          · simp only [Act.put, List.setIfInBounds_toArray, List.set_cons_zero, List.set_cons_succ, i64_w, i32_w]
            rfl
          refine take_ (i := 3) (N := some 40) (v := ?_) (a' := ?_) #[true, true, true, true, true, false, false, true, true, false, true, true, true, true, false] rfl rfl (by kernel_rfl) (fun _ _ _ h => h) (Or.inl ⟨by rfl, ?_⟩) hHeld ?_ ?_
          rotate_left
          · rintro w' ⟨s0, s1⟩
            go_simp
            with_reducible rfl
          rotate_left
          · simp only [Act.put, List.setIfInBounds_toArray, List.set_cons_zero, List.set_cons_succ, i64_w, i32_w]
            rfl
          refine take_ (i := 5) (N := some 42) (v := ?_) (a' := ?_) #[true, true, true, true, true, true, false, true, true, false, true, true, true, true, false] rfl rfl (by kernel_rfl) (fun _ _ _ h => h) (Or.inl ⟨by rfl, ?_⟩) hHeld ?_ ?_
          rotate_left
          · rintro w' ⟨s0, s1⟩
            go_simp
            with_reducible rfl
          rotate_left
          · simp only [Act.put, List.setIfInBounds_toArray, List.set_cons_zero, List.set_cons_succ, i64_w, i32_w]
            rfl
          refine pure_ (i := 6) (N := some 43) (v := ?_) (a' := ?_) #[true, true, true, true, true, true, true, true, true, false, true, true, true, true, false] rfl rfl (by kernel_rfl) (fun _ _ _ h => h) (Or.inl ⟨by rfl, ?_⟩) ?_ ?_
          rotate_left
          · intro w'
            go_simp
            with_reducible rfl
          rotate_left
          · simp only [Act.put, List.setIfInBounds_toArray, List.set_cons_zero, List.set_cons_succ, i64_w, i32_w]
            rfl
          refine pure_ (i := 9) (N := some 46) (v := ?_) (a' := ?_) #[true, true, true, true, true, true, true, true, true, true, true, true, true, true, false] rfl rfl (by kernel_rfl) (fun _ _ _ h => h) (Or.inl ⟨by rfl, ?_⟩) ?_ ?_
          rotate_left
          · intro w'
            go_simp
            with_reducible rfl
          rotate_left
          · simp only [Act.put, List.setIfInBounds_toArray, List.set_cons_zero, List.set_cons_succ, i64_w, i32_w]
            rfl
          refine last_ (i := 14) (N := some 51) #[true, true, true, true, true, true, true, true, true, true, true, true, true, true, true] rfl rfl (by kernel_rfl) (by decide) (fun K hK => ?_)
          refine copyB_ev (by rfl) rfl (.tmp 46) (.tmp 50) rfl gh (j * 64 + 0) 64 64 gz (1 + 0) 64 64 rfl rfl (crashTo s.held s.btw p k) ((xb.drop 0).take 64) 29 R3.out.h (by rw [List.length_take, List.length_drop, LB.out] <;> decide) (fun q hq => ?_) (by rw [List.length_take, List.length_drop, LB.out]; have h0 : n * 64 ≤ (crashTo s.held s.btw p k).length := R3.out.lh; have := HJ.out; show j * 64 + 0 + 64 ≤ (crashTo s.held s.btw p k).length; omega) B (below_drew1 HX3.out) R3.out.bh ?_
          · rw [List.length_take, List.length_drop, LB.out] at hq; have hq' : q < 64 := Nat.lt_of_lt_of_le hq (Nat.min_le_left _ _); exact part_src BKz.out LB.out 0 64 q hq' (by decide)
          intro w4 h1 h2 h3; have BH := Aside0.mk h1; have OH := Aside0.mk (show ∀ k, k ≠ gh → w4.heap[k]? = w3.heap[k]? from h2.out); have HX4 := Aside0.mk h3; clear h1 h2 h3
          refine hK.out _ _ ?_
          clear hK K
          refine norm_ (a' := ?_) ?_ ?_
          rotate_left
          · show Act.put _ (some 51) _ = _
            simp only [Act.put, List.setIfInBounds_toArray, List.set_cons_zero, List.set_cons_succ, i64_w, i32_w]
            rfl
          refine done_ (by kernel_rfl) ?_
          
          clear d1 z0 hpc
          go_wp2
          have r4 := R3.out.heldTo (splice (crashTo s.held s.btw p k) (j * 64 + 0) ((xb.drop 0).take 64)) (by rw [length_splice _ _ _ (by rw [List.length_take, List.length_drop, LB.out]; have h0 : n * 64 ≤ (crashTo s.held s.btw p k).length := R3.out.lh; have := HJ.out; show j * 64 + 0 + 64 ≤ (crashTo s.held s.btw p k).length; omega)]; exact R3.out.lh) BH.out OH.out
          rw [← EC.out] at r4
          exact ⟨⟨k + 1, hlt, by first | rfl | (rw [Int.natCast_add]; rfl), Aside0.mk r4, Aside0.mk HX4.out, Aside0.mk (FR3.out.trans (Fx.h OH.out))⟩, by show s.btw.length - (k + 1) < s.btw.length - k; omega⟩
        · skip
          have CP := Aside0.mk (show ∀ W, Calls Try.prog 32 #[.int .i64 (rd p (k : Int))] W fun e' w' => e' = .returned (.tuple #[.int .i64 0, .int .i64 32]) ∧ w' = W from fun W => by have h := part.calls (rd p (k : Int)) W; rw [hpart] at h; exact h)
          have EC := Aside0.mk (show crashTo s.held s.btw p (k + 1) = splice (crashTo s.held s.btw p k) (j * 64 + 0) ((xb.drop 0).take 32) from by rw [crashTo, crashAt, if_pos hlp, HG.out, hpart]; rfl)
          clear hpart
          go_wp2_with (go_at_call 32; with_reducible refine (CP.out _).mono ?_; rintro e' w' ⟨rfl, hw⟩; subst w')
          refine start_ (n := 15) (S := fun w' => w'.cell? ⟨gd, 1, none⟩ = some (.slice (some ⟨gh, 0, none⟩) n ch) ∧ w'.cell? ⟨gz, 0, none⟩ = some (.int .i64 (j : Int))) (ds := [14]) #[false, false, false, false, false, false, false, false, false, false, false, false, false, false, false] (by kernel_rfl) rfl rfl ⟨d1, z0⟩ (fun hHeld => ?_)
          refine pure_ (i := 0) (N := some 37) (v := ?_) (a' := ?_) #[true, false, false, false, false, false, false, false, false, false, false, false, false, false, false] rfl rfl (by kernel_rfl) (fun _ _ _ h => h) (Or.inl ⟨by rfl, ?_⟩) ?_ ?_
          rotate_left
          · intro w'
            go_simp
            with_reducible rfl
          rotate_left
          · simp only [Act.put, List.setIfInBounds_toArray, List.set_cons_zero, List.set_cons_succ, i64_w, i32_w]
            rfl
          refine pure_ (i := 1) (N := some 38) (v := ?_) (a' := ?_) #[true, true, false, false, false, false, false, false, false, false, false, false, false, false, false] rfl rfl (by kernel_rfl) (fun _ _ _ h => h) (Or.inl ⟨by rfl, ?_⟩) ?_ ?_
          rotate_left
          · intro w'
            go_simp
            with_reducible rfl
          rotate_left
          · simp only [Act.put, List.setIfInBounds_toArray, List.set_cons_zero, List.set_cons_succ, i64_w, i32_w]
            rfl
          refine pure_ (i := 2) (N := some 39) (v := ?_) (a' := ?_) #[true, true, true, false, false, false, false, false, false, false, false, false, false, false, false] rfl rfl (by kernel_rfl) (fun _ _ _ h => h) (Or.inl ⟨by rfl, ?_⟩) ?_ ?_
          rotate_left
          · intro w'
            go_simp
            with_reducible rfl
          rotate_left
          · simp only [Act.put, List.setIfInBounds_toArray, List.set_cons_zero, List.set_cons_succ, i64_w, i32_w]
            rfl
          refine pure_ (i := 4) (N := some 41) (v := ?_) (a' := ?_) #[true, true, true, false, true, false, false, false, false, false, false, false, false, false, false] rfl rfl (by kernel_rfl) (fun _ _ _ h => h) (Or.inl ⟨by rfl, ?_⟩) ?_ ?_
          rotate_left
          · intro w'
            go_simp
            with_reducible rfl
          rotate_left
          · simp only [Act.put, List.setIfInBounds_toArray, List.set_cons_zero, List.set_cons_succ, i64_w, i32_w]
            rfl
          refine pure_ (i := 7) (N := some 44) (v := ?_) (a' := ?_) #[true, true, true, false, true, false, false, true, false, false, false, false, false, false, false] rfl rfl (by kernel_rfl) (fun _ _ _ h => h) (Or.inl ⟨by rfl, ?_⟩) ?_ ?_
          rotate_left
          · intro w'
            go_simp
            with_reducible rfl
          rotate_left
          · simp only [Act.put, List.setIfInBounds_toArray, List.set_cons_zero, List.set_cons_succ, i64_w, i32_w]
            rfl
          refine pure_ (i := 8) (N := some 45) (v := ?_) (a' := ?_) #[true, true, true, false, true, false, false, true, true, false, false, false, false, false, false] rfl rfl (by kernel_rfl) (fun _ _ _ h => h) (Or.inl ⟨by rfl, ?_⟩) ?_ ?_
          rotate_left
          · intro w'
            go_simp
            with_reducible rfl
          rotate_left
          · simp only [Act.put, List.setIfInBounds_toArray, List.set_cons_zero, List.set_cons_succ, i64_w, i32_w]
            rfl
          refine pure_ (i := 10) (N := some 47) (v := ?_) (a' := ?_) #[true, true, true, false, true, false, false, true, true, false, true, false, false, false, false] rfl rfl (by kernel_rfl) (fun _ _ _ h => h) (Or.inl ⟨by rfl, ?_⟩) ?_ ?_
          rotate_left
          · intro w'
            go_simp
            with_reducible rfl
          rotate_left
          · simp only [Act.put, List.setIfInBounds_toArray, List.set_cons_zero, List.set_cons_succ, i64_w, i32_w]
            rfl
          refine pure_ (i := 11) (N := some 48) (v := ?_) (a' := ?_) #[true, true, true, false, true, false, false, true, true, false, true, true, false, false, false] rfl rfl (by kernel_rfl) (fun _ _ _ h => h) (Or.inl ⟨by rfl, ?_⟩) ?_ ?_
          rotate_left
          · intro w'
            go_simp
            with_reducible rfl
          rotate_left
          · simp only [Act.put, List.setIfInBounds_toArray, List.set_cons_zero, List.set_cons_succ, i64_w, i32_w]
            rfl
          refine pure_ (i := 12) (N := some 49) (v := ?_) (a' := ?_) #[true, true, true, false, true, false, false, true, true, false, true, true, true, false, false] rfl rfl (by kernel_rfl) (fun _ _ _ h => h) (Or.inl ⟨by rfl, ?_⟩) ?_ ?_
          rotate_left
          · intro w'
            go_simp
            with_reducible rfl
          rotate_left
          · simp only [Act.put, List.setIfInBounds_toArray, List.set_cons_zero, List.set_cons_succ, i64_w, i32_w]
            rfl
          refine pure_ (i := 13) (N := some 50) (v := ?_) (a' := ?_) #[true, true, true, false, true, false, false, true, true, false, true, true, true, true, false] rfl rfl (by kernel_rfl) (fun _ _ _ h => h) (Or.inl ⟨by rfl, ?_⟩) ?_ ?_
          rotate_left
          · intro w'
            go_simp
            with_reducible rfl
          rotate_left
          · simp only [Act.put, List.setIfInBounds_toArray, List.set_cons_zero, List.set_cons_succ, i64_w, i32_w]
            rfl
          refine take_ (i := 3) (N := some 40) (v := ?_) (a' := ?_) #[true, true, true, true, true, false, false, true, true, false, true, true, true, true, false] rfl rfl (by kernel_rfl) (fun _ _ _ h => h) (Or.inl ⟨by rfl, ?_⟩) hHeld ?_ ?_
          rotate_left
          · rintro w' ⟨s0, s1⟩
            go_simp
            with_reducible rfl
          rotate_left
          · simp only [Act.put, List.setIfInBounds_toArray, List.set_cons_zero, List.set_cons_succ, i64_w, i32_w]
            rfl
          refine take_ (i := 5) (N := some 42) (v := ?_) (a' := ?_) #[true, true, true, true, true, true, false, true, true, false, true, true, true, true, false] rfl rfl (by kernel_rfl) (fun _ _ _ h => h) (Or.inl ⟨by rfl, ?_⟩) hHeld ?_ ?_
          rotate_left
          · rintro w' ⟨s0, s1⟩
            go_simp
            with_reducible rfl
          rotate_left
          · simp only [Act.put, List.setIfInBounds_toArray, List.set_cons_zero, List.set_cons_succ, i64_w, i32_w]
            rfl
          refine pure_ (i := 6) (N := some 43) (v := ?_) (a' := ?_) #[true, true, true, true, true, true, true, true, true, false, true, true, true, true, false] rfl rfl (by kernel_rfl) (fun _ _ _ h => h) (Or.inl ⟨by rfl, ?_⟩) ?_ ?_
          rotate_left
          · intro w'
            go_simp
            with_reducible rfl
          rotate_left
          · simp only [Act.put, List.setIfInBounds_toArray, List.set_cons_zero, List.set_cons_succ, i64_w, i32_w]
            rfl
          refine pure_ (i := 9) (N := some 46) (v := ?_) (a' := ?_) #[true, true, true, true, true, true, true, true, true, true, true, true, true, true, false] rfl rfl (by kernel_rfl) (fun _ _ _ h => h) (Or.inl ⟨by rfl, ?_⟩) ?_ ?_
          rotate_left
          · intro w'
            go_simp
            with_reducible rfl
          rotate_left
          · simp only [Act.put, List.setIfInBounds_toArray, List.set_cons_zero, List.set_cons_succ, i64_w, i32_w]
            rfl
          refine last_ (i := 14) (N := some 51) #[true, true, true, true, true, true, true, true, true, true, true, true, true, true, true] rfl rfl (by kernel_rfl) (by decide) (fun K hK => ?_)
          refine copyB_ev (by rfl) rfl (.tmp 46) (.tmp 50) rfl gh (j * 64 + 0) 32 64 gz (1 + 0) 32 64 rfl rfl (crashTo s.held s.btw p k) ((xb.drop 0).take 32) 29 R3.out.h (by rw [List.length_take, List.length_drop, LB.out] <;> decide) (fun q hq => ?_) (by rw [List.length_take, List.length_drop, LB.out]; have h0 : n * 64 ≤ (crashTo s.held s.btw p k).length := R3.out.lh; have := HJ.out; show j * 64 + 0 + 32 ≤ (crashTo s.held s.btw p k).length; omega) B (below_drew1 HX3.out) R3.out.bh ?_
          · rw [List.length_take, List.length_drop, LB.out] at hq; have hq' : q < 32 := Nat.lt_of_lt_of_le hq (Nat.min_le_left _ _); exact part_src BKz.out LB.out 0 32 q hq' (by decide)
          intro w4 h1 h2 h3; have BH := Aside0.mk h1; have OH := Aside0.mk (show ∀ k, k ≠ gh → w4.heap[k]? = w3.heap[k]? from h2.out); have HX4 := Aside0.mk h3; clear h1 h2 h3
          refine hK.out _ _ ?_
          clear hK K
          refine norm_ (a' := ?_) ?_ ?_
          rotate_left
          · show Act.put _ (some 51) _ = _
            simp only [Act.put, List.setIfInBounds_toArray, List.set_cons_zero, List.set_cons_succ, i64_w, i32_w]
            rfl
          refine done_ (by kernel_rfl) ?_
          
          clear d1 z0 hpc
          go_wp2
          have r4 := R3.out.heldTo (splice (crashTo s.held s.btw p k) (j * 64 + 0) ((xb.drop 0).take 32)) (by rw [length_splice _ _ _ (by rw [List.length_take, List.length_drop, LB.out]; have h0 : n * 64 ≤ (crashTo s.held s.btw p k).length := R3.out.lh; have := HJ.out; show j * 64 + 0 + 32 ≤ (crashTo s.held s.btw p k).length; omega)]; exact R3.out.lh) BH.out OH.out
          rw [← EC.out] at r4
          exact ⟨⟨k + 1, hlt, by first | rfl | (rw [Int.natCast_add]; rfl), Aside0.mk r4, Aside0.mk HX4.out, Aside0.mk (FR3.out.trans (Fx.h OH.out))⟩, by show s.btw.length - (k + 1) < s.btw.length - k; omega⟩
        · skip
          have CP := Aside0.mk (show ∀ W, Calls Try.prog 32 #[.int .i64 (rd p (k : Int))] W fun e' w' => e' = .returned (.tuple #[.int .i64 32, .int .i64 64]) ∧ w' = W from fun W => by have h := part.calls (rd p (k : Int)) W; rw [hpart] at h; exact h)
          have EC := Aside0.mk (show crashTo s.held s.btw p (k + 1) = splice (crashTo s.held s.btw p k) (j * 64 + 32) ((xb.drop 32).take 32) from by rw [crashTo, crashAt, if_pos hlp, HG.out, hpart]; rfl)
          clear hpart
          go_wp2_with (go_at_call 32; with_reducible refine (CP.out _).mono ?_; rintro e' w' ⟨rfl, hw⟩; subst w')
          refine start_ (n := 15) (S := fun w' => w'.cell? ⟨gd, 1, none⟩ = some (.slice (some ⟨gh, 0, none⟩) n ch) ∧ w'.cell? ⟨gz, 0, none⟩ = some (.int .i64 (j : Int))) (ds := [14]) #[false, false, false, false, false, false, false, false, false, false, false, false, false, false, false] (by kernel_rfl) rfl rfl ⟨d1, z0⟩ (fun hHeld => ?_)
          refine pure_ (i := 0) (N := some 37) (v := ?_) (a' := ?_) #[true, false, false, false, false, false, false, false, false, false, false, false, false, false, false] rfl rfl (by kernel_rfl) (fun _ _ _ h => h) (Or.inl ⟨by rfl, ?_⟩) ?_ ?_
          rotate_left
          · intro w'
            go_simp
            with_reducible rfl
          rotate_left
          · simp only [Act.put, List.setIfInBounds_toArray, List.set_cons_zero, List.set_cons_succ, i64_w, i32_w]
            rfl
          refine pure_ (i := 1) (N := some 38) (v := ?_) (a' := ?_) #[true, true, false, false, false, false, false, false, false, false, false, false, false, false, false] rfl rfl (by kernel_rfl) (fun _ _ _ h => h) (Or.inl ⟨by rfl, ?_⟩) ?_ ?_
          rotate_left
          · intro w'
            go_simp
            with_reducible rfl
          rotate_left
          · simp only [Act.put, List.setIfInBounds_toArray, List.set_cons_zero, List.set_cons_succ, i64_w, i32_w]
            rfl
          refine pure_ (i := 2) (N := some 39) (v := ?_) (a' := ?_) #[true, true, true, false, false, false, false, false, false, false, false, false, false, false, false] rfl rfl (by kernel_rfl) (fun _ _ _ h => h) (Or.inl ⟨by rfl, ?_⟩) ?_ ?_
          rotate_left
          · intro w'
            go_simp
            with_reducible rfl
          rotate_left
          · simp only [Act.put, List.setIfInBounds_toArray, List.set_cons_zero, List.set_cons_succ, i64_w, i32_w]
            rfl
          refine pure_ (i := 4) (N := some 41) (v := ?_) (a' := ?_) #[true, true, true, false, true, false, false, false, false, false, false, false, false, false, false] rfl rfl (by kernel_rfl) (fun _ _ _ h => h) (Or.inl ⟨by rfl, ?_⟩) ?_ ?_
          rotate_left
          · intro w'
            go_simp
            with_reducible rfl
          rotate_left
          · simp only [Act.put, List.setIfInBounds_toArray, List.set_cons_zero, List.set_cons_succ, i64_w, i32_w]
            rfl
          refine pure_ (i := 7) (N := some 44) (v := ?_) (a' := ?_) #[true, true, true, false, true, false, false, true, false, false, false, false, false, false, false] rfl rfl (by kernel_rfl) (fun _ _ _ h => h) (Or.inl ⟨by rfl, ?_⟩) ?_ ?_
          rotate_left
          · intro w'
            go_simp
            with_reducible rfl
          rotate_left
          · simp only [Act.put, List.setIfInBounds_toArray, List.set_cons_zero, List.set_cons_succ, i64_w, i32_w]
            rfl
          refine pure_ (i := 8) (N := some 45) (v := ?_) (a' := ?_) #[true, true, true, false, true, false, false, true, true, false, false, false, false, false, false] rfl rfl (by kernel_rfl) (fun _ _ _ h => h) (Or.inl ⟨by rfl, ?_⟩) ?_ ?_
          rotate_left
          · intro w'
            go_simp
            with_reducible rfl
          rotate_left
          · simp only [Act.put, List.setIfInBounds_toArray, List.set_cons_zero, List.set_cons_succ, i64_w, i32_w]
            rfl
          refine pure_ (i := 10) (N := some 47) (v := ?_) (a' := ?_) #[true, true, true, false, true, false, false, true, true, false, true, false, false, false, false] rfl rfl (by kernel_rfl) (fun _ _ _ h => h) (Or.inl ⟨by rfl, ?_⟩) ?_ ?_
          rotate_left
          · intro w'
            go_simp
            with_reducible rfl
          rotate_left
          · simp only [Act.put, List.setIfInBounds_toArray, List.set_cons_zero, List.set_cons_succ, i64_w, i32_w]
            rfl
          refine pure_ (i := 11) (N := some 48) (v := ?_) (a' := ?_) #[true, true, true, false, true, false, false, true, true, false, true, true, false, false, false] rfl rfl (by kernel_rfl) (fun _ _ _ h => h) (Or.inl ⟨by rfl, ?_⟩) ?_ ?_
          rotate_left
          · intro w'
            go_simp
            with_reducible rfl
          rotate_left
          · simp only [Act.put, List.setIfInBounds_toArray, List.set_cons_zero, List.set_cons_succ, i64_w, i32_w]
            rfl
          refine pure_ (i := 12) (N := some 49) (v := ?_) (a' := ?_) #[true, true, true, false, true, false, false, true, true, false, true, true, true, false, false] rfl rfl (by kernel_rfl) (fun _ _ _ h => h) (Or.inl ⟨by rfl, ?_⟩) ?_ ?_
          rotate_left
          · intro w'
            go_simp
            with_reducible rfl
          rotate_left
          · simp only [Act.put, List.setIfInBounds_toArray, List.set_cons_zero, List.set_cons_succ, i64_w, i32_w]
            rfl
          refine pure_ (i := 13) (N := some 50) (v := ?_) (a' := ?_) #[true, true, true, false, true, false, false, true, true, false, true, true, true, true, false] rfl rfl (by kernel_rfl) (fun _ _ _ h => h) (Or.inl ⟨by rfl, ?_⟩) ?_ ?_
          rotate_left
          · intro w'
            go_simp
            with_reducible rfl
          rotate_left
          · simp only [Act.put, List.setIfInBounds_toArray, List.set_cons_zero, List.set_cons_succ, i64_w, i32_w]
            rfl
          refine take_ (i := 3) (N := some 40) (v := ?_) (a' := ?_) #[true, true, true, true, true, false, false, true, true, false, true, true, true, true, false] rfl rfl (by kernel_rfl) (fun _ _ _ h => h) (Or.inl ⟨by rfl, ?_⟩) hHeld ?_ ?_
          rotate_left
          · rintro w' ⟨s0, s1⟩
            go_simp
            with_reducible rfl
          rotate_left
          · simp only [Act.put, List.setIfInBounds_toArray, List.set_cons_zero, List.set_cons_succ, i64_w, i32_w]
            rfl
          refine take_ (i := 5) (N := some 42) (v := ?_) (a' := ?_) #[true, true, true, true, true, true, false, true, true, false, true, true, true, true, false] rfl rfl (by kernel_rfl) (fun _ _ _ h => h) (Or.inl ⟨by rfl, ?_⟩) hHeld ?_ ?_
          rotate_left
          · rintro w' ⟨s0, s1⟩
            go_simp
            with_reducible rfl
          rotate_left
          · simp only [Act.put, List.setIfInBounds_toArray, List.set_cons_zero, List.set_cons_succ, i64_w, i32_w]
            rfl
          refine pure_ (i := 6) (N := some 43) (v := ?_) (a' := ?_) #[true, true, true, true, true, true, true, true, true, false, true, true, true, true, false] rfl rfl (by kernel_rfl) (fun _ _ _ h => h) (Or.inl ⟨by rfl, ?_⟩) ?_ ?_
          rotate_left
          · intro w'
            go_simp
            with_reducible rfl
          rotate_left
          · simp only [Act.put, List.setIfInBounds_toArray, List.set_cons_zero, List.set_cons_succ, i64_w, i32_w]
            rfl
          refine pure_ (i := 9) (N := some 46) (v := ?_) (a' := ?_) #[true, true, true, true, true, true, true, true, true, true, true, true, true, true, false] rfl rfl (by kernel_rfl) (fun _ _ _ h => h) (Or.inl ⟨by rfl, ?_⟩) ?_ ?_
          rotate_left
          · intro w'
            go_simp
            with_reducible rfl
          rotate_left
          · simp only [Act.put, List.setIfInBounds_toArray, List.set_cons_zero, List.set_cons_succ, i64_w, i32_w]
            rfl
          refine last_ (i := 14) (N := some 51) #[true, true, true, true, true, true, true, true, true, true, true, true, true, true, true] rfl rfl (by kernel_rfl) (by decide) (fun K hK => ?_)
          refine copyB_ev (by rfl) rfl (.tmp 46) (.tmp 50) rfl gh (j * 64 + 32) 32 32 gz (1 + 32) 32 32 rfl rfl (crashTo s.held s.btw p k) ((xb.drop 32).take 32) 29 R3.out.h (by rw [List.length_take, List.length_drop, LB.out] <;> decide) (fun q hq => ?_) (by rw [List.length_take, List.length_drop, LB.out]; have h0 : n * 64 ≤ (crashTo s.held s.btw p k).length := R3.out.lh; have := HJ.out; show j * 64 + 32 + 32 ≤ (crashTo s.held s.btw p k).length; omega) B (below_drew1 HX3.out) R3.out.bh ?_
          · rw [List.length_take, List.length_drop, LB.out] at hq; have hq' : q < 32 := Nat.lt_of_lt_of_le hq (Nat.min_le_left _ _); exact part_src BKz.out LB.out 32 32 q hq' (by decide)
          intro w4 h1 h2 h3; have BH := Aside0.mk h1; have OH := Aside0.mk (show ∀ k, k ≠ gh → w4.heap[k]? = w3.heap[k]? from h2.out); have HX4 := Aside0.mk h3; clear h1 h2 h3
          refine hK.out _ _ ?_
          clear hK K
          refine norm_ (a' := ?_) ?_ ?_
          rotate_left
          · show Act.put _ (some 51) _ = _
            simp only [Act.put, List.setIfInBounds_toArray, List.set_cons_zero, List.set_cons_succ, i64_w, i32_w]
            rfl
          refine done_ (by kernel_rfl) ?_
          
          clear d1 z0 hpc
          go_wp2
          have r4 := R3.out.heldTo (splice (crashTo s.held s.btw p k) (j * 64 + 32) ((xb.drop 32).take 32)) (by rw [length_splice _ _ _ (by rw [List.length_take, List.length_drop, LB.out]; have h0 : n * 64 ≤ (crashTo s.held s.btw p k).length := R3.out.lh; have := HJ.out; show j * 64 + 32 + 32 ≤ (crashTo s.held s.btw p k).length; omega)]; exact R3.out.lh) BH.out OH.out
          rw [← EC.out] at r4
          exact ⟨⟨k + 1, hlt, by first | rfl | (rw [Int.natCast_add]; rfl), Aside0.mk r4, Aside0.mk HX4.out, Aside0.mk (FR3.out.trans (Fx.h OH.out))⟩, by show s.btw.length - (k + 1) < s.btw.length - k; omega⟩
      · have k4 : decide ((k : Int) < (p.length : Int)) = false := decide_eq_false (by omega)
        have EC := Aside0.mk (show crashTo s.held s.btw p (k + 1) = crashTo s.held s.btw p k from by rw [crashTo, crashAt, if_neg hlp])
        go_wp2_with (first
          | ((with_reducible refine gate_dst (N := 24) rfl ?_); refine wpList_load_ask rfl (.tmp 23) rfl gq (k * 65) rfl (j : Int) xb LB.out RG.out ?_)
          | ((with_reducible refine gate_dst (N := 7) rfl ?_); refine box_event ?hg (N := 7) ?hd (cs := askC 0 zero64) (t := 65) ?hr ?_; (case hd => rfl); (case hg => rfl); (case hr => exact alloc65_run rfl _); intro gz hg w1z hbox hb; have Gz := Aside0.mk (show wr.heap.size ≤ gz from by rw [hg]; exact below_size (by repeat (first | (with_reducible first | exact HB.out | apply below_alloc | apply pw_below_drewN | apply below_drew1) | exact HB.out))); have BKz := Aside0.mk hbox; clear hbox hg; have n0_ := Aside0.mk (below_step (by repeat (first | (with_reducible first | exact HB.out | apply below_alloc | apply pw_below_drewN | apply below_drew1) | exact HB.out)) hb); clear HB; have HB := n0_; clear n0_ hb)
          | (refine wpList_store_row rfl 65 (.tmp 7) (.tmp 24) rfl gz (askC (j : Int) xb) rfl (by rfl) 65 (askC 0 zero64) (by (with_reducible repeat (first | refine blk_drewN ?_ _ | refine blk_drew ?_ | refine blk_alloc ?_ _)); exact BKz.out) (ask_size' (j : Int) xb LB.out) (by rw [askC_size _ _ LB.out]; rfl) (askC_all _ _) ?_; have n0 := Aside0.mk (below_setRow (show Below wr.heap.size wr _ from by repeat (first | (with_reducible first | exact HB.out | apply below_alloc | apply pw_below_drewN | apply below_drew1) | exact HB.out)) (show wr.heap.size ≤ gz from Gz.out) (askC (j : Int) xb)); have n1 := Aside0.mk (setRow_heap _ _ _ (askC (j : Int) xb) _ _ (by (with_reducible repeat (first | refine blk_drewN ?_ _ | refine blk_drew ?_ | refine blk_alloc ?_ _)); exact BKz.out)); generalize World.setRow _ _ _ = w3 at n0 n1; clear HB BKz; have HB := n0; have BKz := n1; clear n0 n1))
        have r4 := RR.out.below HB.out
        rw [← EC.out] at r4
        exact ⟨⟨k + 1, hlt, by first | rfl | (rw [Int.natCast_add]; rfl), Aside0.mk r4, Aside0.mk (HX.out.trans (below_of_le RR.out.size HB.out)), Aside0.mk (FR.out.trans (Fx.below HB.out))⟩, by show s.btw.length - (k + 1) < s.btw.length - k; omega⟩
    · have hin : k = s.btw.length := by omega
      subst hin
      have d0 : wr.cell? ⟨gd, 0, none⟩ = some (.slice (some ⟨ga, 0, none⟩) n ca) := (blk_cell RR.out.d 0).trans rfl
      have d1 : wr.cell? ⟨gd, 1, none⟩ = some (.slice (some ⟨gh, 0, none⟩) n ch) := (blk_cell RR.out.d 1).trans rfl
      have dl : decide ((s.btw.length : Int) < (s.btw.length : Int)) = false := decide_eq_false (by omega)
      go_wp2
      refine start_ (n := 9) (S := fun w' => w'.cell? ⟨gd, 0, none⟩ = some (.slice (some ⟨ga, 0, none⟩) n ca) ∧ w'.cell? ⟨gd, 1, none⟩ = some (.slice (some ⟨gh, 0, none⟩) n ch)) (ds := [8]) #[false, false, false, false, false, false, false, false, false] (by kernel_rfl) rfl rfl ⟨d0, d1⟩ (fun hHeld => ?_)
      refine pure_ (i := 0) (N := some 53) (v := ?_) (a' := ?_) #[true, false, false, false, false, false, false, false, false] rfl rfl (by kernel_rfl) (fun _ _ _ h => h) (Or.inl ⟨by rfl, ?_⟩) ?_ ?_
      rotate_left
      · intro w'
        go_simp
        with_reducible rfl
      rotate_left
      · simp only [Act.put, List.setIfInBounds_toArray, List.set_cons_zero, List.set_cons_succ, i64_w, i32_w]
        rfl
      refine pure_ (i := 1) (N := some 54) (v := ?_) (a' := ?_) #[true, true, false, false, false, false, false, false, false] rfl rfl (by kernel_rfl) (fun _ _ _ h => h) (Or.inl ⟨by rfl, ?_⟩) ?_ ?_
      rotate_left
      · intro w'
        go_simp
        with_reducible rfl
      rotate_left
      · simp only [Act.put, List.setIfInBounds_toArray, List.set_cons_zero, List.set_cons_succ, i64_w, i32_w]
        rfl
      refine pure_ (i := 2) (N := some 55) (v := ?_) (a' := ?_) #[true, true, true, false, false, false, false, false, false] rfl rfl (by kernel_rfl) (fun _ _ _ h => h) (Or.inl ⟨by rfl, ?_⟩) ?_ ?_
      rotate_left
      · intro w'
        go_simp
        with_reducible rfl
      rotate_left
      · simp only [Act.put, List.setIfInBounds_toArray, List.set_cons_zero, List.set_cons_succ, i64_w, i32_w]
        rfl
      refine pure_ (i := 4) (N := some 57) (v := ?_) (a' := ?_) #[true, true, true, false, true, false, false, false, false] rfl rfl (by kernel_rfl) (fun _ _ _ h => h) (Or.inl ⟨by rfl, ?_⟩) ?_ ?_
      rotate_left
      · intro w'
        go_simp
        with_reducible rfl
      rotate_left
      · simp only [Act.put, List.setIfInBounds_toArray, List.set_cons_zero, List.set_cons_succ, i64_w, i32_w]
        rfl
      refine pure_ (i := 5) (N := some 58) (v := ?_) (a' := ?_) #[true, true, true, false, true, true, false, false, false] rfl rfl (by kernel_rfl) (fun _ _ _ h => h) (Or.inl ⟨by rfl, ?_⟩) ?_ ?_
      rotate_left
      · intro w'
        go_simp
        with_reducible rfl
      rotate_left
      · simp only [Act.put, List.setIfInBounds_toArray, List.set_cons_zero, List.set_cons_succ, i64_w, i32_w]
        rfl
      refine pure_ (i := 6) (N := some 59) (v := ?_) (a' := ?_) #[true, true, true, false, true, true, true, false, false] rfl rfl (by kernel_rfl) (fun _ _ _ h => h) (Or.inl ⟨by rfl, ?_⟩) ?_ ?_
      rotate_left
      · intro w'
        go_simp
        with_reducible rfl
      rotate_left
      · simp only [Act.put, List.setIfInBounds_toArray, List.set_cons_zero, List.set_cons_succ, i64_w, i32_w]
        rfl
      refine take_ (i := 3) (N := some 56) (v := ?_) (a' := ?_) #[true, true, true, true, true, true, true, false, false] rfl rfl (by kernel_rfl) (fun _ _ _ h => h) (Or.inl ⟨by rfl, ?_⟩) hHeld ?_ ?_
      rotate_left
      · rintro w' ⟨s0, s1⟩
        go_simp
        with_reducible rfl
      rotate_left
      · simp only [Act.put, List.setIfInBounds_toArray, List.set_cons_zero, List.set_cons_succ, i64_w, i32_w]
        rfl
      refine take_ (i := 7) (N := some 60) (v := ?_) (a' := ?_) #[true, true, true, true, true, true, true, true, false] rfl rfl (by kernel_rfl) (fun _ _ _ h => h) (Or.inl ⟨by rfl, ?_⟩) hHeld ?_ ?_
      rotate_left
      · rintro w' ⟨s0, s1⟩
        go_simp
        with_reducible rfl
      rotate_left
      · simp only [Act.put, List.setIfInBounds_toArray, List.set_cons_zero, List.set_cons_succ, i64_w, i32_w]
        rfl
      refine last_ (i := 8) (N := some 61) #[true, true, true, true, true, true, true, true, true] rfl rfl (by kernel_rfl) (by decide) (fun K hK => ?_)
      refine copyAll_ev (by rfl) rfl (.tmp 56) (.tmp 60) rfl ga gh n ca ch rfl rfl _ _ RR.out.a RR.out.h RR.out.la RR.out.lh B (below_drew1 HX.out) RR.out.ba ?_
      intro w5 h1 h2 h3; have BA := Aside0.mk h1; have OA := Aside0.mk (show ∀ k, k ≠ ga → w5.heap[k]? = wr.heap[k]? from h2.out); have HX5 := Aside0.mk h3; clear h1 h2 h3
      refine hK.out _ _ ?_
      clear hK K
      refine norm_ (a' := ?_) ?_ ?_
      rotate_left
      · show Act.put _ (some 61) _ = _
        simp only [Act.put, List.setIfInBounds_toArray, List.set_cons_zero, List.set_cons_succ, i64_w, i32_w]
        rfl
      refine done_ (by kernel_rfl) ?_

      clear d0 d1
      have R5 := Aside0.mk (RR.out.askedTo _ (askLen RR.out.la RR.out.lh) BA.out OA.out)
      have F5 := Aside0.mk (FR.out.trans (Fx.a OA.out))
      clear RR BA OA HX FR
      have x2 : w5.cell? ⟨gd, 2, none⟩ = some (.slice Aq s.btw.length cq) := (blk_cell R5.out.d 2).trans rfl
      have x3 : w5.cell? ⟨gd, 3, none⟩ = some (.int .i64 s.al) := (blk_cell R5.out.d 3).trans rfl
      have x5 : w5.cell? ⟨gd, 5, none⟩ = some (.bool s.ni) := (blk_cell R5.out.d 5).trans rfl
      have z2 := blk_frozen R5.out.d 2
      have z3 := blk_frozen R5.out.d 3
      have z5 := blk_frozen R5.out.d 5
      go_wp2
      go_ret
      have e1 := blk_put R5.out.d 2 (.slice none 0 0) (drow_bt _ _ _ _ _ _ _ _ _)
      have e2 := blk_put e1 5 (.bool false) (drow_ni _ _ _ _ _ _ _ _ _)
      have e3 := blk_put e2 3 (.int .i64 0) (drow_al _ _ _ _ _ _ _ _ _)
      have ho : ∀ k, k ≠ gd → (((w5.setCell ⟨gd, 2, none⟩ (.slice none 0 0)).setCell ⟨gd, 5, none⟩ (.bool false)).setCell ⟨gd, 3, none⟩ (.int .i64 0)).heap[k]? = w5.heap[k]? := fun k hk => (heap_setCell_other _ _ k _ hk).trans ((heap_setCell_other _ _ k _ hk).trans (heap_setCell_other _ _ k _ hk))
      exact ⟨rfl, R5.out.none 0 false (by decide) (by decide) e3 ho, ((HX5.out.setCell (show B ≤ gd from R5.out.bd) _).setCell (show B ≤ gd from R5.out.bd) _).setCell (show B ≤ gd from R5.out.bd) _, F5.out.trans (Fx.d ho)⟩
set_option maxHeartbeats 8000000 in
set_option maxRecDepth 100000 in
theorem Read.ok (w : World) (gd ga ca : Nat) (H : Option Addr) (n c : Nat) (bt : Value) (al st : Int) (hg : w.heap[gd]? = some (.cells (drow (.slice (some ⟨ga, 0, none⟩) n ca) H n c bt al st false) 60 (0, 0))) (F : List Int) (ha : w.heap[ga]? = some (.cells (bcells F) 29 (0, 0))) (hl : n * 64 ≤ F.length) (i : Nat) (hi : i < n) :
    Calls Try.prog 19 #[.pointer (some ⟨gd, 0, none⟩), .int .i64 i] w fun e w' => e = .returned (.tuple #[.agg (bcells (blkAt F i)), .int .i64 0]) ∧ Below w.heap.size w w' := by
  have HB := Aside0.mk (Below.refl w.heap.size w)
  have BKd := Aside0.mk hg
  have BKa := Aside0.mk ha
  have LF := Aside0.mk hl
  have LX := Aside0.mk (blkAt_len F i n hl hi)
  have HI := Aside0.mk hi
  have x0 : w.cell? ⟨gd, 0, none⟩ = some (.slice (some ⟨ga, 0, none⟩) n ca) := (blk_cell hg 0).trans rfl
  have i0 : (0 : Int) ≤ (i : Int) := Int.natCast_nonneg i
  have i1 : (i : Int) < (n : Int) := by omega
  have hn : 0 < n := by omega
  clear hg ha hl hi
  go_enter Try.func19, Try.ntmps19
  go_wp2_with (first
    | ((with_reducible refine gate_dst (N := 4) rfl ?_); refine box_event ?hg (N := 4) ?hd (cs := bcells zero64) (t := 29) ?hr ?_; (case hd => rfl); (case hg => rfl); (case hr => exact alloc29_run rfl _); intro gx hg w1x hbox hb; have Gx := Aside0.mk (show w.heap.size ≤ gx from by rw [hg]; exact below_size (by repeat (first | (with_reducible first | exact HB.out | apply below_alloc | apply pw_below_drewN | apply below_drew1) | exact HB.out))); have BKx := Aside0.mk hbox; clear hbox hg; have n0_ := Aside0.mk (below_step (by repeat (first | (with_reducible first | exact HB.out | apply below_alloc | apply pw_below_drewN | apply below_drew1) | exact HB.out)) hb); (first | have n1_ := Aside0.mk (blk_below BKd.out hb) | have n1_ := Aside0.mk (blk_below (blk_drewN BKd.out _) hb) | have n1_ := Aside0.mk (blk_below (blk_drew BKd.out) hb) | have n1_ := Aside0.mk (blk_below (blk_alloc BKd.out _) hb) | have n1_ := Aside0.mk (blk_below (by (with_reducible repeat (first | refine blk_drewN ?_ _ | refine blk_drew ?_ | refine blk_alloc ?_ _)); exact BKd.out) hb)); (first | have n2_ := Aside0.mk (blk_below BKa.out hb) | have n2_ := Aside0.mk (blk_below (blk_drewN BKa.out _) hb) | have n2_ := Aside0.mk (blk_below (blk_drew BKa.out) hb) | have n2_ := Aside0.mk (blk_below (blk_alloc BKa.out _) hb) | have n2_ := Aside0.mk (blk_below (by (with_reducible repeat (first | refine blk_drewN ?_ _ | refine blk_drew ?_ | refine blk_alloc ?_ _)); exact BKa.out) hb)); clear HB BKd BKa; have HB := n0_; have BKd := n1_; have BKa := n2_; clear n0_ n1_ n2_ hb; have x1_ := (show w1x.cell? ⟨gd, 0, none⟩ = some (.slice (some ⟨ga, 0, none⟩) n ca) from (blk_cell BKd.out 0).trans rfl); clear x0)
    | (go_at_call 27; with_reducible refine (day.ok _ gd _ H n c bt al st (by (with_reducible repeat (first | refine blk_drewN ?_ _ | refine blk_drew ?_ | refine blk_alloc ?_ _)); exact BKd.out) hn).mono ?_; rintro e' w' ⟨rfl, rfl⟩)
    | (go_at_call 31; with_reducible refine (known.ok _ gd _ H n c bt al st false (by (with_reducible repeat (first | refine blk_drewN ?_ _ | refine blk_drew ?_ | refine blk_alloc ?_ _)); exact BKd.out) i hn i0 i1).mono ?_; rintro e' w' ⟨rfl, rfl⟩)
    | ((with_reducible refine gate_dst (N := 27) rfl ?_); refine wpList_load_blk rfl (.tmp 26) rfl ga (i * 64) rfl (blkAt F i) LX.out (range_blk (by (with_reducible repeat (first | refine blk_drewN ?_ _ | refine blk_drew ?_ | refine blk_alloc ?_ _)); exact BKa.out) i LF.out HI.out) ?_)
    | (refine wpList_store_row rfl 29 (.tmp 4) (.tmp 27) rfl gx (bcells (blkAt F i)) rfl (by rfl) 29 (bcells zero64) (by (with_reducible repeat (first | refine blk_drewN ?_ _ | refine blk_drew ?_ | refine blk_alloc ?_ _)); exact BKx.out) (seal_size _ LX.out) (by rw [bcells_size, bcells_size, LX.out]; rfl) (bcells_all _) ?_; have n0 := Aside0.mk (below_setRow (show Below w.heap.size w _ from by repeat (first | (with_reducible first | exact HB.out | apply below_alloc | apply pw_below_drewN | apply below_drew1) | exact HB.out)) (show w.heap.size ≤ gx from Gx.out) (bcells (blkAt F i))); have n1 := Aside0.mk (setRow_heap _ _ _ (bcells (blkAt F i)) _ _ (by (with_reducible repeat (first | refine blk_drewN ?_ _ | refine blk_drew ?_ | refine blk_alloc ?_ _)); exact BKx.out)); generalize World.setRow _ _ _ = w3 at n0 n1; clear HB BKx; have HB := n0; have BKx := n1; clear n0 n1))
  refine bodyPost_ret (results_ct rfl _ _ gx 29 (bcells (blkAt F i)) (0, 0) _ rfl BKx.out Try.underlying29 rfl (seal_size _ LX.out)) rfl ?_
  exact ⟨rfl, HB.out⟩

set_option maxHeartbeats 8000000 in
set_option maxRecDepth 100000 in
theorem Sure.ok (w : World) (gd : Nat) (a : Value) (ga ca : Nat) (n : Nat) (bt : Value) (al st : Int) (ni : Bool) (hg : w.heap[gd]? = some (.cells (drow a (some ⟨ga, 0, none⟩) n ca bt al st ni) 60 (0, 0))) (F : List Int) (ha : w.heap[ga]? = some (.cells (bcells F) 29 (0, 0))) (hl : n * 64 ≤ F.length) (i : Nat) (hi : i < n) :
    Calls Try.prog 18 #[.pointer (some ⟨gd, 0, none⟩), .int .i64 i] w fun e w' => e = .returned (.tuple #[.agg (bcells (blkAt F i)), .int .i64 0]) ∧ Below w.heap.size w w' := by
  have HB := Aside0.mk (Below.refl w.heap.size w)
  have BKd := Aside0.mk hg
  have BKa := Aside0.mk ha
  have LF := Aside0.mk hl
  have LX := Aside0.mk (blkAt_len F i n hl hi)
  have HI := Aside0.mk hi
  have x0 : w.cell? ⟨gd, 1, none⟩ = some (.slice (some ⟨ga, 0, none⟩) n ca) := (blk_cell hg 1).trans rfl
  have i0 : (0 : Int) ≤ (i : Int) := Int.natCast_nonneg i
  have i1 : (i : Int) < (n : Int) := by omega
  have hn : 0 < n := by omega
  clear hg ha hl hi
  go_enter Try.func18, Try.ntmps18
  go_wp2_with (first
    | ((with_reducible refine gate_dst (N := 4) rfl ?_); refine box_event ?hg (N := 4) ?hd (cs := bcells zero64) (t := 29) ?hr ?_; (case hd => rfl); (case hg => rfl); (case hr => exact alloc29_run rfl _); intro gx hg w1x hbox hb; have Gx := Aside0.mk (show w.heap.size ≤ gx from by rw [hg]; exact below_size (by repeat (first | (with_reducible first | exact HB.out | apply below_alloc | apply pw_below_drewN | apply below_drew1) | exact HB.out))); have BKx := Aside0.mk hbox; clear hbox hg; have n0_ := Aside0.mk (below_step (by repeat (first | (with_reducible first | exact HB.out | apply below_alloc | apply pw_below_drewN | apply below_drew1) | exact HB.out)) hb); (first | have n1_ := Aside0.mk (blk_below BKd.out hb) | have n1_ := Aside0.mk (blk_below (blk_drewN BKd.out _) hb) | have n1_ := Aside0.mk (blk_below (blk_drew BKd.out) hb) | have n1_ := Aside0.mk (blk_below (blk_alloc BKd.out _) hb) | have n1_ := Aside0.mk (blk_below (by (with_reducible repeat (first | refine blk_drewN ?_ _ | refine blk_drew ?_ | refine blk_alloc ?_ _)); exact BKd.out) hb)); (first | have n2_ := Aside0.mk (blk_below BKa.out hb) | have n2_ := Aside0.mk (blk_below (blk_drewN BKa.out _) hb) | have n2_ := Aside0.mk (blk_below (blk_drew BKa.out) hb) | have n2_ := Aside0.mk (blk_below (blk_alloc BKa.out _) hb) | have n2_ := Aside0.mk (blk_below (by (with_reducible repeat (first | refine blk_drewN ?_ _ | refine blk_drew ?_ | refine blk_alloc ?_ _)); exact BKa.out) hb)); clear HB BKd BKa; have HB := n0_; have BKd := n1_; have BKa := n2_; clear n0_ n1_ n2_ hb; have x1_ := (show w1x.cell? ⟨gd, 1, none⟩ = some (.slice (some ⟨ga, 0, none⟩) n ca) from (blk_cell BKd.out 1).trans rfl); clear x0)
    | (go_at_call 31; with_reducible refine (known.ok _ gd a _ n ca bt al st ni (by (with_reducible repeat (first | refine blk_drewN ?_ _ | refine blk_drew ?_ | refine blk_alloc ?_ _)); exact BKd.out) i hn i0 i1).mono ?_; rintro e' w' ⟨rfl, rfl⟩)
    | ((with_reducible refine gate_dst (N := 20) rfl ?_); refine wpList_load_blk rfl (.tmp 19) rfl ga (i * 64) rfl (blkAt F i) LX.out (range_blk (by (with_reducible repeat (first | refine blk_drewN ?_ _ | refine blk_drew ?_ | refine blk_alloc ?_ _)); exact BKa.out) i LF.out HI.out) ?_)
    | (refine wpList_store_row rfl 29 (.tmp 4) (.tmp 20) rfl gx (bcells (blkAt F i)) rfl (by rfl) 29 (bcells zero64) (by (with_reducible repeat (first | refine blk_drewN ?_ _ | refine blk_drew ?_ | refine blk_alloc ?_ _)); exact BKx.out) (seal_size _ LX.out) (by rw [bcells_size, bcells_size, LX.out]; rfl) (bcells_all _) ?_; have n0 := Aside0.mk (below_setRow (show Below w.heap.size w _ from by repeat (first | (with_reducible first | exact HB.out | apply below_alloc | apply pw_below_drewN | apply below_drew1) | exact HB.out)) (show w.heap.size ≤ gx from Gx.out) (bcells (blkAt F i))); have n1 := Aside0.mk (setRow_heap _ _ _ (bcells (blkAt F i)) _ _ (by (with_reducible repeat (first | refine blk_drewN ?_ _ | refine blk_drew ?_ | refine blk_alloc ?_ _)); exact BKx.out)); generalize World.setRow _ _ _ = w3 at n0 n1; clear HB BKx; have HB := n0; have BKx := n1; clear n0 n1))
  refine bodyPost_ret (results_ct rfl _ _ gx 29 (bcells (blkAt F i)) (0, 0) _ rfl BKx.out Try.underlying29 rfl (seal_size _ LX.out)) rfl ?_
  exact ⟨rfl, HB.out⟩

theorem Sure.is (w : World) (B gd ga gh n ca ch : Nat) (bt : Value) (s : DS) (r : Rep B w gd ga gh n ca ch bt s) (i : Nat) (hi : i < n) (Y : List Int) (h : blkAt s.held i = Y) :
    Calls Try.prog 18 #[.pointer (some ⟨gd, 0, none⟩), .int .i64 (i : Int)] w fun e w' => e = .returned (.tuple #[.agg (bcells Y), .int .i64 0]) ∧ Below w.heap.size w w' := by
  subst h
  exact Sure.ok w gd _ gh ch n bt s.al s.st s.ni r.d s.held r.h r.lh i hi
theorem Read.is (w : World) (B gd ga gh n ca ch : Nat) (bt : Value) (s : DS) (r : Rep B w gd ga gh n ca ch bt s) (hni : s.ni = false) (i : Nat) (hi : i < n) (Y : List Int) (h : blkAt s.asked i = Y) :
    Calls Try.prog 19 #[.pointer (some ⟨gd, 0, none⟩), .int .i64 (i : Int)] w fun e w' => e = .returned (.tuple #[.agg (bcells Y), .int .i64 0]) ∧ Below w.heap.size w w' := by
  subst h
  have hd := r.d
  rw [hni] at hd
  exact Read.ok w gd ga ca _ n ch bt s.al s.st hd s.asked r.a r.la i hi
theorem Steps.is (w : World) (B gd ga gh n ca ch : Nat) (bt : Value) (s : DS) (r : Rep B w gd ga gh n ca ch bt s) (x : Int) (h : s.st = x) : Calls Try.prog 13 #[.pointer (some ⟨gd, 0, none⟩)] w fun e w' => e = .returned (.int .i64 x) ∧ w' = w := by
  subst h
  exact Steps.row w gd _ _ n ch bt s.al s.st s.ni r.d
theorem Dark.is (w : World) (B gd ga gh n ca ch : Nat) (bt : Value) (s : DS) (r : Rep B w gd ga gh n ca ch bt s) (x : Bool) (h : s.ni = x) : Calls Try.prog 12 #[.pointer (some ⟨gd, 0, none⟩)] w fun e w' => e = .returned (.bool x) ∧ w' = w := by
  subst h
  exact Dark.row w gd _ _ n ch bt s.al s.st s.ni r.d
theorem Loose.is (w : World) (B gd ga gh n ca ch : Nat) (bt : Value) (s : DS) (r : Rep B w gd ga gh n ca ch bt s) : Calls Try.prog 16 #[.pointer (some ⟨gd, 0, none⟩)] w fun e w' => e = .returned (.int .i64 (s.btw.length : Int)) ∧ w' = w := by
  obtain ⟨A, c, e⟩ := Kd.R_slice r.b
  subst e
  exact Loose.row w gd _ _ n ch A s.btw.length c s.al s.st s.ni r.d
theorem _root_.Go.Proofs.Ytlnfdhcpnbhkdaa.GA.Rep.toE {B : Nat} {w : World} {gd ga gh n : Nat} {bt : Value} {s : DS} (r : GA.Rep B w gd ga gh n bt s) : Rep B w gd ga gh n n n bt s := ⟨r.d, r.a, r.h, r.b, r.bd, r.ba, r.bh, r.ne, Nat.le_of_eq r.la.symm, Nat.le_of_eq r.lh.symm, r.n0, r.ok, r.al0, r.al1, r.st0⟩
end Go.Proofs.Ytlnfdhcpnbhkdaa.GA.E
