/- Blocks in memory: loads, stores and copies of 64 bytes. No condition. -/
import Derived.Test.YtlnfdhcpnbhkdaaF2
import Derived.Laws.CopyOwn
import Derived.ChangeKeysEq
import Derived.Deep.RegionHeld3
import Derived.Deep.MidRow
import Derived.Great.Walk
import Derived.Deep.LoopGhost
import Derived.Deep.DeepCutAuto
namespace Go.Proofs.Ytlnfdhcpnbhkdaa.GA.F
open Go.RowKit Go.Proofs.YtlnfdhcpnbhkdaaW.PrintWords Go.Proofs.YtlnfdhcpnbhkdaaW.PrintLast Go.Proofs.YtlnfdhcpnbhkdaaW.PrintMore
set_option linter.unusedVariables false
set_option linter.unusedSimpArgs false

theorem AskR.at {B : Nat} {w : World} {bt : Value} {l : List (Int × List Int)} (h : AskR B w bt l) (k : Nat) (x : Int × List Int) (hk : l[k]? = some x) : ∃ g c, bt = .slice (some ⟨g, 0, none⟩) l.length c ∧ x.2.length = 64 ∧ w.rangeAt g (k * 65) (.int .i64 x.1 :: encs (Value.int .u8) x.2) ∧ ∃ cur, w.heap[g]? = some (.cells cur 76 (0, 0)) := by
  obtain ⟨_, inner, ⟨hlen, ho⟩, hrl, hr⟩ := h
  have hkl : k < l.length := (List.getElem?_eq_some_iff.1 hk).1
  rcases ho with ⟨_, h0⟩ | ⟨g, cap, cur, hv0, _, hg, _, _, hsz, hcur⟩
  · omega
  · obtain ⟨h1, h2⟩ := hr k x hk
    have h1' : ((cur.toList.take (l.length * 65)).drop (k * 65)).take 65 = .int .i64 x.1 :: encs (Value.int .u8) x.2 := by
      have e : cur.toList.take (l.length * 65) = inner := hcur
      rw [e]
      exact h1
    refine ⟨g, cap, hv0, h2, fun j v hv => ?_, cur, hg⟩
    have hj : j < 65 := by
      have := (List.getElem?_eq_some_iff.1 hv).1
      rw [List.length_cons, encs_length, h2] at this
      exact this
    have hm := Nat.mul_le_mul_right 65 (Nat.succ_le_of_lt hkl)
    rw [Nat.succ_mul] at hm
    rw [← h1', List.getElem?_take_of_lt hj, List.getElem?_drop, List.getElem?_take_of_lt (by omega)] at hv
    rw [blk_cell hg, ← Array.getElem?_toList]
    exact hv

theorem ask_size76 (i : Int) (b : List Int) (h : b.length = 64) : (Try.prog.info? 76).map (·.size) = some (.int .i64 i :: encs (Value.int .u8) b : List Value).length := by
  rw [List.length_cons, encs_length, h]
  kernel_rfl
theorem ask_size76' (i : Int) (b : List Int) (h : b.length = 64) : (Try.prog.info? 76).map (·.size) = some (askC i b).size := by
  rw [askC_size i b h]
  kernel_rfl

theorem alloc76_make (W : World) : (Instr.alloc 76 true (.tuple #[])).run Try.prog W = .ok (.pointer (some ⟨W.heap.size, 0, none⟩)) (W.alloc (.cells (askC 0 zero64) 76)) := by kernel_rfl
theorem alloc76_run {o : Oper} {a : Act} (ho : o.op = .alloc 76) (W : World) : (execOp a.eval o).run Try.prog W = .ok (.value (.pointer (some ⟨W.heap.size, 0, none⟩))) (W.alloc (.cells (askC 0 zero64) 76 (0, 0))) := by
  unfold execOp
  simp only [ho, Sem.run_bind, alloc76_make, Result.andThen_ok, Sem.run_pure]

section
variable {ops : Array Oper} {rest : List Oper} {o : Oper} {a : Act} {Q : Exit → Act → World → Prop}
theorem wpList_load_ask76 {w : World} (hgd : o.guard = none) (x : Operand) (ho : o.op = .load 76 x) (g off : Nat) (hx : a.eval x = .pointer (some ⟨g, off, none⟩)) (i : Int) (b : List Int) (hb : b.length = 64) (hr : w.rangeAt g off (.int .i64 i :: encs (Value.int .u8) b))
    (h : wpList Try.prog ops Q rest (a.put o.dst (.agg (askC i b))) w) : wpList Try.prog ops Q (o :: rest) a w :=
  wpList_load_mid hgd 76 x ho g off hx _ _ hr Try.underlying76 rfl (ask_size76 i b hb) h
end

def pickAt (p : List Int) (k : Nat) : Int := if k < p.length then rd p (k : Int) else 0
/-- what is held behind k writes -/
def holdTo (H : List Int) (l : List (Int × List Int)) (p : List Int) : Nat → List Int
  | 0 => H
  | k + 1 => splice (holdTo H l p k) ((l.getD k (0, [])).1.toNat * 64) (tornL (blkAt (holdTo H l p k) (l.getD k (0, [])).1.toNat) (l.getD k (0, [])).2 (pickAt p k))
theorem rrow_same (H : Option Addr) (n c : Nat) (lt : Value) (al st : Int) (ni : Bool) (lt' : Value) : (rrow H n c lt al st ni).setIfInBounds 1 lt' = rrow H n c lt' al st ni := rfl
theorem RRep.heldTo {B : Nat} {w w' : World} {gr gH cH n : Nat} {lt : Value} {s : RS} (r : RRep B w gr gH cH n lt s) (X : List Int) (hl : n * 64 ≤ X.length) (hh : w'.heap[gH]? = some (.cells (bcells X) 29 (0, 0))) (ho : ∀ k, k ≠ gH → w'.heap[k]? = w.heap[k]?) : RRep B w' gr gH cH n lt { s with held := X } :=
  ⟨(ho gr r.ne.symm).trans r.d, hh, r.l.move (fun k hk => ho k (r.l.ne r.h (by decide) hk)), r.bd, r.bh, hl, r.ok, r.al0, r.al1, r.st0, r.n0⟩
theorem RRep.none {B : Nat} {w w' : World} {gr gH cH n : Nat} {lt : Value} {s : RS} (r : RRep B w gr gH cH n lt s) (hd : w'.heap[gr]? = some (.cells (rrow (some ⟨gH, 0, Option.none⟩) n cH (.slice Option.none 0 0) s.al s.st s.ni) 73 (0, 0))) (ho : ∀ k, k ≠ gr → w'.heap[k]? = w.heap[k]?) : RRep B w' gr gH cH n (.slice Option.none 0 0) { s with list := [] } :=
  ⟨hd, (ho gH r.ne).trans r.h, Kd.R_nil _ _ _ _ _, r.bd, r.bh, r.lh, fun x hx => absurd hx (by simp), r.al0, r.al1, r.st0, r.n0⟩
theorem RRep.size {B : Nat} {w : World} {gr gH cH n : Nat} {lt : Value} {s : RS} (r : RRep B w gr gH cH n lt s) : B ≤ w.heap.size := Nat.le_of_lt (Nat.lt_of_le_of_lt r.bd (blk_lt r.d))
theorem hold_len {H : List Int} {l : List (Int × List Int)} {p : List Int} {n : Nat} (hH : n * 64 ≤ H.length) (hl : ∀ x ∈ l, 0 ≤ x.1 ∧ x.1 < n ∧ x.2.length = 64) : ∀ k, k ≤ l.length → (holdTo H l p k).length = H.length
  | 0, _ => rfl
  | k + 1, hk => by
    have ih := hold_len (p := p) hH hl k (by omega)
    have hx : l.getD k (0, []) ∈ l := by rw [List.getD_eq_getElem?_getD, List.getElem?_eq_getElem (by omega)]; exact List.getElem_mem _
    obtain ⟨h0, h1, h2⟩ := hl _ hx
    have hb : (blkAt (holdTo H l p k) (l.getD k (0, [])).1.toNat).length = 64 := E.blkAt_len _ _ n (by rw [ih]; exact hH) (by omega)
    rw [holdTo, length_splice _ _ _ (by rw [torn_len _ _ _ hb h2, ih]; omega), ih]

theorem ask_range {w : World} {g : Nat} {i : Int} {b : List Int} (h : w.heap[g]? = some (.cells (askC i b) 76 (0, 0))) (hb : b.length = 64) : w.rangeAt g 1 (encs (Value.int .u8) b) := by
  intro j v hv
  have hj : j < b.length := by have := (List.getElem?_eq_some_iff.1 hv).1; rwa [encs_length] at this
  rw [blk_cell h, askC_b i b j hj, ← hv, encs_get (d := (0 : Int)) b j hj]
  unfold rd
  rw [Int.toNat_natCast]

set_option maxHeartbeats 16000000 in
set_option maxRecDepth 100000 in
theorem hold.calls (w : World) (B gr gH cH n : Nat) (lt : Value) (s : RS) (r : RRep B w gr gH cH n lt s) (A : Option Addr) (c : Nat) (p : List Int) (hlb : s.list.length ≤ 4611686018427387904) (hp : ∀ w', Below B w w' → RFx gr gH lt w w' → Kd.C (Kd.int .i64) w' A p.length p) :
    Calls Try.prog 45 #[.pointer (some ⟨gr, 0, none⟩), .slice A p.length c] w fun e' w' => e' = .returned (.tuple #[]) ∧ RRep B w' gr gH cH n (.slice none 0 0) { s with held := holdTo s.held s.list p s.list.length, list := [] } ∧ Below B w w' ∧ RFx gr gH lt w w' := by
  have HLB := Aside0.mk hlb
  obtain ⟨Aq, cq, eq⟩ := Kd.R_slice r.l
  subst eq
  have HPK := Aside0.mk hp
  have HLN := Aside0.mk (hold_len (p := p) r.lh r.ok)
  have RR := Aside0.mk r
  have HX := Aside0.mk (Below.refl B w)
  have FR := Aside0.mk (RFx.refl gr gH (.slice Aq s.list.length cq) w)
  clear r hlb hp
  go_enter Try.func45, Try.ntmps45
  go_wp2
  go_loopw [4] (fun v4 w' => ∃ k : Nat, k ≤ s.list.length ∧ v4 = .int .i64 k ∧ Aside0 (RRep B w' gr gH cH n (.slice Aq s.list.length cq) { s with held := holdTo s.held s.list p k }) ∧ Aside0 (Below B w w') ∧ Aside0 (RFx gr gH (.slice Aq s.list.length cq) w w')) (fun v4 _ => s.list.length - (intOf v4).toNat)
  case atStart => exact ⟨0, Nat.zero_le _, rfl, RR, HX, FR⟩
  case round =>
    clear RR HX FR
    obtain ⟨k, hk, rfl, RR, HX, FR⟩ := hrel
    have x1 : wr.cell? ⟨gr, 1, none⟩ = some (.slice Aq s.list.length cq) := RR.out.x.2.1
    by_cases hlt : k < s.list.length
    · have k1 : (0 : Int) ≤ (k : Int) := Int.natCast_nonneg k
      have k2 : (k : Int) < (s.list.length : Int) := by omega
      have k3 : wrap64 ((k : Int) + 1) = (k : Int) + 1 := wrap_ok (by omega) (by have := HLB.out; omega)
      obtain ⟨x, hx⟩ : ∃ x, s.list[k]? = some x := ⟨_, List.getElem?_eq_getElem hlt⟩
      obtain ⟨gq, c', eA, hb64, hrg, cur, hcur⟩ := AskR.at RR.out.l k x hx
      have hok := RR.out.ok x (List.mem_of_getElem? hx)
      obtain ⟨xi, xb⟩ := x
      obtain ⟨j, rfl⟩ := Int.eq_ofNat_of_zero_le hok.1
      injection eA with eA _ ec
      subst eA
      subst ec
      have LB := Aside0.mk (show xb.length = 64 from hb64)
      have RG := Aside0.mk (show wr.rangeAt gq (k * 65) (.int .i64 (j : Int) :: encs (Value.int .u8) xb) from hrg)
      have HJ := Aside0.mk (show j < n from by have := hok.2.1; simp only at this; omega)
      have HG := Aside0.mk (show s.list.getD k (0, []) = ((j : Int), xb) from by rw [List.getD_eq_getElem?_getD, hx]; rfl)
      have RLA := Aside0.mk (show n * 64 ≤ (holdTo s.held s.list p k).length from RR.out.lh)
      have LK := Aside0.mk (E.blkAt_len (holdTo s.held s.list p k) j n RLA.out HJ.out)
      obtain ⟨pk, hpk⟩ : ∃ pk, pk = pickAt p k := ⟨_, rfl⟩
      have EC := Aside0.mk (show holdTo s.held s.list p (k + 1) = splice (holdTo s.held s.list p k) (j * 64) (tornL (blkAt (holdTo s.held s.list p k) j) xb pk) from by rw [holdTo, HG.out, hpk]; rfl)
      have LT := Aside0.mk (torn_len (blkAt (holdTo s.held s.list p k) j) xb pk LK.out LB.out)
      have j0 : (0 : Int) ≤ (j : Int) := Int.natCast_nonneg j
      have j1 : (j : Int) < (n : Int) := by have := HJ.out; omega
      have HB := Aside0.mk (Below.refl wr.heap.size wr)
      have PK := Aside0.mk hpk
      clear hx hb64 hrg hcur hok cur hpk
      go_upto_if 19 with fail
      go_cut [5] (fun v5 wc => v5 = .int .i64 pk ∧ Aside0 (wr = wc))
      case first =>
        by_cases hkp : k < p.length
        · have e1 : decide ((k : Int) < (p.length : Int)) = true := decide_eq_true (by omega)
          have i2 : (k : Int) < (p.length : Int) := by omega
          obtain ⟨adp, eA, px⟩ := Kd.at_int (HPK.out wr HX.out FR.out) (k : Int) k1 i2
          subst eA
          have ep : rd p (k : Int) = pk := by rw [PK.out, pickAt, if_pos hkp]
          rw [ep] at px
          clear ep
          simp only [Int.toNat_natCast] at px
          go_wp2
          go_meet
          case rel => exact ⟨rfl, ⟨rfl⟩⟩
        · have e1 : decide ((k : Int) < (p.length : Int)) = false := decide_eq_false (by omega)
          have ep : pk = 0 := by rw [PK.out, pickAt, if_neg hkp]
          subst ep
          go_wp2
          go_meet
          case rel => exact ⟨rfl, ⟨rfl⟩⟩
      case rest =>
        obtain ⟨rfl, HW⟩ := hcut
        have hw0 := HW.out
        subst hw0
        go_upto_region 7 with (first
          | ((with_reducible refine gate_dst (N := 30) rfl ?_); refine wpList_load_ask76 rfl (.tmp 29) rfl gq (k * 65) rfl (j : Int) xb LB.out RG.out ?_)
          | ((with_reducible refine gate_dst (N := 6) rfl ?_); refine box_event ?hg (N := 6) ?hd (cs := askC 0 zero64) (t := 76) ?hr ?_; (case hd => rfl); (case hg => rfl); (case hr => exact alloc76_run rfl _); intro gz hg w1z hbox hb; have Gz := Aside0.mk (show wr.heap.size ≤ gz from by rw [hg]; exact below_size (by repeat (first | (with_reducible first | exact HB.out | apply below_alloc | apply pw_below_drewN | apply below_drew1) | exact HB.out))); have BKz := Aside0.mk hbox; clear hbox hg; have n0_ := Aside0.mk (below_step (by repeat (first | (with_reducible first | exact HB.out | apply below_alloc | apply pw_below_drewN | apply below_drew1) | exact HB.out)) hb); clear HB; have HB := n0_; clear n0_ hb)
          | (refine wpList_store_row rfl 76 (.tmp 6) (.tmp 30) rfl gz (askC (j : Int) xb) rfl (by rfl) 76 (askC 0 zero64) (by first | exact BKz.out | ((with_reducible repeat (first | refine blk_drewN ?_ _ | refine blk_drew ?_ | refine blk_alloc ?_ _)); exact BKz.out)) (ask_size76' (j : Int) xb LB.out) (by rw [askC_size _ _ LB.out]; rfl) (askC_all _ _) ?_; have n0 := Aside0.mk (below_setRow (show Below wr.heap.size wr _ from by repeat (first | (with_reducible first | exact HB.out | apply below_alloc | apply pw_below_drewN | apply below_drew1) | exact HB.out)) (show wr.heap.size ≤ gz from Gz.out) (askC (j : Int) xb)); have n1 := Aside0.mk (setRow_heap _ _ _ (askC (j : Int) xb) _ _ (by first | exact BKz.out | ((with_reducible repeat (first | refine blk_drewN ?_ _ | refine blk_drew ?_ | refine blk_alloc ?_ _)); exact BKz.out))); generalize World.setRow _ _ _ = w3 at n0 n1; clear HB BKz; have HB := n0; have BKz := n1; clear n0 n1))
        have HX3 := Aside0.mk (HX.out.trans (below_of_le RR.out.size HB.out))
        have FR3 := Aside0.mk (FR.out.trans (RFx.below gr gH _ HB.out))
        have R3 := Aside0.mk (RR.out.below HB.out)
        have d0 : w3.cell? ⟨gr, 0, none⟩ = some (.slice (some ⟨gH, 0, none⟩) n cH) := R3.out.x.1
        have z0 : w3.cell? ⟨gz, 0, none⟩ = some (.int .i64 (j : Int)) := (blk_cell BKz.out 0).trans rfl
        clear RR HX FR HB x1
        refine start_ (n := 20) (S := fun w' => w'.cell? ⟨gr, 0, none⟩ = some (.slice (some ⟨gH, 0, none⟩) n cH) ∧ w'.cell? ⟨gz, 0, none⟩ = some (.int .i64 (j : Int)) ∧ w'.heap[gz]? = some (.cells (askC (j : Int) xb) 76 (0, 0)) ∧ w'.heap[gH]? = some (.cells (bcells (holdTo s.held s.list p k)) 29 (0, 0))) (ds := [19]) #[false, false, false, false, false, false, false, false, false, false, false, false, false, false, false, false, false, false, false, false] (by kernel_rfl) rfl rfl ⟨d0, z0, BKz.out, R3.out.h⟩ (fun hHeld => ?_)
        refine pure_ (i := 0) (N := some 31) (v := ?_) (a' := ?_) #[true, false, false, false, false, false, false, false, false, false, false, false, false, false, false, false, false, false, false, false] rfl rfl (by kernel_rfl) (fun _ _ _ h => h) (Or.inl ⟨by rfl, ?_⟩) ?_ ?_
        rotate_left
        · intro w'
          go_simp
          with_reducible rfl
        rotate_left
        · simp only [Act.put, List.setIfInBounds_toArray, List.set_cons_zero, List.set_cons_succ, i64_w, i32_w]
          rfl
        refine pure_ (i := 1) (N := some 32) (v := ?_) (a' := ?_) #[true, true, false, false, false, false, false, false, false, false, false, false, false, false, false, false, false, false, false, false] rfl rfl (by kernel_rfl) (fun _ _ _ h => h) (Or.inl ⟨by rfl, ?_⟩) ?_ ?_
        rotate_left
        · intro w'
          go_simp
          with_reducible rfl
        rotate_left
        · simp only [Act.put, List.setIfInBounds_toArray, List.set_cons_zero, List.set_cons_succ, i64_w, i32_w]
          rfl
        refine pure_ (i := 2) (N := some 33) (v := ?_) (a' := ?_) #[true, true, true, false, false, false, false, false, false, false, false, false, false, false, false, false, false, false, false, false] rfl rfl (by kernel_rfl) (fun _ _ _ h => h) (Or.inl ⟨by rfl, ?_⟩) ?_ ?_
        rotate_left
        · intro w'
          go_simp
          with_reducible rfl
        rotate_left
        · simp only [Act.put, List.setIfInBounds_toArray, List.set_cons_zero, List.set_cons_succ, i64_w, i32_w]
          rfl
        refine pure_ (i := 4) (N := some 35) (v := ?_) (a' := ?_) #[true, true, true, false, true, false, false, false, false, false, false, false, false, false, false, false, false, false, false, false] rfl rfl (by kernel_rfl) (fun _ _ _ h => h) (Or.inl ⟨by rfl, ?_⟩) ?_ ?_
        rotate_left
        · intro w'
          go_simp
          with_reducible rfl
        rotate_left
        · simp only [Act.put, List.setIfInBounds_toArray, List.set_cons_zero, List.set_cons_succ, i64_w, i32_w]
          rfl
        refine pure_ (i := 6) (N := some 37) (v := ?_) (a' := ?_) #[true, true, true, false, true, false, true, false, false, false, false, false, false, false, false, false, false, false, false, false] rfl rfl (by kernel_rfl) (fun _ _ _ h => h) (Or.inl ⟨by rfl, ?_⟩) ?_ ?_
        rotate_left
        · intro w'
          go_simp
          with_reducible rfl
        rotate_left
        · simp only [Act.put, List.setIfInBounds_toArray, List.set_cons_zero, List.set_cons_succ, i64_w, i32_w]
          rfl
        refine pure_ (i := 7) (N := some 38) (v := ?_) (a' := ?_) #[true, true, true, false, true, false, true, true, false, false, false, false, false, false, false, false, false, false, false, false] rfl rfl (by kernel_rfl) (fun _ _ _ h => h) (Or.inl ⟨by rfl, ?_⟩) ?_ ?_
        rotate_left
        · intro w'
          go_simp
          with_reducible rfl
        rotate_left
        · simp only [Act.put, List.setIfInBounds_toArray, List.set_cons_zero, List.set_cons_succ, i64_w, i32_w]
          rfl
        refine pure_ (i := 8) (N := some 39) (v := ?_) (a' := ?_) #[true, true, true, false, true, false, true, true, true, false, false, false, false, false, false, false, false, false, false, false] rfl rfl (by kernel_rfl) (fun _ _ _ h => h) (Or.inl ⟨by rfl, ?_⟩) ?_ ?_
        rotate_left
        · intro w'
          go_simp
          with_reducible rfl
        rotate_left
        · simp only [Act.put, List.setIfInBounds_toArray, List.set_cons_zero, List.set_cons_succ, i64_w, i32_w]
          rfl
        refine pure_ (i := 10) (N := some 41) (v := ?_) (a' := ?_) #[true, true, true, false, true, false, true, true, true, false, true, false, false, false, false, false, false, false, false, false] rfl rfl (by kernel_rfl) (fun _ _ _ h => h) (Or.inl ⟨by rfl, ?_⟩) ?_ ?_
        rotate_left
        · intro w'
          go_simp
          with_reducible rfl
        rotate_left
        · simp only [Act.put, List.setIfInBounds_toArray, List.set_cons_zero, List.set_cons_succ, i64_w, i32_w]
          rfl
        refine pure_ (i := 14) (N := some 45) (v := ?_) (a' := ?_) #[true, true, true, false, true, false, true, true, true, false, true, false, false, false, true, false, false, false, false, false] rfl rfl (by kernel_rfl) (fun _ _ _ h => h) (Or.inl ⟨by rfl, ?_⟩) ?_ ?_
        rotate_left
        · intro w'
          go_simp
          with_reducible rfl
        rotate_left
        · simp only [Act.put, List.setIfInBounds_toArray, List.set_cons_zero, List.set_cons_succ, i64_w, i32_w]
          rfl
        refine pure_ (i := 16) (N := some 47) (v := ?_) (a' := ?_) #[true, true, true, false, true, false, true, true, true, false, true, false, false, false, true, false, true, false, false, false] rfl rfl (by kernel_rfl) (fun _ _ _ h => h) (Or.inl ⟨by rfl, ?_⟩) ?_ ?_
        rotate_left
        · intro w'
          go_simp
          with_reducible rfl
        rotate_left
        · simp only [Act.put, List.setIfInBounds_toArray, List.set_cons_zero, List.set_cons_succ, i64_w, i32_w]
          rfl
        refine take_ (i := 3) (N := some 34) (v := ?_) (a' := ?_) #[true, true, true, true, true, false, true, true, true, false, true, false, false, false, true, false, true, false, false, false] rfl rfl (by kernel_rfl) (fun _ _ _ h => h) (Or.inl ⟨by rfl, ?_⟩) hHeld ?_ ?_
        rotate_left
        · rintro w' ⟨s0, s1, s2, s3⟩
          go_simp
          with_reducible rfl
        rotate_left
        · simp only [Act.put, List.setIfInBounds_toArray, List.set_cons_zero, List.set_cons_succ, i64_w, i32_w]
          rfl
        refine take_ (i := 5) (N := some 36) (v := ?_) (a' := ?_) #[true, true, true, true, true, true, true, true, true, false, true, false, false, false, true, false, true, false, false, false] rfl rfl (by kernel_rfl) (fun _ _ _ h => h) (Or.inl ⟨by rfl, ?_⟩) hHeld ?_ ?_
        rotate_left
        · rintro w' ⟨s0, s1, s2, s3⟩
          go_simp
          with_reducible rfl
        rotate_left
        · simp only [Act.put, List.setIfInBounds_toArray, List.set_cons_zero, List.set_cons_succ, i64_w, i32_w]
          rfl
        refine take_ (i := 9) (N := some 40) (v := ?_) (a' := ?_) #[true, true, true, true, true, true, true, true, true, true, true, false, false, false, true, false, true, false, false, false] rfl rfl (by kernel_rfl) (fun _ _ _ h => h) (Or.inl ⟨by rfl, ?_⟩) hHeld ?_ ?_
        rotate_left
        · rintro w' ⟨s0, s1, s2, s3⟩
          go_simp
          with_reducible rfl
        rotate_left
        · simp only [Act.put, List.setIfInBounds_toArray, List.set_cons_zero, List.set_cons_succ, i64_w, i32_w]
          rfl
        refine take_ (i := 11) (N := some 42) (v := ?_) (a' := ?_) #[true, true, true, true, true, true, true, true, true, true, true, true, false, false, true, false, true, false, false, false] rfl rfl (by kernel_rfl) (fun _ _ _ h => h) (Or.inl ⟨by rfl, ?_⟩) hHeld ?_ ?_
        rotate_left
        · rintro w' ⟨s0, s1, s2, s3⟩
          go_simp
          with_reducible rfl
        rotate_left
        · simp only [Act.put, List.setIfInBounds_toArray, List.set_cons_zero, List.set_cons_succ, i64_w, i32_w]
          rfl
        refine pure_ (i := 12) (N := some 43) (v := ?_) (a' := ?_) #[true, true, true, true, true, true, true, true, true, true, true, true, true, false, true, false, true, false, false, false] rfl rfl (by kernel_rfl) (fun _ _ _ h => h) (Or.inl ⟨by rfl, ?_⟩) ?_ ?_
        rotate_left
        · intro w'
          go_simp
          with_reducible rfl
        rotate_left
        · simp only [Act.put, List.setIfInBounds_toArray, List.set_cons_zero, List.set_cons_succ, i64_w, i32_w]
          rfl
        refine take_ (i := 13) (N := some 44) (v := ?_) (a' := ?_) #[true, true, true, true, true, true, true, true, true, true, true, true, true, true, true, false, true, false, false, false] rfl rfl (by kernel_rfl) (fun _ _ _ h => h) (Or.inl ⟨by rfl, ?_⟩) hHeld ?_ ?_
        rotate_left
        · rintro w' ⟨s0, s1, s2, s3⟩
          refine mid.load_run 43 gH (j * 64) (blkAt (holdTo s.held s.list p k) j) LK.out ?_ ?_ w' (E.range_blk (n := n) s3 j RLA.out HJ.out)
          · rfl
          · rfl
        rotate_left
        · simp only [Act.put, List.setIfInBounds_toArray, List.set_cons_zero, List.set_cons_succ, i64_w, i32_w]
          rfl
        refine take_ (i := 15) (N := some 46) (v := ?_) (a' := ?_) #[true, true, true, true, true, true, true, true, true, true, true, true, true, true, true, true, true, false, false, false] rfl rfl (by kernel_rfl) (fun _ _ _ h => h) (Or.inl ⟨by rfl, ?_⟩) hHeld ?_ ?_
        rotate_left
        · rintro w' ⟨s0, s1, s2, s3⟩
          refine mid.load_run 45 gz 1 xb LB.out ?_ ?_ w' (ask_range s2 LB.out)
          · rfl
          · rfl
        rotate_left
        · simp only [Act.put, List.setIfInBounds_toArray, List.set_cons_zero, List.set_cons_succ, i64_w, i32_w]
          rfl
        refine one_ (i := 17) (N := some 48) #[true, true, true, true, true, true, true, true, true, true, true, true, true, true, true, true, true, true, false, false] rfl rfl (by kernel_rfl) (by decide) (fun K hK => ?_)
        refine goes_ Try.func46 (by kernel_rfl) rfl #[.agg (bcells (blkAt (holdTo s.held s.list p k) j)), .agg (bcells xb), .int .i64 pk] (by rfl) rfl rfl (by simp only [List.map_toArray, List.map_cons, List.map_nil]; rfl) ?_
        with_reducible refine (Torn.calls (blkAt (holdTo s.held s.list p k) j) xb pk LK.out LB.out _).mono ?_
        rintro e w4 ⟨rfl, hb⟩
        have HX4 := Aside0.mk (HX3.out.trans (below_of_le R3.out.size (show Below w3.heap.size w3 w4 from below_step (below_drew1 (Below.refl _ _)) hb)))
        have R4 := Aside0.mk (R3.out.below (show Below w3.heap.size w3 w4 from below_step (below_drew1 (Below.refl _ _)) hb))
        have FR4 := Aside0.mk (FR3.out.trans (RFx.below gr gH _ (show Below w3.heap.size w3 w4 from below_step (below_drew1 (Below.refl _ _)) hb)))
        have BKz4 := Aside0.mk (blk_below BKz.out (show Below w3.heap.size w3 w4 from below_step (below_drew1 (Below.refl _ _)) hb))
        clear HX3 R3 FR3 hb
        refine ⟨_, rfl, ?_⟩
        refine hK.out _ _ ⟨R4.out.x.1, (blk_cell BKz4.out 0).trans rfl, BKz4.out, R4.out.h⟩ (fun hHeld => ?_)
        clear hK K
        refine norm_ (a' := ?_) ?_ ?_
        rotate_left
        · show Act.put _ (some 48) _ = _
          simp only [Act.put, List.setIfInBounds_toArray, List.set_cons_zero, List.set_cons_succ, i64_w, i32_w]
          rfl
        refine pure_ (i := 18) (N := some 49) (v := ?_) (a' := ?_) #[true, true, true, true, true, true, true, true, true, true, true, true, true, true, true, true, true, true, true, false] rfl rfl (by kernel_rfl) (fun _ _ _ h => h) (Or.inl ⟨by rfl, ?_⟩) ?_ ?_
        rotate_left
        · intro w'
          go_simp
          with_reducible rfl
        rotate_left
        · simp only [Act.put, List.setIfInBounds_toArray, List.set_cons_zero, List.set_cons_succ, i64_w, i32_w]
          rfl
        refine last_ (i := 19) (N := none) #[true, true, true, true, true, true, true, true, true, true, true, true, true, true, true, true, true, true, true, true] rfl rfl (by kernel_rfl) (by decide) (fun K hK => ?_)
        refine store_blk_ev (by rfl) rfl 49 48 rfl gH (j * 64) rfl (tornL (blkAt (holdTo s.held s.list p k) j) xb pk) LT.out rfl (holdTo s.held s.list p k) 29 R4.out.h (by have h := R4.out.lh; have := HJ.out; show j * 64 + 64 ≤ (holdTo s.held s.list p k).length; have h2 : n * 64 ≤ (holdTo s.held s.list p k).length := h; omega) B HX4.out R4.out.bh ?_
        intro w5 h1 h2 h3; have BH := Aside0.mk h1; have OH := Aside0.mk (show ∀ k, k ≠ gH → w5.heap[k]? = w4.heap[k]? from h2.out); have HX5 := Aside0.mk h3; clear h1 h2 h3
        refine hK.out _ _ ?_
        clear hK K
        refine done_ (by kernel_rfl) ?_

        clear d0 z0
        go_wp2
        have r4 := R4.out.heldTo (splice (holdTo s.held s.list p k) (j * 64) (tornL (blkAt (holdTo s.held s.list p k) j) xb pk)) (by rw [length_splice _ _ _ (by rw [LT.out]; have h : n * 64 ≤ (holdTo s.held s.list p k).length := R4.out.lh; have := HJ.out; omega)]; exact R4.out.lh) BH.out OH.out
        rw [← EC.out] at r4
        exact ⟨⟨k + 1, hlt, by first | rfl | (rw [Int.natCast_add]; rfl) | (rw [k3, Int.natCast_add]; rfl), Aside0.mk r4, Aside0.mk HX5.out, Aside0.mk (FR4.out.trans (RFx.h _ _ _ OH.out))⟩, by (try rw [k3]); show s.list.length - ((k : Int) + 1).toNat < s.list.length - ((k : Int)).toNat; omega⟩
    · have hin : k = s.list.length := by omega
      subst hin
      have dl : decide ((s.list.length : Int) < (s.list.length : Int)) = false := decide_eq_false (by omega)
      have z1 := blk_frozen RR.out.d 1
      go_wp2
      have hd := blk_put RR.out.d 1 (.slice none 0 0) (rrow_same _ _ _ _ _ _ _ _)
      have ho : ∀ k, k ≠ gr → (wr.setCell ⟨gr, 1, none⟩ (.slice none 0 0)).heap[k]? = wr.heap[k]? := fun k hk => heap_setCell_other _ _ k _ hk
      exact Great.bodyPost_end0 rfl rfl ⟨rfl, RR.out.none hd ho, HX.out.setCell (show B ≤ gr from RR.out.bd) _, FR.out.trans (RFx.d _ _ _ ho)⟩

end Go.Proofs.Ytlnfdhcpnbhkdaa.GA.F
