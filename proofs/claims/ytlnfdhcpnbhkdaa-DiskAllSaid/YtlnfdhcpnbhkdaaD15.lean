/- Blocks in memory: loads, stores and copies of 64 bytes. No condition. -/
import Derived.Test.YtlnfdhcpnbhkdaaD14
import Derived.Laws.CopyOwn
import Derived.ChangeKeysEq
import Derived.Deep.RegionHeld3
import Derived.Deep.MidRow
namespace Go.Proofs.Ytlnfdhcpnbhkdaa.GA
open Go.RowKit Go.Proofs.YtlnfdhcpnbhkdaaW.PrintWords Go.Proofs.YtlnfdhcpnbhkdaaW.PrintLast Go.Proofs.YtlnfdhcpnbhkdaaW.PrintMore
set_option linter.unusedVariables false
set_option linter.unusedSimpArgs false


/-- a write that is asked for: its number and its bytes -/
def kPut : Kd (Int × List Int) := Kd.iso (Kd.pair (Kd.int .u8) (Kd.arr 64 (Kd.int .u8) (by decide))) id
def putC (i : Int) (b : List Int) : Array Value := (.int .u8 i :: encs (Value.int .u8) b).toArray
theorem putC_size (i : Int) (b : List Int) (hb : b.length = 64) : (putC i b).size = 65 := by unfold putC; rw [List.size_toArray, List.length_cons, encs_length, hb]
theorem put_size (i : Int) (b : List Int) (h : b.length = 64) : (Try.prog.info? 31).map (·.size) = some (.int .u8 i :: encs (Value.int .u8) b : List Value).length := by
  rw [List.length_cons, encs_length, h]
  kernel_rfl
theorem put_size' (i : Int) (b : List Int) (h : b.length = 64) : (Try.prog.info? 31).map (·.size) = some (putC i b).size := by
  rw [putC_size i b h]
  kernel_rfl
theorem putC_all (i : Int) (b : List Int) : (putC i b).all (·.oneCell') = true := by
  refine all_oneCell_toArray (fun v hv => ?_)
  rcases List.mem_cons.1 hv with rfl | hv
  · rfl
  · obtain ⟨y, _, rfl⟩ := List.mem_map.1 hv
    rfl
theorem putC_range {w : World} {g t : Nat} {i : Int} {b : List Int} (hg : w.heap[g]? = some (.cells (putC i b) t (0, 0))) : w.rangeAt g 1 (encs (Value.int .u8) b) := by
  intro j v hv
  rw [blk_cell hg]
  unfold putC
  have e : (Value.int .u8 i :: encs (Value.int .u8) b).toArray[1 + j]? = (Value.int .u8 i :: encs (Value.int .u8) b)[1 + j]? := by simp
  rw [e, show 1 + j = j + 1 by omega, List.getElem?_cons_succ]
  exact hv
theorem alloc31_make (W : World) : (Instr.alloc 31 true (.tuple #[])).run Try.prog W = .ok (.pointer (some ⟨W.heap.size, 0, none⟩)) (W.alloc (.cells (putC 0 zero64) 31)) := by kernel_rfl
theorem alloc31_run {o : Oper} {a : Act} (ho : o.op = .alloc 31) (W : World) : (execOp a.eval o).run Try.prog W = .ok (.value (.pointer (some ⟨W.heap.size, 0, none⟩))) (W.alloc (.cells (putC 0 zero64) 31 (0, 0))) := by
  unfold execOp
  simp only [ho, Sem.run_bind, alloc31_make, Result.andThen_ok, Sem.run_pure]
theorem put_at {w : World} {A : Option Addr} {l : List (Int × List Int)} (h : kPut.C w A l.length l) (k : Nat) (x : Int × List Int) (hk : l[k]? = some x) : ∃ ad, A = some ad ∧ x.2.length = 64 ∧ ∀ j v, (.int .u8 x.1 :: encs (Value.int .u8) x.2 : List Value)[j]? = some v → w.cell? ((ad.add (k * 65)).add j) = some v := by
  have hkl : k < l.length := (List.getElem?_eq_some_iff.1 hk).1
  obtain ⟨ad, e, hc⟩ := h.2.2 (by omega)
  obtain ⟨c, _, hK, hcell⟩ := hc k x hk
  obtain ⟨c0, c1, e1, h1, h3⟩ := hK
  have h3' := Kd.arr_cells (enc := Value.int .u8) (h1 := fun _ => rfl) h3
  have h1' : c0 = [.int .u8 x.1] := h1
  have h4 : c = .int .u8 x.1 :: encs (Value.int .u8) x.2 := by rw [e1, h1', h3'.2]; rfl
  refine ⟨ad, e, h3'.1, fun j v hv => ?_⟩
  rw [← h4] at hv
  have := hcell j v hv
  rw [Addr.add_add]
  exact this
theorem run_loadVar_at (w : World) (ad : Addr) (ty : TypeId) (cs : List Value) (d : TypeDesc) (hc : ∀ j v, cs[j]? = some v → w.cell? (ad.add j) = some v)
    (hu : Try.prog.underlying ty = some d) (hd : d.isRow = true) (hi : (Try.prog.info? ty).map (·.size) = some cs.length) :
    (loadVar ty ad).run Try.prog w = .ok (.agg cs.toArray) w := by
  have hl : (loadCells ad cs.length).run Try.prog w = .ok cs.toArray w := run_loadCells_list (P := Try.prog) w ad cs hc
  cases hq : Try.prog.info? ty with
  | none => simp [hq] at hi
  | some i =>
    have hs : i.size = cs.length := by simpa [hq] using hi
    have hagg : (isAgg ty).run Try.prog w = .ok true w := by
      unfold isAgg
      rw [Sem.run_bind, run_underlying hu w]
      cases d <;> simp_all
    simp [loadVar, Sem.run_bind, hagg, sizeOf, typeInfo, hq, hs, hl]
section
variable {ops : Array Oper} {rest : List Oper} {o : Oper} {a : Act} {Q : Exit → Act → World → Prop}
theorem wpList_load_put {w : World} (hgd : o.guard = none) (x : Operand) (ho : o.op = .load 31 x) (ad : Addr) (hx : a.eval x = .pointer (some ad)) (i : Int) (b : List Int) (hb : b.length = 64) (hr : ∀ j v, (.int .u8 i :: encs (Value.int .u8) b : List Value)[j]? = some v → w.cell? (ad.add j) = some v)
    (h : wpList Try.prog ops Q rest (a.put o.dst (.agg (putC i b))) w) : wpList Try.prog ops Q (o :: rest) a w := by
  refine wpList_plain hgd fun K hK => ?_
  unfold Oper.wp execOp
  simp only [ho, hx, Instr.loadAt, Instr.sureAddr, Sem.run_bind, Sem.run_pure, Result.andThen_ok, run_loadVar_at w ad 31 _ _ hr Try.underlying31 rfl (put_size i b hb)]
  exact hK _ _ h
end
theorem wrap_u8 {n : Int} (h0 : 0 ≤ n) (h1 : n < 256) : IntKind.i64.wrap n = n := by rw [i64_w]; unfold wrap64; omega
/-- what an alarm of R makes of a disk behind k steps -/
def ArmInv (R : Int) (k : Nat) (s : DS) : Prop := if 0 < R ∧ R ≤ k then s.ni = true ∧ s.st = R - 1 else s.ni = false ∧ s.st = k ∧ s.al = (if R = 0 then 0 else R - k)
def armRes (R : Int) (k : Nat) : Int := if 0 < R ∧ R ≤ (k : Int) + 1 then 9 else 0

theorem arm.write (w : World) (B gd ga gh n : Nat) (bt : Value) (s : DS) (r : Rep B w gd ga gh n bt s) (R : Int) (hR0 : 0 ≤ R) (hR1 : R < 64) (k : Nat) (hk : k < 60) (hinv : ArmInv R k s) (hlen : s.btw.length ≤ k) (j : Nat) (hj : j < n) (b : List Int) (hb : b.length = 64) :
    Calls Try.prog 10 #[.pointer (some ⟨gd, 0, none⟩), .int .i64 (j : Int), .agg (bcells b)] w fun e' w' => e' = .returned (.int .i64 (armRes R k)) ∧ ∃ bt' s', Rep B w' gd ga gh n bt' s' ∧ ArmInv R (k + 1) s' ∧ s'.btw.length ≤ k + 1 ∧ Below B w w' ∧ Fr w w' := by
  unfold ArmInv at hinv
  unfold armRes
  by_cases c : 0 < R ∧ R ≤ (k : Int)
  · rw [if_pos c] at hinv
    rw [if_pos (by omega)]
    refine (Write.night w B gd ga gh n bt s r hinv.1 (j : Int) b hb).mono ?_
    rintro e' w' ⟨rfl, hb⟩
    refine ⟨rfl, bt, s, r.below hb, ?_, by omega, below_of_le r.size hb, Fr.below hb⟩
    unfold ArmInv
    rw [if_pos (by omega)]
    exact hinv
  · rw [if_neg c] at hinv
    obtain ⟨h1, h2, h3⟩ := hinv
    by_cases c2 : 0 < R ∧ R ≤ (k : Int) + 1
    · rw [if_pos c2]
      have ha : s.al = 1 := by rw [h3, if_neg (by omega)]; omega
      refine (Write.ring w B gd ga gh n bt s r h1 ha j hj b hb).mono ?_
      rintro e' w' ⟨rfl, r2, hb, hf⟩
      refine ⟨rfl, bt, _, r2, ?_, (by show s.btw.length ≤ k + 1; omega), hb, hf⟩
      unfold ArmInv
      rw [if_pos (by omega)]
      exact ⟨rfl, by show s.st = R - 1; omega⟩
    · rw [if_neg c2]
      have ha : s.al ≠ 1 := by rw [h3]; split <;> omega
      refine (Write.ok w B gd ga gh n bt s r h1 ha (by omega) (by omega) j hj b hb).mono ?_
      rintro e' w' ⟨rfl, bt', r2, hb, hf⟩
      refine ⟨rfl, bt', _, r2, ?_, (by show (s.btw ++ [((j : Int), b)]).length ≤ k + 1; rw [List.length_append]; show s.btw.length + 1 ≤ k + 1; omega), hb, hf⟩
      unfold ArmInv
      rw [if_neg (by omega)]
      refine ⟨rfl, by show s.st + 1 = ((k + 1 : Nat) : Int); omega, ?_⟩
      show nextAl s.al = _
      rw [h3]
      unfold nextAl
      by_cases c3 : R = 0
      · rw [if_pos c3, if_pos c3, if_pos (by decide)]
      · rw [if_neg c3, if_neg c3, if_neg (by omega)]
        omega

theorem arm.flush (w : World) (B gd ga gh n : Nat) (bt : Value) (s : DS) (r : Rep B w gd ga gh n bt s) (R : Int) (hR0 : 0 ≤ R) (hR1 : R < 64) (k : Nat) (hk : k < 60) (hinv : ArmInv R k s) (hlen : s.btw.length ≤ k)  :
    Calls Try.prog 11 #[.pointer (some ⟨gd, 0, none⟩)] w fun e' w' => e' = .returned (.int .i64 (armRes R k)) ∧ ∃ bt' s', Rep B w' gd ga gh n bt' s' ∧ ArmInv R (k + 1) s' ∧ s'.btw.length ≤ k + 1 ∧ Below B w w' ∧ Fr w w' := by
  unfold ArmInv at hinv
  unfold armRes
  by_cases c : 0 < R ∧ R ≤ (k : Int)
  · rw [if_pos c] at hinv
    rw [if_pos (by omega)]
    refine (Flush.night w B gd ga gh n bt s r hinv.1).mono ?_
    rintro e' w' ⟨rfl, hb⟩
    refine ⟨rfl, bt, s, r.below hb, ?_, by omega, below_of_le r.size hb, Fr.below hb⟩
    unfold ArmInv
    rw [if_pos (by omega)]
    exact hinv
  · rw [if_neg c] at hinv
    obtain ⟨h1, h2, h3⟩ := hinv
    by_cases c2 : 0 < R ∧ R ≤ (k : Int) + 1
    · rw [if_pos c2]
      have ha : s.al = 1 := by rw [h3, if_neg (by omega)]; omega
      refine (Flush.ring w B gd ga gh n bt s r h1 ha).mono ?_
      rintro e' w' ⟨rfl, r2, hb, hf⟩
      refine ⟨rfl, bt, _, r2, ?_, (by show s.btw.length ≤ k + 1; omega), hb, hf⟩
      unfold ArmInv
      rw [if_pos (by omega)]
      exact ⟨rfl, by show s.st = R - 1; omega⟩
    · rw [if_neg c2]
      have ha : s.al ≠ 1 := by rw [h3]; split <;> omega
      refine (Flush.ok w B gd ga gh n bt s r h1 ha (by omega) (by omega)).mono ?_
      rintro e' w' ⟨rfl, r2, hb, hf⟩
      refine ⟨rfl, _, _, r2, ?_, (by show 0 ≤ k + 1; omega), hb, hf⟩
      unfold ArmInv
      rw [if_neg (by omega)]
      refine ⟨rfl, by show s.st + 1 = ((k + 1 : Nat) : Int); omega, ?_⟩
      show nextAl s.al = _
      rw [h3]
      unfold nextAl
      by_cases c3 : R = 0
      · rw [if_pos c3, if_pos c3, if_pos (by decide)]
      · rw [if_neg c3, if_neg c3, if_neg (by omega)]
        omega


theorem Steps.is (w : World) (B gd ga gh n : Nat) (bt : Value) (s : DS) (r : Rep B w gd ga gh n bt s) (x : Int) (h : s.st = x) : Calls Try.prog 13 #[.pointer (some ⟨gd, 0, none⟩)] w fun e w' => e = .returned (.int .i64 x) ∧ w' = w := by
  subst h
  exact Steps.R w B gd ga gh n bt s r
theorem Dark.is (w : World) (B gd ga gh n : Nat) (bt : Value) (s : DS) (r : Rep B w gd ga gh n bt s) (x : Bool) (h : s.ni = x) : Calls Try.prog 12 #[.pointer (some ⟨gd, 0, none⟩)] w fun e w' => e = .returned (.bool x) ∧ w' = w := by
  subst h
  exact Dark.R w B gd ga gh n bt s r

set_option maxHeartbeats 16000000 in
set_option maxRecDepth 100000 in
theorem diskArm.calls0 (w : World) (a : Int) (ha0 : 0 ≤ a) (ha1 : a < 256) (A : Option Addr) (c : Nat) (l : List (Int × List Int)) (hr : kPut.C w A l.length l) (hwf : ∀ x ∈ l, 0 ≤ x.1 ∧ x.1 < 256) (hM : l.length ≤ 60) :
    Calls Try.prog 3 #[.int .u8 a, .slice A l.length c] w fun e' w' => e' = .returned (.bool true) ∧ Below w.heap.size w w' := by
  have HP := Aside0.mk hr
  have HWF := Aside0.mk hwf
  obtain ⟨R, hR⟩ : ∃ R, R = a % 64 := ⟨_, rfl⟩
  have HR0 := Aside0.mk (show 0 ≤ R by omega)
  have HR1 := Aside0.mk (show R < 64 by omega)
  have eW : IntKind.i64.wrap a = a := wrap_u8 ha0 ha1
  have eR : Int.tmod a 64 = R := by rw [Int.tmod_eq_emod_of_nonneg ha0]; exact hR.symm
  have eR1 : wrap64 (R - 1) = R - 1 := by unfold wrap64; omega
  have HM := Aside0.mk hM
  have hMi : (l.length : Int) ≤ 60 := by omega
  clear hr hwf ha0 ha1 hR hM
  go_enter Try.func3, Try.ntmps3
  go_wp2_with (first
    | (go_at_call 8; with_reducible refine (New.ok64 _).mono ?_; rintro e' w1 ⟨gd, rfl, ⟨ga, gh, r⟩, hb⟩; have RA := Aside0.mk r; have HB := Aside0.mk hb; clear r hb)
    | (go_at_call 9; with_reducible refine (Arm.ok _ _ gd ga gh 64 _ _ RA.out rfl R HR0.out (by have := HR1.out; omega)).mono ?_; rintro e' w2 ⟨rfl, r, hb, hf⟩; have RB := Aside0.mk r; have n0 := Aside0.mk (HB.out.trans hb); clear HB RA r hb hf; have HB := n0; clear n0))
  go_loopw [8] (fun v8 w' => ∃ (k : Nat) (bt : Value) (s : DS), k ≤ l.length ∧ v8 = .int .i64 ((k : Int) + 1) ∧ Aside0 (Rep w.heap.size w' gd ga gh 64 bt s) ∧ Aside0 (ArmInv R k s) ∧ Aside0 (s.btw.length ≤ k) ∧ Aside0 (Below w.heap.size w w')) (fun v8 _ => l.length - ((intOf v8).toNat - 1))
  case atStart => exact ⟨0, _, _, Nat.zero_le _, rfl, RB, ⟨by unfold ArmInv; rw [if_neg (by omega)]; refine ⟨rfl, rfl, ?_⟩; show R = _; split <;> omega⟩, ⟨Nat.le_refl 0⟩, HB⟩
  case round =>
    clear RB HB
    obtain ⟨k, bt, s, hk, rfl, RR, HI, HL, HX⟩ := hrel
    by_cases hlt : k < l.length
    · have HK := Aside0.mk (show k < 60 by have := HM.out; omega)
      have hkl : k < l.length := by have := HM.out; omega
      have k0 : (0 : Int) ≤ (k : Int) := Int.natCast_nonneg k
      have k1 : (k : Int) < (l.length : Int) := by omega
      have k2 : wrap64 ((k : Int) + 1 - 1) = (k : Int) := by unfold wrap64; have := HK.out; omega
      have k3 : wrap64 ((k : Int) + 1 + 1) = (k : Int) + 1 + 1 := by unfold wrap64; have := HK.out; omega
      have k4 : decide ((k : Int) + 1 ≤ (l.length : Int)) = true := decide_eq_true (by omega)
      obtain ⟨x, hx⟩ : ∃ x, l[k]? = some x := ⟨_, List.getElem?_eq_getElem hkl⟩
      obtain ⟨al, ea, hb64, hcell⟩ := put_at (Kd.C_below HP.out HX.out) k x hx
      cases ea
      have hx0 := HWF.out x (List.mem_of_getElem? hx)
      obtain ⟨xn, xb⟩ := x
      obtain ⟨j, hj⟩ : ∃ j : Nat, (j : Int) = xn % 8 := ⟨(xn % 8).toNat, by have := hx0.1; simp only at this; omega⟩
      have HJ := Aside0.mk (show j < 64 by omega)
      have LB := Aside0.mk (show xb.length = 64 from hb64)
      have RG := Aside0.mk (show ∀ j v, (.int .u8 xn :: encs (Value.int .u8) xb : List Value)[j]? = some v → wr.cell? ((al.add (k * 65)).add j) = some v from hcell)
      have n1 : IntKind.i64.wrap xn = xn := wrap_u8 hx0.1 hx0.2
      have n2 : Int.tmod xn 8 = (j : Int) := by rw [Int.tmod_eq_emod_of_nonneg hx0.1]; exact hj.symm
      have HB := Aside0.mk (Below.refl wr.heap.size wr)
      clear hx hb64 hcell hx0 hj hkl
      by_cases hN : 0 < R ∧ R ≤ (k : Int) + 1
      · have HC := Aside0.mk hN
        clear hN
        by_cases hw : 0 < Int.tmod xn 5
        · have w0 : decide (0 < Int.tmod xn 5) = true := decide_eq_true hw
          clear hw
          have er : armRes R k = 9 := by unfold armRes; rw [if_pos (by have := HC.out; omega)]
          have AW := Aside0.mk (show ∀ W : World, Rep w.heap.size W gd ga gh 64 bt s → Calls Try.prog 10 #[.pointer (some ⟨gd, 0, none⟩), .int .i64 (j : Int), .agg (bcells xb)] W fun e' w' => e' = .returned (.int .i64 9) ∧ ∃ bt' s', Rep w.heap.size w' gd ga gh 64 bt' s' ∧ ArmInv R (k + 1) s' ∧ s'.btw.length ≤ k + 1 ∧ Below w.heap.size W w' ∧ Fr W w' from fun W r => by
            have h := arm.write W w.heap.size gd ga gh 64 bt s r R HR0.out HR1.out k HK.out HI.out HL.out j HJ.out xb LB.out
            rw [er] at h
            exact h)
          clear er
          have q1 : decide (0 < R) = true := decide_eq_true (by have := HC.out; omega)
          have q2 : decide (R ≤ (k : Int) + 1) = true := decide_eq_true (by have := HC.out; omega)
          have q3 : (R - 1 != R - 1) = false := by simp
          go_wp2_with (first
            | ((with_reducible refine gate_dst (N := 38) rfl ?_); refine wpList_load_put rfl (.tmp 37) rfl (al.add (k * 65)) rfl xn xb LB.out RG.out ?_)
            | ((with_reducible refine gate_dst (N := 9) rfl ?_); refine box_event ?hg (N := 9) ?hd (cs := putC 0 zero64) (t := 31) ?hr ?_; (case hd => rfl); (case hg => rfl); (case hr => exact alloc31_run rfl _); intro gz hg w1z hbox hb; have Gz := Aside0.mk (show wr.heap.size ≤ gz from by rw [hg]; exact below_size (by repeat (first | (with_reducible first | exact HB.out | apply below_alloc | apply pw_below_drewN | apply below_drew1) | exact HB.out))); have BKz := Aside0.mk hbox; clear hbox hg; have n0_ := Aside0.mk (below_step (by repeat (first | (with_reducible first | exact HB.out | apply below_alloc | apply pw_below_drewN | apply below_drew1) | exact HB.out)) hb); clear HB; have HB := n0_; clear n0_ hb)
            | (refine wpList_store_row rfl 31 (.tmp 9) (.tmp 38) rfl gz (putC xn xb) rfl (by rfl) 31 (putC 0 zero64) (by (with_reducible repeat (first | refine blk_drewN ?_ _ | refine blk_drew ?_ | refine blk_alloc ?_ _)); exact BKz.out) (put_size' xn xb LB.out) (by rw [putC_size _ _ LB.out]; rfl) (putC_all _ _) ?_; have n0 := Aside0.mk (below_setRow (show Below wr.heap.size wr _ from by repeat (first | (with_reducible first | exact HB.out | apply below_alloc | apply pw_below_drewN | apply below_drew1) | exact HB.out)) (show wr.heap.size ≤ gz from Gz.out) (putC xn xb)); have n1 := Aside0.mk (setRow_heap _ _ _ (putC xn xb) _ _ (by (with_reducible repeat (first | refine blk_drewN ?_ _ | refine blk_drew ?_ | refine blk_alloc ?_ _)); exact BKz.out)); generalize World.setRow _ _ _ = w3 at n0 n1; clear HB BKz; have HB := n0; have BKz := n1; clear n0 n1; have zc : w3.cell? ⟨gz, 0, none⟩ = some (.int .u8 xn) := (blk_cell BKz.out 0).trans rfl)
            | ((with_reducible refine gate_dst (N := 49) rfl ?_); refine wpList_load_blk rfl (.tmp 48) rfl gz (1) rfl xb LB.out (putC_range (by (with_reducible repeat (first | refine blk_drewN ?_ _ | refine blk_drew ?_ | refine blk_alloc ?_ _)); exact BKz.out)) ?_)
            | (go_at_call 10; with_reducible refine (AW.out _ (RR.out.below (by repeat (first | (with_reducible first | exact HB.out | apply below_alloc | apply pw_below_drewN | apply below_drew1) | exact HB.out)))).mono ?_; rintro e' w5 ⟨rfl, bt5, s5, r5, inv5, len5, hb5, hf5⟩; have R5 := Aside0.mk r5; have I5 := Aside0.mk inv5; have L5 := Aside0.mk len5; have X5 := Aside0.mk ((HX.out.trans (below_of_le RR.out.size HB.out)).trans hb5); have NI := Aside0.mk (show s5.ni = true from by have h := inv5; unfold ArmInv at h; rw [if_pos (by have := HC.out; omega)] at h; exact h.1); have SI := Aside0.mk (show s5.st = R - 1 from by have h := inv5; unfold ArmInv at h; rw [if_pos (by have := HC.out; omega)] at h; exact h.2); clear r5 inv5 len5 hb5 hf5 RR HX HB BKz)
            | (go_at_call 12; with_reducible refine (Dark.is _ _ gd ga gh 64 _ s5 R5.out true NI.out).mono ?_; rintro e' w' ⟨rfl, hw⟩; subst w')
            | (go_at_call 13; with_reducible refine (Steps.is _ _ gd ga gh 64 _ s5 R5.out (R - 1) SI.out).mono ?_; rintro e' w' ⟨rfl, hw⟩; subst w'))
          exact ⟨⟨k + 1, bt5, s5, hlt, by first | rfl | (rw [Int.natCast_add]; rfl) | (rw [k3, Int.natCast_add]; rfl), R5, I5, L5, X5⟩, by (try rw [k3]); show l.length - (((k : Int) + 1 + 1).toNat - 1) < l.length - (((k : Int) + 1).toNat - 1); omega⟩
        · have w0 : decide (0 < Int.tmod xn 5) = false := decide_eq_false hw
          clear hw
          have er : armRes R k = 9 := by unfold armRes; rw [if_pos (by have := HC.out; omega)]
          have AF := Aside0.mk (show ∀ W : World, Rep w.heap.size W gd ga gh 64 bt s → Calls Try.prog 11 #[.pointer (some ⟨gd, 0, none⟩)] W fun e' w' => e' = .returned (.int .i64 9) ∧ ∃ bt' s', Rep w.heap.size w' gd ga gh 64 bt' s' ∧ ArmInv R (k + 1) s' ∧ s'.btw.length ≤ k + 1 ∧ Below w.heap.size W w' ∧ Fr W w' from fun W r => by
            have h := arm.flush W w.heap.size gd ga gh 64 bt s r R HR0.out HR1.out k HK.out HI.out HL.out
            rw [er] at h
            exact h)
          clear er
          have q1 : decide (0 < R) = true := decide_eq_true (by have := HC.out; omega)
          have q2 : decide (R ≤ (k : Int) + 1) = true := decide_eq_true (by have := HC.out; omega)
          have q3 : (R - 1 != R - 1) = false := by simp
          go_wp2_with (first
            | ((with_reducible refine gate_dst (N := 38) rfl ?_); refine wpList_load_put rfl (.tmp 37) rfl (al.add (k * 65)) rfl xn xb LB.out RG.out ?_)
            | ((with_reducible refine gate_dst (N := 9) rfl ?_); refine box_event ?hg (N := 9) ?hd (cs := putC 0 zero64) (t := 31) ?hr ?_; (case hd => rfl); (case hg => rfl); (case hr => exact alloc31_run rfl _); intro gz hg w1z hbox hb; have Gz := Aside0.mk (show wr.heap.size ≤ gz from by rw [hg]; exact below_size (by repeat (first | (with_reducible first | exact HB.out | apply below_alloc | apply pw_below_drewN | apply below_drew1) | exact HB.out))); have BKz := Aside0.mk hbox; clear hbox hg; have n0_ := Aside0.mk (below_step (by repeat (first | (with_reducible first | exact HB.out | apply below_alloc | apply pw_below_drewN | apply below_drew1) | exact HB.out)) hb); clear HB; have HB := n0_; clear n0_ hb)
            | (refine wpList_store_row rfl 31 (.tmp 9) (.tmp 38) rfl gz (putC xn xb) rfl (by rfl) 31 (putC 0 zero64) (by (with_reducible repeat (first | refine blk_drewN ?_ _ | refine blk_drew ?_ | refine blk_alloc ?_ _)); exact BKz.out) (put_size' xn xb LB.out) (by rw [putC_size _ _ LB.out]; rfl) (putC_all _ _) ?_; have n0 := Aside0.mk (below_setRow (show Below wr.heap.size wr _ from by repeat (first | (with_reducible first | exact HB.out | apply below_alloc | apply pw_below_drewN | apply below_drew1) | exact HB.out)) (show wr.heap.size ≤ gz from Gz.out) (putC xn xb)); have n1 := Aside0.mk (setRow_heap _ _ _ (putC xn xb) _ _ (by (with_reducible repeat (first | refine blk_drewN ?_ _ | refine blk_drew ?_ | refine blk_alloc ?_ _)); exact BKz.out)); generalize World.setRow _ _ _ = w3 at n0 n1; clear HB BKz; have HB := n0; have BKz := n1; clear n0 n1; have zc : w3.cell? ⟨gz, 0, none⟩ = some (.int .u8 xn) := (blk_cell BKz.out 0).trans rfl)
            | (go_at_call 11; with_reducible refine (AF.out _ (RR.out.below (by repeat (first | (with_reducible first | exact HB.out | apply below_alloc | apply pw_below_drewN | apply below_drew1) | exact HB.out)))).mono ?_; rintro e' w5 ⟨rfl, bt5, s5, r5, inv5, len5, hb5, hf5⟩; have R5 := Aside0.mk r5; have I5 := Aside0.mk inv5; have L5 := Aside0.mk len5; have X5 := Aside0.mk ((HX.out.trans (below_of_le RR.out.size HB.out)).trans hb5); have NI := Aside0.mk (show s5.ni = true from by have h := inv5; unfold ArmInv at h; rw [if_pos (by have := HC.out; omega)] at h; exact h.1); have SI := Aside0.mk (show s5.st = R - 1 from by have h := inv5; unfold ArmInv at h; rw [if_pos (by have := HC.out; omega)] at h; exact h.2); clear r5 inv5 len5 hb5 hf5 RR HX HB BKz)
            | (go_at_call 12; with_reducible refine (Dark.is _ _ gd ga gh 64 _ s5 R5.out true NI.out).mono ?_; rintro e' w' ⟨rfl, hw⟩; subst w')
            | (go_at_call 13; with_reducible refine (Steps.is _ _ gd ga gh 64 _ s5 R5.out (R - 1) SI.out).mono ?_; rintro e' w' ⟨rfl, hw⟩; subst w'))
          exact ⟨⟨k + 1, bt5, s5, hlt, by first | rfl | (rw [Int.natCast_add]; rfl) | (rw [k3, Int.natCast_add]; rfl), R5, I5, L5, X5⟩, by (try rw [k3]); show l.length - (((k : Int) + 1 + 1).toNat - 1) < l.length - (((k : Int) + 1).toNat - 1); omega⟩
      · have HC := Aside0.mk hN
        clear hN
        by_cases hz : R = 0
        · have HZ := Aside0.mk hz
          clear hz
          by_cases hw : 0 < Int.tmod xn 5
          · have w0 : decide (0 < Int.tmod xn 5) = true := decide_eq_true hw
            clear hw
            have er : armRes R k = 0 := by unfold armRes; rw [if_neg (by have := HC.out; omega)]
            have AW := Aside0.mk (show ∀ W : World, Rep w.heap.size W gd ga gh 64 bt s → Calls Try.prog 10 #[.pointer (some ⟨gd, 0, none⟩), .int .i64 (j : Int), .agg (bcells xb)] W fun e' w' => e' = .returned (.int .i64 0) ∧ ∃ bt' s', Rep w.heap.size w' gd ga gh 64 bt' s' ∧ ArmInv R (k + 1) s' ∧ s'.btw.length ≤ k + 1 ∧ Below w.heap.size W w' ∧ Fr W w' from fun W r => by
              have h := arm.write W w.heap.size gd ga gh 64 bt s r R HR0.out HR1.out k HK.out HI.out HL.out j HJ.out xb LB.out
              rw [er] at h
              exact h)
            clear er
            have q1 : decide (0 < R) = false := decide_eq_false (by have := HZ.out; omega)
            have q3 : ((k : Int) + 1 != (k : Int) + 1) = false := by simp
            go_wp2_with (first
              | ((with_reducible refine gate_dst (N := 38) rfl ?_); refine wpList_load_put rfl (.tmp 37) rfl (al.add (k * 65)) rfl xn xb LB.out RG.out ?_)
              | ((with_reducible refine gate_dst (N := 9) rfl ?_); refine box_event ?hg (N := 9) ?hd (cs := putC 0 zero64) (t := 31) ?hr ?_; (case hd => rfl); (case hg => rfl); (case hr => exact alloc31_run rfl _); intro gz hg w1z hbox hb; have Gz := Aside0.mk (show wr.heap.size ≤ gz from by rw [hg]; exact below_size (by repeat (first | (with_reducible first | exact HB.out | apply below_alloc | apply pw_below_drewN | apply below_drew1) | exact HB.out))); have BKz := Aside0.mk hbox; clear hbox hg; have n0_ := Aside0.mk (below_step (by repeat (first | (with_reducible first | exact HB.out | apply below_alloc | apply pw_below_drewN | apply below_drew1) | exact HB.out)) hb); clear HB; have HB := n0_; clear n0_ hb)
              | (refine wpList_store_row rfl 31 (.tmp 9) (.tmp 38) rfl gz (putC xn xb) rfl (by rfl) 31 (putC 0 zero64) (by (with_reducible repeat (first | refine blk_drewN ?_ _ | refine blk_drew ?_ | refine blk_alloc ?_ _)); exact BKz.out) (put_size' xn xb LB.out) (by rw [putC_size _ _ LB.out]; rfl) (putC_all _ _) ?_; have n0 := Aside0.mk (below_setRow (show Below wr.heap.size wr _ from by repeat (first | (with_reducible first | exact HB.out | apply below_alloc | apply pw_below_drewN | apply below_drew1) | exact HB.out)) (show wr.heap.size ≤ gz from Gz.out) (putC xn xb)); have n1 := Aside0.mk (setRow_heap _ _ _ (putC xn xb) _ _ (by (with_reducible repeat (first | refine blk_drewN ?_ _ | refine blk_drew ?_ | refine blk_alloc ?_ _)); exact BKz.out)); generalize World.setRow _ _ _ = w3 at n0 n1; clear HB BKz; have HB := n0; have BKz := n1; clear n0 n1; have zc : w3.cell? ⟨gz, 0, none⟩ = some (.int .u8 xn) := (blk_cell BKz.out 0).trans rfl)
              | ((with_reducible refine gate_dst (N := 49) rfl ?_); refine wpList_load_blk rfl (.tmp 48) rfl gz (1) rfl xb LB.out (putC_range (by (with_reducible repeat (first | refine blk_drewN ?_ _ | refine blk_drew ?_ | refine blk_alloc ?_ _)); exact BKz.out)) ?_)
              | (go_at_call 10; with_reducible refine (AW.out _ (RR.out.below (by repeat (first | (with_reducible first | exact HB.out | apply below_alloc | apply pw_below_drewN | apply below_drew1) | exact HB.out)))).mono ?_; rintro e' w5 ⟨rfl, bt5, s5, r5, inv5, len5, hb5, hf5⟩; have R5 := Aside0.mk r5; have I5 := Aside0.mk inv5; have L5 := Aside0.mk len5; have X5 := Aside0.mk ((HX.out.trans (below_of_le RR.out.size HB.out)).trans hb5); have NI := Aside0.mk (show s5.ni = false from by have h := inv5; unfold ArmInv at h; rw [if_neg (by have := HC.out; omega)] at h; exact h.1); have SI := Aside0.mk (show s5.st = (k : Int) + 1 from by have h := inv5; unfold ArmInv at h; rw [if_neg (by have := HC.out; omega)] at h; have h2 := h.2.1; omega); clear r5 inv5 len5 hb5 hf5 RR HX HB BKz)
              | (go_at_call 12; with_reducible refine (Dark.is _ _ gd ga gh 64 _ s5 R5.out false NI.out).mono ?_; rintro e' w' ⟨rfl, hw⟩; subst w')
              | (go_at_call 13; with_reducible refine (Steps.is _ _ gd ga gh 64 _ s5 R5.out ((k : Int) + 1) SI.out).mono ?_; rintro e' w' ⟨rfl, hw⟩; subst w'))
            exact ⟨⟨k + 1, bt5, s5, hlt, by first | rfl | (rw [Int.natCast_add]; rfl) | (rw [k3, Int.natCast_add]; rfl), R5, I5, L5, X5⟩, by (try rw [k3]); show l.length - (((k : Int) + 1 + 1).toNat - 1) < l.length - (((k : Int) + 1).toNat - 1); omega⟩
          · have w0 : decide (0 < Int.tmod xn 5) = false := decide_eq_false hw
            clear hw
            have er : armRes R k = 0 := by unfold armRes; rw [if_neg (by have := HC.out; omega)]
            have AF := Aside0.mk (show ∀ W : World, Rep w.heap.size W gd ga gh 64 bt s → Calls Try.prog 11 #[.pointer (some ⟨gd, 0, none⟩)] W fun e' w' => e' = .returned (.int .i64 0) ∧ ∃ bt' s', Rep w.heap.size w' gd ga gh 64 bt' s' ∧ ArmInv R (k + 1) s' ∧ s'.btw.length ≤ k + 1 ∧ Below w.heap.size W w' ∧ Fr W w' from fun W r => by
              have h := arm.flush W w.heap.size gd ga gh 64 bt s r R HR0.out HR1.out k HK.out HI.out HL.out
              rw [er] at h
              exact h)
            clear er
            have q1 : decide (0 < R) = false := decide_eq_false (by have := HZ.out; omega)
            have q3 : ((k : Int) + 1 != (k : Int) + 1) = false := by simp
            go_wp2_with (first
              | ((with_reducible refine gate_dst (N := 38) rfl ?_); refine wpList_load_put rfl (.tmp 37) rfl (al.add (k * 65)) rfl xn xb LB.out RG.out ?_)
              | ((with_reducible refine gate_dst (N := 9) rfl ?_); refine box_event ?hg (N := 9) ?hd (cs := putC 0 zero64) (t := 31) ?hr ?_; (case hd => rfl); (case hg => rfl); (case hr => exact alloc31_run rfl _); intro gz hg w1z hbox hb; have Gz := Aside0.mk (show wr.heap.size ≤ gz from by rw [hg]; exact below_size (by repeat (first | (with_reducible first | exact HB.out | apply below_alloc | apply pw_below_drewN | apply below_drew1) | exact HB.out))); have BKz := Aside0.mk hbox; clear hbox hg; have n0_ := Aside0.mk (below_step (by repeat (first | (with_reducible first | exact HB.out | apply below_alloc | apply pw_below_drewN | apply below_drew1) | exact HB.out)) hb); clear HB; have HB := n0_; clear n0_ hb)
              | (refine wpList_store_row rfl 31 (.tmp 9) (.tmp 38) rfl gz (putC xn xb) rfl (by rfl) 31 (putC 0 zero64) (by (with_reducible repeat (first | refine blk_drewN ?_ _ | refine blk_drew ?_ | refine blk_alloc ?_ _)); exact BKz.out) (put_size' xn xb LB.out) (by rw [putC_size _ _ LB.out]; rfl) (putC_all _ _) ?_; have n0 := Aside0.mk (below_setRow (show Below wr.heap.size wr _ from by repeat (first | (with_reducible first | exact HB.out | apply below_alloc | apply pw_below_drewN | apply below_drew1) | exact HB.out)) (show wr.heap.size ≤ gz from Gz.out) (putC xn xb)); have n1 := Aside0.mk (setRow_heap _ _ _ (putC xn xb) _ _ (by (with_reducible repeat (first | refine blk_drewN ?_ _ | refine blk_drew ?_ | refine blk_alloc ?_ _)); exact BKz.out)); generalize World.setRow _ _ _ = w3 at n0 n1; clear HB BKz; have HB := n0; have BKz := n1; clear n0 n1; have zc : w3.cell? ⟨gz, 0, none⟩ = some (.int .u8 xn) := (blk_cell BKz.out 0).trans rfl)
              | (go_at_call 11; with_reducible refine (AF.out _ (RR.out.below (by repeat (first | (with_reducible first | exact HB.out | apply below_alloc | apply pw_below_drewN | apply below_drew1) | exact HB.out)))).mono ?_; rintro e' w5 ⟨rfl, bt5, s5, r5, inv5, len5, hb5, hf5⟩; have R5 := Aside0.mk r5; have I5 := Aside0.mk inv5; have L5 := Aside0.mk len5; have X5 := Aside0.mk ((HX.out.trans (below_of_le RR.out.size HB.out)).trans hb5); have NI := Aside0.mk (show s5.ni = false from by have h := inv5; unfold ArmInv at h; rw [if_neg (by have := HC.out; omega)] at h; exact h.1); have SI := Aside0.mk (show s5.st = (k : Int) + 1 from by have h := inv5; unfold ArmInv at h; rw [if_neg (by have := HC.out; omega)] at h; have h2 := h.2.1; omega); clear r5 inv5 len5 hb5 hf5 RR HX HB BKz)
              | (go_at_call 12; with_reducible refine (Dark.is _ _ gd ga gh 64 _ s5 R5.out false NI.out).mono ?_; rintro e' w' ⟨rfl, hw⟩; subst w')
              | (go_at_call 13; with_reducible refine (Steps.is _ _ gd ga gh 64 _ s5 R5.out ((k : Int) + 1) SI.out).mono ?_; rintro e' w' ⟨rfl, hw⟩; subst w'))
            exact ⟨⟨k + 1, bt5, s5, hlt, by first | rfl | (rw [Int.natCast_add]; rfl) | (rw [k3, Int.natCast_add]; rfl), R5, I5, L5, X5⟩, by (try rw [k3]); show l.length - (((k : Int) + 1 + 1).toNat - 1) < l.length - (((k : Int) + 1).toNat - 1); omega⟩
        · have HZ := Aside0.mk (show 0 < R ∧ (k : Int) + 1 < R from by have := HC.out; have := HR0.out; omega)
          clear hz
          by_cases hw : 0 < Int.tmod xn 5
          · have w0 : decide (0 < Int.tmod xn 5) = true := decide_eq_true hw
            clear hw
            have er : armRes R k = 0 := by unfold armRes; rw [if_neg (by have := HC.out; omega)]
            have AW := Aside0.mk (show ∀ W : World, Rep w.heap.size W gd ga gh 64 bt s → Calls Try.prog 10 #[.pointer (some ⟨gd, 0, none⟩), .int .i64 (j : Int), .agg (bcells xb)] W fun e' w' => e' = .returned (.int .i64 0) ∧ ∃ bt' s', Rep w.heap.size w' gd ga gh 64 bt' s' ∧ ArmInv R (k + 1) s' ∧ s'.btw.length ≤ k + 1 ∧ Below w.heap.size W w' ∧ Fr W w' from fun W r => by
              have h := arm.write W w.heap.size gd ga gh 64 bt s r R HR0.out HR1.out k HK.out HI.out HL.out j HJ.out xb LB.out
              rw [er] at h
              exact h)
            clear er
            have q1 : decide (0 < R) = true := decide_eq_true (by have := HZ.out; omega)
            have q2 : decide (R ≤ (k : Int) + 1) = false := decide_eq_false (by have := HZ.out; omega)
            have q3 : ((k : Int) + 1 != (k : Int) + 1) = false := by simp
            go_wp2_with (first
              | ((with_reducible refine gate_dst (N := 38) rfl ?_); refine wpList_load_put rfl (.tmp 37) rfl (al.add (k * 65)) rfl xn xb LB.out RG.out ?_)
              | ((with_reducible refine gate_dst (N := 9) rfl ?_); refine box_event ?hg (N := 9) ?hd (cs := putC 0 zero64) (t := 31) ?hr ?_; (case hd => rfl); (case hg => rfl); (case hr => exact alloc31_run rfl _); intro gz hg w1z hbox hb; have Gz := Aside0.mk (show wr.heap.size ≤ gz from by rw [hg]; exact below_size (by repeat (first | (with_reducible first | exact HB.out | apply below_alloc | apply pw_below_drewN | apply below_drew1) | exact HB.out))); have BKz := Aside0.mk hbox; clear hbox hg; have n0_ := Aside0.mk (below_step (by repeat (first | (with_reducible first | exact HB.out | apply below_alloc | apply pw_below_drewN | apply below_drew1) | exact HB.out)) hb); clear HB; have HB := n0_; clear n0_ hb)
              | (refine wpList_store_row rfl 31 (.tmp 9) (.tmp 38) rfl gz (putC xn xb) rfl (by rfl) 31 (putC 0 zero64) (by (with_reducible repeat (first | refine blk_drewN ?_ _ | refine blk_drew ?_ | refine blk_alloc ?_ _)); exact BKz.out) (put_size' xn xb LB.out) (by rw [putC_size _ _ LB.out]; rfl) (putC_all _ _) ?_; have n0 := Aside0.mk (below_setRow (show Below wr.heap.size wr _ from by repeat (first | (with_reducible first | exact HB.out | apply below_alloc | apply pw_below_drewN | apply below_drew1) | exact HB.out)) (show wr.heap.size ≤ gz from Gz.out) (putC xn xb)); have n1 := Aside0.mk (setRow_heap _ _ _ (putC xn xb) _ _ (by (with_reducible repeat (first | refine blk_drewN ?_ _ | refine blk_drew ?_ | refine blk_alloc ?_ _)); exact BKz.out)); generalize World.setRow _ _ _ = w3 at n0 n1; clear HB BKz; have HB := n0; have BKz := n1; clear n0 n1; have zc : w3.cell? ⟨gz, 0, none⟩ = some (.int .u8 xn) := (blk_cell BKz.out 0).trans rfl)
              | ((with_reducible refine gate_dst (N := 49) rfl ?_); refine wpList_load_blk rfl (.tmp 48) rfl gz (1) rfl xb LB.out (putC_range (by (with_reducible repeat (first | refine blk_drewN ?_ _ | refine blk_drew ?_ | refine blk_alloc ?_ _)); exact BKz.out)) ?_)
              | (go_at_call 10; with_reducible refine (AW.out _ (RR.out.below (by repeat (first | (with_reducible first | exact HB.out | apply below_alloc | apply pw_below_drewN | apply below_drew1) | exact HB.out)))).mono ?_; rintro e' w5 ⟨rfl, bt5, s5, r5, inv5, len5, hb5, hf5⟩; have R5 := Aside0.mk r5; have I5 := Aside0.mk inv5; have L5 := Aside0.mk len5; have X5 := Aside0.mk ((HX.out.trans (below_of_le RR.out.size HB.out)).trans hb5); have NI := Aside0.mk (show s5.ni = false from by have h := inv5; unfold ArmInv at h; rw [if_neg (by have := HC.out; omega)] at h; exact h.1); have SI := Aside0.mk (show s5.st = (k : Int) + 1 from by have h := inv5; unfold ArmInv at h; rw [if_neg (by have := HC.out; omega)] at h; have h2 := h.2.1; omega); clear r5 inv5 len5 hb5 hf5 RR HX HB BKz)
              | (go_at_call 12; with_reducible refine (Dark.is _ _ gd ga gh 64 _ s5 R5.out false NI.out).mono ?_; rintro e' w' ⟨rfl, hw⟩; subst w')
              | (go_at_call 13; with_reducible refine (Steps.is _ _ gd ga gh 64 _ s5 R5.out ((k : Int) + 1) SI.out).mono ?_; rintro e' w' ⟨rfl, hw⟩; subst w'))
            exact ⟨⟨k + 1, bt5, s5, hlt, by first | rfl | (rw [Int.natCast_add]; rfl) | (rw [k3, Int.natCast_add]; rfl), R5, I5, L5, X5⟩, by (try rw [k3]); show l.length - (((k : Int) + 1 + 1).toNat - 1) < l.length - (((k : Int) + 1).toNat - 1); omega⟩
          · have w0 : decide (0 < Int.tmod xn 5) = false := decide_eq_false hw
            clear hw
            have er : armRes R k = 0 := by unfold armRes; rw [if_neg (by have := HC.out; omega)]
            have AF := Aside0.mk (show ∀ W : World, Rep w.heap.size W gd ga gh 64 bt s → Calls Try.prog 11 #[.pointer (some ⟨gd, 0, none⟩)] W fun e' w' => e' = .returned (.int .i64 0) ∧ ∃ bt' s', Rep w.heap.size w' gd ga gh 64 bt' s' ∧ ArmInv R (k + 1) s' ∧ s'.btw.length ≤ k + 1 ∧ Below w.heap.size W w' ∧ Fr W w' from fun W r => by
              have h := arm.flush W w.heap.size gd ga gh 64 bt s r R HR0.out HR1.out k HK.out HI.out HL.out
              rw [er] at h
              exact h)
            clear er
            have q1 : decide (0 < R) = true := decide_eq_true (by have := HZ.out; omega)
            have q2 : decide (R ≤ (k : Int) + 1) = false := decide_eq_false (by have := HZ.out; omega)
            have q3 : ((k : Int) + 1 != (k : Int) + 1) = false := by simp
            go_wp2_with (first
              | ((with_reducible refine gate_dst (N := 38) rfl ?_); refine wpList_load_put rfl (.tmp 37) rfl (al.add (k * 65)) rfl xn xb LB.out RG.out ?_)
              | ((with_reducible refine gate_dst (N := 9) rfl ?_); refine box_event ?hg (N := 9) ?hd (cs := putC 0 zero64) (t := 31) ?hr ?_; (case hd => rfl); (case hg => rfl); (case hr => exact alloc31_run rfl _); intro gz hg w1z hbox hb; have Gz := Aside0.mk (show wr.heap.size ≤ gz from by rw [hg]; exact below_size (by repeat (first | (with_reducible first | exact HB.out | apply below_alloc | apply pw_below_drewN | apply below_drew1) | exact HB.out))); have BKz := Aside0.mk hbox; clear hbox hg; have n0_ := Aside0.mk (below_step (by repeat (first | (with_reducible first | exact HB.out | apply below_alloc | apply pw_below_drewN | apply below_drew1) | exact HB.out)) hb); clear HB; have HB := n0_; clear n0_ hb)
              | (refine wpList_store_row rfl 31 (.tmp 9) (.tmp 38) rfl gz (putC xn xb) rfl (by rfl) 31 (putC 0 zero64) (by (with_reducible repeat (first | refine blk_drewN ?_ _ | refine blk_drew ?_ | refine blk_alloc ?_ _)); exact BKz.out) (put_size' xn xb LB.out) (by rw [putC_size _ _ LB.out]; rfl) (putC_all _ _) ?_; have n0 := Aside0.mk (below_setRow (show Below wr.heap.size wr _ from by repeat (first | (with_reducible first | exact HB.out | apply below_alloc | apply pw_below_drewN | apply below_drew1) | exact HB.out)) (show wr.heap.size ≤ gz from Gz.out) (putC xn xb)); have n1 := Aside0.mk (setRow_heap _ _ _ (putC xn xb) _ _ (by (with_reducible repeat (first | refine blk_drewN ?_ _ | refine blk_drew ?_ | refine blk_alloc ?_ _)); exact BKz.out)); generalize World.setRow _ _ _ = w3 at n0 n1; clear HB BKz; have HB := n0; have BKz := n1; clear n0 n1; have zc : w3.cell? ⟨gz, 0, none⟩ = some (.int .u8 xn) := (blk_cell BKz.out 0).trans rfl)
              | (go_at_call 11; with_reducible refine (AF.out _ (RR.out.below (by repeat (first | (with_reducible first | exact HB.out | apply below_alloc | apply pw_below_drewN | apply below_drew1) | exact HB.out)))).mono ?_; rintro e' w5 ⟨rfl, bt5, s5, r5, inv5, len5, hb5, hf5⟩; have R5 := Aside0.mk r5; have I5 := Aside0.mk inv5; have L5 := Aside0.mk len5; have X5 := Aside0.mk ((HX.out.trans (below_of_le RR.out.size HB.out)).trans hb5); have NI := Aside0.mk (show s5.ni = false from by have h := inv5; unfold ArmInv at h; rw [if_neg (by have := HC.out; omega)] at h; exact h.1); have SI := Aside0.mk (show s5.st = (k : Int) + 1 from by have h := inv5; unfold ArmInv at h; rw [if_neg (by have := HC.out; omega)] at h; have h2 := h.2.1; omega); clear r5 inv5 len5 hb5 hf5 RR HX HB BKz)
              | (go_at_call 12; with_reducible refine (Dark.is _ _ gd ga gh 64 _ s5 R5.out false NI.out).mono ?_; rintro e' w' ⟨rfl, hw⟩; subst w')
              | (go_at_call 13; with_reducible refine (Steps.is _ _ gd ga gh 64 _ s5 R5.out ((k : Int) + 1) SI.out).mono ?_; rintro e' w' ⟨rfl, hw⟩; subst w'))
            exact ⟨⟨k + 1, bt5, s5, hlt, by first | rfl | (rw [Int.natCast_add]; rfl) | (rw [k3, Int.natCast_add]; rfl), R5, I5, L5, X5⟩, by (try rw [k3]); show l.length - (((k : Int) + 1 + 1).toNat - 1) < l.length - (((k : Int) + 1).toNat - 1); omega⟩
    · have hin : k = l.length := by omega
      subst hin
      have k4 : decide (((l.length : Nat) : Int) + 1 ≤ (l.length : Int)) = false := decide_eq_false (by omega)
      have HB := HX
      go_wp2_with (go_at_call 14; with_reducible refine (law_lives.calls _).mono ?_; rintro e' w' ⟨rfl, hb⟩; have n0_ := Aside0.mk (below_step (by repeat (first | (with_reducible first | exact HB.out | apply below_alloc | apply pw_below_drewN | apply below_drew1) | exact HB.out)) hb); clear HB; have HB := n0_; clear n0_ hb)
      go_ret
      exact ⟨rfl, by repeat (first | (with_reducible first | exact HB.out | apply below_alloc | apply pw_below_drewN | apply below_drew1) | exact HB.out)⟩

set_option maxHeartbeats 16000000 in
set_option maxRecDepth 100000 in
theorem diskArm.calls1 (w : World) (a : Int) (ha0 : 0 ≤ a) (ha1 : a < 256) (A : Option Addr) (c : Nat) (l : List (Int × List Int)) (hr : kPut.C w A l.length l) (hwf : ∀ x ∈ l, 0 ≤ x.1 ∧ x.1 < 256) (hM : 60 < l.length) :
    Calls Try.prog 3 #[.int .u8 a, .slice A l.length c] w fun e' w' => e' = .returned (.bool true) ∧ Below w.heap.size w w' := by
  have HP := Aside0.mk hr
  have HWF := Aside0.mk hwf
  obtain ⟨R, hR⟩ : ∃ R, R = a % 64 := ⟨_, rfl⟩
  have HR0 := Aside0.mk (show 0 ≤ R by omega)
  have HR1 := Aside0.mk (show R < 64 by omega)
  have eW : IntKind.i64.wrap a = a := wrap_u8 ha0 ha1
  have eR : Int.tmod a 64 = R := by rw [Int.tmod_eq_emod_of_nonneg ha0]; exact hR.symm
  have eR1 : wrap64 (R - 1) = R - 1 := by unfold wrap64; omega
  have HM := Aside0.mk hM
  have hMi : (60 : Int) < (l.length : Int) := by omega
  clear hr hwf ha0 ha1 hR hM
  go_enter Try.func3, Try.ntmps3
  go_wp2_with (first
    | (go_at_call 8; with_reducible refine (New.ok64 _).mono ?_; rintro e' w1 ⟨gd, rfl, ⟨ga, gh, r⟩, hb⟩; have RA := Aside0.mk r; have HB := Aside0.mk hb; clear r hb)
    | (go_at_call 9; with_reducible refine (Arm.ok _ _ gd ga gh 64 _ _ RA.out rfl R HR0.out (by have := HR1.out; omega)).mono ?_; rintro e' w2 ⟨rfl, r, hb, hf⟩; have RB := Aside0.mk r; have n0 := Aside0.mk (HB.out.trans hb); clear HB RA r hb hf; have HB := n0; clear n0))
  go_loopw [8] (fun v8 w' => ∃ (k : Nat) (bt : Value) (s : DS), k ≤ 60 ∧ v8 = .int .i64 ((k : Int) + 1) ∧ Aside0 (Rep w.heap.size w' gd ga gh 64 bt s) ∧ Aside0 (ArmInv R k s) ∧ Aside0 (s.btw.length ≤ k) ∧ Aside0 (Below w.heap.size w w')) (fun v8 _ => 60 - ((intOf v8).toNat - 1))
  case atStart => exact ⟨0, _, _, Nat.zero_le _, rfl, RB, ⟨by unfold ArmInv; rw [if_neg (by omega)]; refine ⟨rfl, rfl, ?_⟩; show R = _; split <;> omega⟩, ⟨Nat.le_refl 0⟩, HB⟩
  case round =>
    clear RB HB
    obtain ⟨k, bt, s, hk, rfl, RR, HI, HL, HX⟩ := hrel
    by_cases hlt : k < 60
    · have HK := Aside0.mk (show k < 60 by have := HM.out; omega)
      have hkl : k < l.length := by have := HM.out; omega
      have k0 : (0 : Int) ≤ (k : Int) := Int.natCast_nonneg k
      have k1 : (k : Int) < (l.length : Int) := by omega
      have k2 : wrap64 ((k : Int) + 1 - 1) = (k : Int) := by unfold wrap64; have := HK.out; omega
      have k3 : wrap64 ((k : Int) + 1 + 1) = (k : Int) + 1 + 1 := by unfold wrap64; have := HK.out; omega
      have k4 : decide ((k : Int) + 1 ≤ 60) = true := decide_eq_true (by omega)
      obtain ⟨x, hx⟩ : ∃ x, l[k]? = some x := ⟨_, List.getElem?_eq_getElem hkl⟩
      obtain ⟨al, ea, hb64, hcell⟩ := put_at (Kd.C_below HP.out HX.out) k x hx
      cases ea
      have hx0 := HWF.out x (List.mem_of_getElem? hx)
      obtain ⟨xn, xb⟩ := x
      obtain ⟨j, hj⟩ : ∃ j : Nat, (j : Int) = xn % 8 := ⟨(xn % 8).toNat, by have := hx0.1; simp only at this; omega⟩
      have HJ := Aside0.mk (show j < 64 by omega)
      have LB := Aside0.mk (show xb.length = 64 from hb64)
      have RG := Aside0.mk (show ∀ j v, (.int .u8 xn :: encs (Value.int .u8) xb : List Value)[j]? = some v → wr.cell? ((al.add (k * 65)).add j) = some v from hcell)
      have n1 : IntKind.i64.wrap xn = xn := wrap_u8 hx0.1 hx0.2
      have n2 : Int.tmod xn 8 = (j : Int) := by rw [Int.tmod_eq_emod_of_nonneg hx0.1]; exact hj.symm
      have HB := Aside0.mk (Below.refl wr.heap.size wr)
      clear hx hb64 hcell hx0 hj hkl
      by_cases hN : 0 < R ∧ R ≤ (k : Int) + 1
      · have HC := Aside0.mk hN
        clear hN
        by_cases hw : 0 < Int.tmod xn 5
        · have w0 : decide (0 < Int.tmod xn 5) = true := decide_eq_true hw
          clear hw
          have er : armRes R k = 9 := by unfold armRes; rw [if_pos (by have := HC.out; omega)]
          have AW := Aside0.mk (show ∀ W : World, Rep w.heap.size W gd ga gh 64 bt s → Calls Try.prog 10 #[.pointer (some ⟨gd, 0, none⟩), .int .i64 (j : Int), .agg (bcells xb)] W fun e' w' => e' = .returned (.int .i64 9) ∧ ∃ bt' s', Rep w.heap.size w' gd ga gh 64 bt' s' ∧ ArmInv R (k + 1) s' ∧ s'.btw.length ≤ k + 1 ∧ Below w.heap.size W w' ∧ Fr W w' from fun W r => by
            have h := arm.write W w.heap.size gd ga gh 64 bt s r R HR0.out HR1.out k HK.out HI.out HL.out j HJ.out xb LB.out
            rw [er] at h
            exact h)
          clear er
          have q1 : decide (0 < R) = true := decide_eq_true (by have := HC.out; omega)
          have q2 : decide (R ≤ (k : Int) + 1) = true := decide_eq_true (by have := HC.out; omega)
          have q3 : (R - 1 != R - 1) = false := by simp
          go_wp2_with (first
            | ((with_reducible refine gate_dst (N := 38) rfl ?_); refine wpList_load_put rfl (.tmp 37) rfl (al.add (k * 65)) rfl xn xb LB.out RG.out ?_)
            | ((with_reducible refine gate_dst (N := 9) rfl ?_); refine box_event ?hg (N := 9) ?hd (cs := putC 0 zero64) (t := 31) ?hr ?_; (case hd => rfl); (case hg => rfl); (case hr => exact alloc31_run rfl _); intro gz hg w1z hbox hb; have Gz := Aside0.mk (show wr.heap.size ≤ gz from by rw [hg]; exact below_size (by repeat (first | (with_reducible first | exact HB.out | apply below_alloc | apply pw_below_drewN | apply below_drew1) | exact HB.out))); have BKz := Aside0.mk hbox; clear hbox hg; have n0_ := Aside0.mk (below_step (by repeat (first | (with_reducible first | exact HB.out | apply below_alloc | apply pw_below_drewN | apply below_drew1) | exact HB.out)) hb); clear HB; have HB := n0_; clear n0_ hb)
            | (refine wpList_store_row rfl 31 (.tmp 9) (.tmp 38) rfl gz (putC xn xb) rfl (by rfl) 31 (putC 0 zero64) (by (with_reducible repeat (first | refine blk_drewN ?_ _ | refine blk_drew ?_ | refine blk_alloc ?_ _)); exact BKz.out) (put_size' xn xb LB.out) (by rw [putC_size _ _ LB.out]; rfl) (putC_all _ _) ?_; have n0 := Aside0.mk (below_setRow (show Below wr.heap.size wr _ from by repeat (first | (with_reducible first | exact HB.out | apply below_alloc | apply pw_below_drewN | apply below_drew1) | exact HB.out)) (show wr.heap.size ≤ gz from Gz.out) (putC xn xb)); have n1 := Aside0.mk (setRow_heap _ _ _ (putC xn xb) _ _ (by (with_reducible repeat (first | refine blk_drewN ?_ _ | refine blk_drew ?_ | refine blk_alloc ?_ _)); exact BKz.out)); generalize World.setRow _ _ _ = w3 at n0 n1; clear HB BKz; have HB := n0; have BKz := n1; clear n0 n1; have zc : w3.cell? ⟨gz, 0, none⟩ = some (.int .u8 xn) := (blk_cell BKz.out 0).trans rfl)
            | ((with_reducible refine gate_dst (N := 49) rfl ?_); refine wpList_load_blk rfl (.tmp 48) rfl gz (1) rfl xb LB.out (putC_range (by (with_reducible repeat (first | refine blk_drewN ?_ _ | refine blk_drew ?_ | refine blk_alloc ?_ _)); exact BKz.out)) ?_)
            | (go_at_call 10; with_reducible refine (AW.out _ (RR.out.below (by repeat (first | (with_reducible first | exact HB.out | apply below_alloc | apply pw_below_drewN | apply below_drew1) | exact HB.out)))).mono ?_; rintro e' w5 ⟨rfl, bt5, s5, r5, inv5, len5, hb5, hf5⟩; have R5 := Aside0.mk r5; have I5 := Aside0.mk inv5; have L5 := Aside0.mk len5; have X5 := Aside0.mk ((HX.out.trans (below_of_le RR.out.size HB.out)).trans hb5); have NI := Aside0.mk (show s5.ni = true from by have h := inv5; unfold ArmInv at h; rw [if_pos (by have := HC.out; omega)] at h; exact h.1); have SI := Aside0.mk (show s5.st = R - 1 from by have h := inv5; unfold ArmInv at h; rw [if_pos (by have := HC.out; omega)] at h; exact h.2); clear r5 inv5 len5 hb5 hf5 RR HX HB BKz)
            | (go_at_call 12; with_reducible refine (Dark.is _ _ gd ga gh 64 _ s5 R5.out true NI.out).mono ?_; rintro e' w' ⟨rfl, hw⟩; subst w')
            | (go_at_call 13; with_reducible refine (Steps.is _ _ gd ga gh 64 _ s5 R5.out (R - 1) SI.out).mono ?_; rintro e' w' ⟨rfl, hw⟩; subst w'))
          exact ⟨⟨k + 1, bt5, s5, hlt, by first | rfl | (rw [Int.natCast_add]; rfl) | (rw [k3, Int.natCast_add]; rfl), R5, I5, L5, X5⟩, by (try rw [k3]); show 60 - (((k : Int) + 1 + 1).toNat - 1) < 60 - (((k : Int) + 1).toNat - 1); omega⟩
        · have w0 : decide (0 < Int.tmod xn 5) = false := decide_eq_false hw
          clear hw
          have er : armRes R k = 9 := by unfold armRes; rw [if_pos (by have := HC.out; omega)]
          have AF := Aside0.mk (show ∀ W : World, Rep w.heap.size W gd ga gh 64 bt s → Calls Try.prog 11 #[.pointer (some ⟨gd, 0, none⟩)] W fun e' w' => e' = .returned (.int .i64 9) ∧ ∃ bt' s', Rep w.heap.size w' gd ga gh 64 bt' s' ∧ ArmInv R (k + 1) s' ∧ s'.btw.length ≤ k + 1 ∧ Below w.heap.size W w' ∧ Fr W w' from fun W r => by
            have h := arm.flush W w.heap.size gd ga gh 64 bt s r R HR0.out HR1.out k HK.out HI.out HL.out
            rw [er] at h
            exact h)
          clear er
          have q1 : decide (0 < R) = true := decide_eq_true (by have := HC.out; omega)
          have q2 : decide (R ≤ (k : Int) + 1) = true := decide_eq_true (by have := HC.out; omega)
          have q3 : (R - 1 != R - 1) = false := by simp
          go_wp2_with (first
            | ((with_reducible refine gate_dst (N := 38) rfl ?_); refine wpList_load_put rfl (.tmp 37) rfl (al.add (k * 65)) rfl xn xb LB.out RG.out ?_)
            | ((with_reducible refine gate_dst (N := 9) rfl ?_); refine box_event ?hg (N := 9) ?hd (cs := putC 0 zero64) (t := 31) ?hr ?_; (case hd => rfl); (case hg => rfl); (case hr => exact alloc31_run rfl _); intro gz hg w1z hbox hb; have Gz := Aside0.mk (show wr.heap.size ≤ gz from by rw [hg]; exact below_size (by repeat (first | (with_reducible first | exact HB.out | apply below_alloc | apply pw_below_drewN | apply below_drew1) | exact HB.out))); have BKz := Aside0.mk hbox; clear hbox hg; have n0_ := Aside0.mk (below_step (by repeat (first | (with_reducible first | exact HB.out | apply below_alloc | apply pw_below_drewN | apply below_drew1) | exact HB.out)) hb); clear HB; have HB := n0_; clear n0_ hb)
            | (refine wpList_store_row rfl 31 (.tmp 9) (.tmp 38) rfl gz (putC xn xb) rfl (by rfl) 31 (putC 0 zero64) (by (with_reducible repeat (first | refine blk_drewN ?_ _ | refine blk_drew ?_ | refine blk_alloc ?_ _)); exact BKz.out) (put_size' xn xb LB.out) (by rw [putC_size _ _ LB.out]; rfl) (putC_all _ _) ?_; have n0 := Aside0.mk (below_setRow (show Below wr.heap.size wr _ from by repeat (first | (with_reducible first | exact HB.out | apply below_alloc | apply pw_below_drewN | apply below_drew1) | exact HB.out)) (show wr.heap.size ≤ gz from Gz.out) (putC xn xb)); have n1 := Aside0.mk (setRow_heap _ _ _ (putC xn xb) _ _ (by (with_reducible repeat (first | refine blk_drewN ?_ _ | refine blk_drew ?_ | refine blk_alloc ?_ _)); exact BKz.out)); generalize World.setRow _ _ _ = w3 at n0 n1; clear HB BKz; have HB := n0; have BKz := n1; clear n0 n1; have zc : w3.cell? ⟨gz, 0, none⟩ = some (.int .u8 xn) := (blk_cell BKz.out 0).trans rfl)
            | (go_at_call 11; with_reducible refine (AF.out _ (RR.out.below (by repeat (first | (with_reducible first | exact HB.out | apply below_alloc | apply pw_below_drewN | apply below_drew1) | exact HB.out)))).mono ?_; rintro e' w5 ⟨rfl, bt5, s5, r5, inv5, len5, hb5, hf5⟩; have R5 := Aside0.mk r5; have I5 := Aside0.mk inv5; have L5 := Aside0.mk len5; have X5 := Aside0.mk ((HX.out.trans (below_of_le RR.out.size HB.out)).trans hb5); have NI := Aside0.mk (show s5.ni = true from by have h := inv5; unfold ArmInv at h; rw [if_pos (by have := HC.out; omega)] at h; exact h.1); have SI := Aside0.mk (show s5.st = R - 1 from by have h := inv5; unfold ArmInv at h; rw [if_pos (by have := HC.out; omega)] at h; exact h.2); clear r5 inv5 len5 hb5 hf5 RR HX HB BKz)
            | (go_at_call 12; with_reducible refine (Dark.is _ _ gd ga gh 64 _ s5 R5.out true NI.out).mono ?_; rintro e' w' ⟨rfl, hw⟩; subst w')
            | (go_at_call 13; with_reducible refine (Steps.is _ _ gd ga gh 64 _ s5 R5.out (R - 1) SI.out).mono ?_; rintro e' w' ⟨rfl, hw⟩; subst w'))
          exact ⟨⟨k + 1, bt5, s5, hlt, by first | rfl | (rw [Int.natCast_add]; rfl) | (rw [k3, Int.natCast_add]; rfl), R5, I5, L5, X5⟩, by (try rw [k3]); show 60 - (((k : Int) + 1 + 1).toNat - 1) < 60 - (((k : Int) + 1).toNat - 1); omega⟩
      · have HC := Aside0.mk hN
        clear hN
        by_cases hz : R = 0
        · have HZ := Aside0.mk hz
          clear hz
          by_cases hw : 0 < Int.tmod xn 5
          · have w0 : decide (0 < Int.tmod xn 5) = true := decide_eq_true hw
            clear hw
            have er : armRes R k = 0 := by unfold armRes; rw [if_neg (by have := HC.out; omega)]
            have AW := Aside0.mk (show ∀ W : World, Rep w.heap.size W gd ga gh 64 bt s → Calls Try.prog 10 #[.pointer (some ⟨gd, 0, none⟩), .int .i64 (j : Int), .agg (bcells xb)] W fun e' w' => e' = .returned (.int .i64 0) ∧ ∃ bt' s', Rep w.heap.size w' gd ga gh 64 bt' s' ∧ ArmInv R (k + 1) s' ∧ s'.btw.length ≤ k + 1 ∧ Below w.heap.size W w' ∧ Fr W w' from fun W r => by
              have h := arm.write W w.heap.size gd ga gh 64 bt s r R HR0.out HR1.out k HK.out HI.out HL.out j HJ.out xb LB.out
              rw [er] at h
              exact h)
            clear er
            have q1 : decide (0 < R) = false := decide_eq_false (by have := HZ.out; omega)
            have q3 : ((k : Int) + 1 != (k : Int) + 1) = false := by simp
            go_wp2_with (first
              | ((with_reducible refine gate_dst (N := 38) rfl ?_); refine wpList_load_put rfl (.tmp 37) rfl (al.add (k * 65)) rfl xn xb LB.out RG.out ?_)
              | ((with_reducible refine gate_dst (N := 9) rfl ?_); refine box_event ?hg (N := 9) ?hd (cs := putC 0 zero64) (t := 31) ?hr ?_; (case hd => rfl); (case hg => rfl); (case hr => exact alloc31_run rfl _); intro gz hg w1z hbox hb; have Gz := Aside0.mk (show wr.heap.size ≤ gz from by rw [hg]; exact below_size (by repeat (first | (with_reducible first | exact HB.out | apply below_alloc | apply pw_below_drewN | apply below_drew1) | exact HB.out))); have BKz := Aside0.mk hbox; clear hbox hg; have n0_ := Aside0.mk (below_step (by repeat (first | (with_reducible first | exact HB.out | apply below_alloc | apply pw_below_drewN | apply below_drew1) | exact HB.out)) hb); clear HB; have HB := n0_; clear n0_ hb)
              | (refine wpList_store_row rfl 31 (.tmp 9) (.tmp 38) rfl gz (putC xn xb) rfl (by rfl) 31 (putC 0 zero64) (by (with_reducible repeat (first | refine blk_drewN ?_ _ | refine blk_drew ?_ | refine blk_alloc ?_ _)); exact BKz.out) (put_size' xn xb LB.out) (by rw [putC_size _ _ LB.out]; rfl) (putC_all _ _) ?_; have n0 := Aside0.mk (below_setRow (show Below wr.heap.size wr _ from by repeat (first | (with_reducible first | exact HB.out | apply below_alloc | apply pw_below_drewN | apply below_drew1) | exact HB.out)) (show wr.heap.size ≤ gz from Gz.out) (putC xn xb)); have n1 := Aside0.mk (setRow_heap _ _ _ (putC xn xb) _ _ (by (with_reducible repeat (first | refine blk_drewN ?_ _ | refine blk_drew ?_ | refine blk_alloc ?_ _)); exact BKz.out)); generalize World.setRow _ _ _ = w3 at n0 n1; clear HB BKz; have HB := n0; have BKz := n1; clear n0 n1; have zc : w3.cell? ⟨gz, 0, none⟩ = some (.int .u8 xn) := (blk_cell BKz.out 0).trans rfl)
              | ((with_reducible refine gate_dst (N := 49) rfl ?_); refine wpList_load_blk rfl (.tmp 48) rfl gz (1) rfl xb LB.out (putC_range (by (with_reducible repeat (first | refine blk_drewN ?_ _ | refine blk_drew ?_ | refine blk_alloc ?_ _)); exact BKz.out)) ?_)
              | (go_at_call 10; with_reducible refine (AW.out _ (RR.out.below (by repeat (first | (with_reducible first | exact HB.out | apply below_alloc | apply pw_below_drewN | apply below_drew1) | exact HB.out)))).mono ?_; rintro e' w5 ⟨rfl, bt5, s5, r5, inv5, len5, hb5, hf5⟩; have R5 := Aside0.mk r5; have I5 := Aside0.mk inv5; have L5 := Aside0.mk len5; have X5 := Aside0.mk ((HX.out.trans (below_of_le RR.out.size HB.out)).trans hb5); have NI := Aside0.mk (show s5.ni = false from by have h := inv5; unfold ArmInv at h; rw [if_neg (by have := HC.out; omega)] at h; exact h.1); have SI := Aside0.mk (show s5.st = (k : Int) + 1 from by have h := inv5; unfold ArmInv at h; rw [if_neg (by have := HC.out; omega)] at h; have h2 := h.2.1; omega); clear r5 inv5 len5 hb5 hf5 RR HX HB BKz)
              | (go_at_call 12; with_reducible refine (Dark.is _ _ gd ga gh 64 _ s5 R5.out false NI.out).mono ?_; rintro e' w' ⟨rfl, hw⟩; subst w')
              | (go_at_call 13; with_reducible refine (Steps.is _ _ gd ga gh 64 _ s5 R5.out ((k : Int) + 1) SI.out).mono ?_; rintro e' w' ⟨rfl, hw⟩; subst w'))
            exact ⟨⟨k + 1, bt5, s5, hlt, by first | rfl | (rw [Int.natCast_add]; rfl) | (rw [k3, Int.natCast_add]; rfl), R5, I5, L5, X5⟩, by (try rw [k3]); show 60 - (((k : Int) + 1 + 1).toNat - 1) < 60 - (((k : Int) + 1).toNat - 1); omega⟩
          · have w0 : decide (0 < Int.tmod xn 5) = false := decide_eq_false hw
            clear hw
            have er : armRes R k = 0 := by unfold armRes; rw [if_neg (by have := HC.out; omega)]
            have AF := Aside0.mk (show ∀ W : World, Rep w.heap.size W gd ga gh 64 bt s → Calls Try.prog 11 #[.pointer (some ⟨gd, 0, none⟩)] W fun e' w' => e' = .returned (.int .i64 0) ∧ ∃ bt' s', Rep w.heap.size w' gd ga gh 64 bt' s' ∧ ArmInv R (k + 1) s' ∧ s'.btw.length ≤ k + 1 ∧ Below w.heap.size W w' ∧ Fr W w' from fun W r => by
              have h := arm.flush W w.heap.size gd ga gh 64 bt s r R HR0.out HR1.out k HK.out HI.out HL.out
              rw [er] at h
              exact h)
            clear er
            have q1 : decide (0 < R) = false := decide_eq_false (by have := HZ.out; omega)
            have q3 : ((k : Int) + 1 != (k : Int) + 1) = false := by simp
            go_wp2_with (first
              | ((with_reducible refine gate_dst (N := 38) rfl ?_); refine wpList_load_put rfl (.tmp 37) rfl (al.add (k * 65)) rfl xn xb LB.out RG.out ?_)
              | ((with_reducible refine gate_dst (N := 9) rfl ?_); refine box_event ?hg (N := 9) ?hd (cs := putC 0 zero64) (t := 31) ?hr ?_; (case hd => rfl); (case hg => rfl); (case hr => exact alloc31_run rfl _); intro gz hg w1z hbox hb; have Gz := Aside0.mk (show wr.heap.size ≤ gz from by rw [hg]; exact below_size (by repeat (first | (with_reducible first | exact HB.out | apply below_alloc | apply pw_below_drewN | apply below_drew1) | exact HB.out))); have BKz := Aside0.mk hbox; clear hbox hg; have n0_ := Aside0.mk (below_step (by repeat (first | (with_reducible first | exact HB.out | apply below_alloc | apply pw_below_drewN | apply below_drew1) | exact HB.out)) hb); clear HB; have HB := n0_; clear n0_ hb)
              | (refine wpList_store_row rfl 31 (.tmp 9) (.tmp 38) rfl gz (putC xn xb) rfl (by rfl) 31 (putC 0 zero64) (by (with_reducible repeat (first | refine blk_drewN ?_ _ | refine blk_drew ?_ | refine blk_alloc ?_ _)); exact BKz.out) (put_size' xn xb LB.out) (by rw [putC_size _ _ LB.out]; rfl) (putC_all _ _) ?_; have n0 := Aside0.mk (below_setRow (show Below wr.heap.size wr _ from by repeat (first | (with_reducible first | exact HB.out | apply below_alloc | apply pw_below_drewN | apply below_drew1) | exact HB.out)) (show wr.heap.size ≤ gz from Gz.out) (putC xn xb)); have n1 := Aside0.mk (setRow_heap _ _ _ (putC xn xb) _ _ (by (with_reducible repeat (first | refine blk_drewN ?_ _ | refine blk_drew ?_ | refine blk_alloc ?_ _)); exact BKz.out)); generalize World.setRow _ _ _ = w3 at n0 n1; clear HB BKz; have HB := n0; have BKz := n1; clear n0 n1; have zc : w3.cell? ⟨gz, 0, none⟩ = some (.int .u8 xn) := (blk_cell BKz.out 0).trans rfl)
              | (go_at_call 11; with_reducible refine (AF.out _ (RR.out.below (by repeat (first | (with_reducible first | exact HB.out | apply below_alloc | apply pw_below_drewN | apply below_drew1) | exact HB.out)))).mono ?_; rintro e' w5 ⟨rfl, bt5, s5, r5, inv5, len5, hb5, hf5⟩; have R5 := Aside0.mk r5; have I5 := Aside0.mk inv5; have L5 := Aside0.mk len5; have X5 := Aside0.mk ((HX.out.trans (below_of_le RR.out.size HB.out)).trans hb5); have NI := Aside0.mk (show s5.ni = false from by have h := inv5; unfold ArmInv at h; rw [if_neg (by have := HC.out; omega)] at h; exact h.1); have SI := Aside0.mk (show s5.st = (k : Int) + 1 from by have h := inv5; unfold ArmInv at h; rw [if_neg (by have := HC.out; omega)] at h; have h2 := h.2.1; omega); clear r5 inv5 len5 hb5 hf5 RR HX HB BKz)
              | (go_at_call 12; with_reducible refine (Dark.is _ _ gd ga gh 64 _ s5 R5.out false NI.out).mono ?_; rintro e' w' ⟨rfl, hw⟩; subst w')
              | (go_at_call 13; with_reducible refine (Steps.is _ _ gd ga gh 64 _ s5 R5.out ((k : Int) + 1) SI.out).mono ?_; rintro e' w' ⟨rfl, hw⟩; subst w'))
            exact ⟨⟨k + 1, bt5, s5, hlt, by first | rfl | (rw [Int.natCast_add]; rfl) | (rw [k3, Int.natCast_add]; rfl), R5, I5, L5, X5⟩, by (try rw [k3]); show 60 - (((k : Int) + 1 + 1).toNat - 1) < 60 - (((k : Int) + 1).toNat - 1); omega⟩
        · have HZ := Aside0.mk (show 0 < R ∧ (k : Int) + 1 < R from by have := HC.out; have := HR0.out; omega)
          clear hz
          by_cases hw : 0 < Int.tmod xn 5
          · have w0 : decide (0 < Int.tmod xn 5) = true := decide_eq_true hw
            clear hw
            have er : armRes R k = 0 := by unfold armRes; rw [if_neg (by have := HC.out; omega)]
            have AW := Aside0.mk (show ∀ W : World, Rep w.heap.size W gd ga gh 64 bt s → Calls Try.prog 10 #[.pointer (some ⟨gd, 0, none⟩), .int .i64 (j : Int), .agg (bcells xb)] W fun e' w' => e' = .returned (.int .i64 0) ∧ ∃ bt' s', Rep w.heap.size w' gd ga gh 64 bt' s' ∧ ArmInv R (k + 1) s' ∧ s'.btw.length ≤ k + 1 ∧ Below w.heap.size W w' ∧ Fr W w' from fun W r => by
              have h := arm.write W w.heap.size gd ga gh 64 bt s r R HR0.out HR1.out k HK.out HI.out HL.out j HJ.out xb LB.out
              rw [er] at h
              exact h)
            clear er
            have q1 : decide (0 < R) = true := decide_eq_true (by have := HZ.out; omega)
            have q2 : decide (R ≤ (k : Int) + 1) = false := decide_eq_false (by have := HZ.out; omega)
            have q3 : ((k : Int) + 1 != (k : Int) + 1) = false := by simp
            go_wp2_with (first
              | ((with_reducible refine gate_dst (N := 38) rfl ?_); refine wpList_load_put rfl (.tmp 37) rfl (al.add (k * 65)) rfl xn xb LB.out RG.out ?_)
              | ((with_reducible refine gate_dst (N := 9) rfl ?_); refine box_event ?hg (N := 9) ?hd (cs := putC 0 zero64) (t := 31) ?hr ?_; (case hd => rfl); (case hg => rfl); (case hr => exact alloc31_run rfl _); intro gz hg w1z hbox hb; have Gz := Aside0.mk (show wr.heap.size ≤ gz from by rw [hg]; exact below_size (by repeat (first | (with_reducible first | exact HB.out | apply below_alloc | apply pw_below_drewN | apply below_drew1) | exact HB.out))); have BKz := Aside0.mk hbox; clear hbox hg; have n0_ := Aside0.mk (below_step (by repeat (first | (with_reducible first | exact HB.out | apply below_alloc | apply pw_below_drewN | apply below_drew1) | exact HB.out)) hb); clear HB; have HB := n0_; clear n0_ hb)
              | (refine wpList_store_row rfl 31 (.tmp 9) (.tmp 38) rfl gz (putC xn xb) rfl (by rfl) 31 (putC 0 zero64) (by (with_reducible repeat (first | refine blk_drewN ?_ _ | refine blk_drew ?_ | refine blk_alloc ?_ _)); exact BKz.out) (put_size' xn xb LB.out) (by rw [putC_size _ _ LB.out]; rfl) (putC_all _ _) ?_; have n0 := Aside0.mk (below_setRow (show Below wr.heap.size wr _ from by repeat (first | (with_reducible first | exact HB.out | apply below_alloc | apply pw_below_drewN | apply below_drew1) | exact HB.out)) (show wr.heap.size ≤ gz from Gz.out) (putC xn xb)); have n1 := Aside0.mk (setRow_heap _ _ _ (putC xn xb) _ _ (by (with_reducible repeat (first | refine blk_drewN ?_ _ | refine blk_drew ?_ | refine blk_alloc ?_ _)); exact BKz.out)); generalize World.setRow _ _ _ = w3 at n0 n1; clear HB BKz; have HB := n0; have BKz := n1; clear n0 n1; have zc : w3.cell? ⟨gz, 0, none⟩ = some (.int .u8 xn) := (blk_cell BKz.out 0).trans rfl)
              | ((with_reducible refine gate_dst (N := 49) rfl ?_); refine wpList_load_blk rfl (.tmp 48) rfl gz (1) rfl xb LB.out (putC_range (by (with_reducible repeat (first | refine blk_drewN ?_ _ | refine blk_drew ?_ | refine blk_alloc ?_ _)); exact BKz.out)) ?_)
              | (go_at_call 10; with_reducible refine (AW.out _ (RR.out.below (by repeat (first | (with_reducible first | exact HB.out | apply below_alloc | apply pw_below_drewN | apply below_drew1) | exact HB.out)))).mono ?_; rintro e' w5 ⟨rfl, bt5, s5, r5, inv5, len5, hb5, hf5⟩; have R5 := Aside0.mk r5; have I5 := Aside0.mk inv5; have L5 := Aside0.mk len5; have X5 := Aside0.mk ((HX.out.trans (below_of_le RR.out.size HB.out)).trans hb5); have NI := Aside0.mk (show s5.ni = false from by have h := inv5; unfold ArmInv at h; rw [if_neg (by have := HC.out; omega)] at h; exact h.1); have SI := Aside0.mk (show s5.st = (k : Int) + 1 from by have h := inv5; unfold ArmInv at h; rw [if_neg (by have := HC.out; omega)] at h; have h2 := h.2.1; omega); clear r5 inv5 len5 hb5 hf5 RR HX HB BKz)
              | (go_at_call 12; with_reducible refine (Dark.is _ _ gd ga gh 64 _ s5 R5.out false NI.out).mono ?_; rintro e' w' ⟨rfl, hw⟩; subst w')
              | (go_at_call 13; with_reducible refine (Steps.is _ _ gd ga gh 64 _ s5 R5.out ((k : Int) + 1) SI.out).mono ?_; rintro e' w' ⟨rfl, hw⟩; subst w'))
            exact ⟨⟨k + 1, bt5, s5, hlt, by first | rfl | (rw [Int.natCast_add]; rfl) | (rw [k3, Int.natCast_add]; rfl), R5, I5, L5, X5⟩, by (try rw [k3]); show 60 - (((k : Int) + 1 + 1).toNat - 1) < 60 - (((k : Int) + 1).toNat - 1); omega⟩
          · have w0 : decide (0 < Int.tmod xn 5) = false := decide_eq_false hw
            clear hw
            have er : armRes R k = 0 := by unfold armRes; rw [if_neg (by have := HC.out; omega)]
            have AF := Aside0.mk (show ∀ W : World, Rep w.heap.size W gd ga gh 64 bt s → Calls Try.prog 11 #[.pointer (some ⟨gd, 0, none⟩)] W fun e' w' => e' = .returned (.int .i64 0) ∧ ∃ bt' s', Rep w.heap.size w' gd ga gh 64 bt' s' ∧ ArmInv R (k + 1) s' ∧ s'.btw.length ≤ k + 1 ∧ Below w.heap.size W w' ∧ Fr W w' from fun W r => by
              have h := arm.flush W w.heap.size gd ga gh 64 bt s r R HR0.out HR1.out k HK.out HI.out HL.out
              rw [er] at h
              exact h)
            clear er
            have q1 : decide (0 < R) = true := decide_eq_true (by have := HZ.out; omega)
            have q2 : decide (R ≤ (k : Int) + 1) = false := decide_eq_false (by have := HZ.out; omega)
            have q3 : ((k : Int) + 1 != (k : Int) + 1) = false := by simp
            go_wp2_with (first
              | ((with_reducible refine gate_dst (N := 38) rfl ?_); refine wpList_load_put rfl (.tmp 37) rfl (al.add (k * 65)) rfl xn xb LB.out RG.out ?_)
              | ((with_reducible refine gate_dst (N := 9) rfl ?_); refine box_event ?hg (N := 9) ?hd (cs := putC 0 zero64) (t := 31) ?hr ?_; (case hd => rfl); (case hg => rfl); (case hr => exact alloc31_run rfl _); intro gz hg w1z hbox hb; have Gz := Aside0.mk (show wr.heap.size ≤ gz from by rw [hg]; exact below_size (by repeat (first | (with_reducible first | exact HB.out | apply below_alloc | apply pw_below_drewN | apply below_drew1) | exact HB.out))); have BKz := Aside0.mk hbox; clear hbox hg; have n0_ := Aside0.mk (below_step (by repeat (first | (with_reducible first | exact HB.out | apply below_alloc | apply pw_below_drewN | apply below_drew1) | exact HB.out)) hb); clear HB; have HB := n0_; clear n0_ hb)
              | (refine wpList_store_row rfl 31 (.tmp 9) (.tmp 38) rfl gz (putC xn xb) rfl (by rfl) 31 (putC 0 zero64) (by (with_reducible repeat (first | refine blk_drewN ?_ _ | refine blk_drew ?_ | refine blk_alloc ?_ _)); exact BKz.out) (put_size' xn xb LB.out) (by rw [putC_size _ _ LB.out]; rfl) (putC_all _ _) ?_; have n0 := Aside0.mk (below_setRow (show Below wr.heap.size wr _ from by repeat (first | (with_reducible first | exact HB.out | apply below_alloc | apply pw_below_drewN | apply below_drew1) | exact HB.out)) (show wr.heap.size ≤ gz from Gz.out) (putC xn xb)); have n1 := Aside0.mk (setRow_heap _ _ _ (putC xn xb) _ _ (by (with_reducible repeat (first | refine blk_drewN ?_ _ | refine blk_drew ?_ | refine blk_alloc ?_ _)); exact BKz.out)); generalize World.setRow _ _ _ = w3 at n0 n1; clear HB BKz; have HB := n0; have BKz := n1; clear n0 n1; have zc : w3.cell? ⟨gz, 0, none⟩ = some (.int .u8 xn) := (blk_cell BKz.out 0).trans rfl)
              | (go_at_call 11; with_reducible refine (AF.out _ (RR.out.below (by repeat (first | (with_reducible first | exact HB.out | apply below_alloc | apply pw_below_drewN | apply below_drew1) | exact HB.out)))).mono ?_; rintro e' w5 ⟨rfl, bt5, s5, r5, inv5, len5, hb5, hf5⟩; have R5 := Aside0.mk r5; have I5 := Aside0.mk inv5; have L5 := Aside0.mk len5; have X5 := Aside0.mk ((HX.out.trans (below_of_le RR.out.size HB.out)).trans hb5); have NI := Aside0.mk (show s5.ni = false from by have h := inv5; unfold ArmInv at h; rw [if_neg (by have := HC.out; omega)] at h; exact h.1); have SI := Aside0.mk (show s5.st = (k : Int) + 1 from by have h := inv5; unfold ArmInv at h; rw [if_neg (by have := HC.out; omega)] at h; have h2 := h.2.1; omega); clear r5 inv5 len5 hb5 hf5 RR HX HB BKz)
              | (go_at_call 12; with_reducible refine (Dark.is _ _ gd ga gh 64 _ s5 R5.out false NI.out).mono ?_; rintro e' w' ⟨rfl, hw⟩; subst w')
              | (go_at_call 13; with_reducible refine (Steps.is _ _ gd ga gh 64 _ s5 R5.out ((k : Int) + 1) SI.out).mono ?_; rintro e' w' ⟨rfl, hw⟩; subst w'))
            exact ⟨⟨k + 1, bt5, s5, hlt, by first | rfl | (rw [Int.natCast_add]; rfl) | (rw [k3, Int.natCast_add]; rfl), R5, I5, L5, X5⟩, by (try rw [k3]); show 60 - (((k : Int) + 1 + 1).toNat - 1) < 60 - (((k : Int) + 1).toNat - 1); omega⟩
    · have hin : k = 60 := by omega
      subst hin
      have k4 : decide (((60 : Nat) : Int) + 1 ≤ 60) = false := decide_eq_false (by omega)
      have HB := HX
      go_wp2_with (go_at_call 14; with_reducible refine (law_lives.calls _).mono ?_; rintro e' w' ⟨rfl, hb⟩; have n0_ := Aside0.mk (below_step (by repeat (first | (with_reducible first | exact HB.out | apply below_alloc | apply pw_below_drewN | apply below_drew1) | exact HB.out)) hb); clear HB; have HB := n0_; clear n0_ hb)
      go_ret
      exact ⟨rfl, by repeat (first | (with_reducible first | exact HB.out | apply below_alloc | apply pw_below_drewN | apply below_drew1) | exact HB.out)⟩

theorem diskArm.calls (w : World) (a : Int) (ha0 : 0 ≤ a) (ha1 : a < 256) (A : Option Addr) (c : Nat) (l : List (Int × List Int)) (hr : kPut.C w A l.length l) (hwf : ∀ x ∈ l, 0 ≤ x.1 ∧ x.1 < 256) :
    Calls Try.prog 3 #[.int .u8 a, .slice A l.length c] w fun e' w' => e' = .returned (.bool true) ∧ Below w.heap.size w w' := by
  by_cases h : l.length ≤ 60
  · exact diskArm.calls0 w a ha0 ha1 A c l hr hwf h
  · exact diskArm.calls1 w a ha0 ha1 A c l hr hwf (by omega)
end Go.Proofs.Ytlnfdhcpnbhkdaa.GA
