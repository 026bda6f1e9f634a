/- Blocks in memory: loads, stores and copies of 64 bytes. No condition. -/
import Derived.Test.YtlnfdhcpnbhkdaaD16
import Derived.Laws.CopyOwn
import Derived.ChangeKeysEq
import Derived.Deep.RegionHeld3
import Derived.Deep.MidRow
namespace Go.Proofs.Ytlnfdhcpnbhkdaa.GA
open Go.RowKit Go.Proofs.YtlnfdhcpnbhkdaaW.PrintWords Go.Proofs.YtlnfdhcpnbhkdaaW.PrintLast Go.Proofs.YtlnfdhcpnbhkdaaW.PrintMore
set_option linter.unusedVariables false
set_option linter.unusedSimpArgs false


theorem put_rng {w : World} {al : Addr} {l : List (Int × List Int)} (h : kPut.C w (some al) l.length l) (k : Nat) (x : Int × List Int) (hk : l[k]? = some x) : w.cell? (al.add (k * 65)) = some (.int .u8 x.1) ∧ w.rangeAt (al.add (k * 65)).block ((al.add (k * 65)).off + 1) (encs (Value.int .u8) x.2) := by
  obtain ⟨ad, e, hb, hc⟩ := put_at h k x hk
  cases e
  constructor
  · have h0 := hc 0 (.int .u8 x.1) rfl
    rw [Addr.add_add, Nat.add_zero] at h0
    exact h0
  · intro j v hv
    have h1 := hc (1 + j) v (by rw [show 1 + j = j + 1 by omega, List.getElem?_cons_succ]; exact hv)
    have e : (al.add (k * 65)).add (1 + j) = ⟨(al.add (k * 65)).block, (al.add (k * 65)).off + 1 + j, none⟩ := by
      generalize al.add (k * 65) = q
      unfold Addr.add
      split
      · omega
      · simp [Nat.add_assoc]
    rw [e] at h1
    exact h1
theorem size38 (X : List Int) (h : X.length = 8 * 64) : (Try.prog.info? 38).map (·.size) = some (bcells X).size := by
  rw [bcells_size, h]
  kernel_rfl
theorem zero38 : (Try.prog.info? 38).map (fun i => i.zero) = some (some (.agg (bcells (zerosN 8)))) := by kernel_rfl
theorem alloc38_make (W : World) : (Instr.alloc 38 true (.tuple #[])).run Try.prog W = .ok (.pointer (some ⟨W.heap.size, 0, none⟩)) (W.alloc (.cells (bcells (zerosN 8)) 38)) := by
  cases hq : Try.prog.info? 38 with
  | none => have := zero38; rw [hq] at this; cases this
  | some i =>
    have hz : i.zero = some (.agg (bcells (zerosN 8))) := by have := zero38; rw [hq] at this; simpa using this
    simp [Instr.alloc, newVar, newRow, zeroValue, typeInfo, hq, hz, Value.cells]
theorem alloc38_run {o : Oper} {a : Act} (ho : o.op = .alloc 38) (W : World) : (execOp a.eval o).run Try.prog W = .ok (.value (.pointer (some ⟨W.heap.size, 0, none⟩))) (W.alloc (.cells (bcells (zerosN 8)) 38 (0, 0))) := by
  unfold execOp
  simp only [ho, Sem.run_bind, alloc38_make, Result.andThen_ok, Sem.run_pure]
theorem zerosN_len (n : Nat) : (zerosN n).length = n * 64 := List.length_replicate

set_option maxHeartbeats 16000000 in
set_option maxRecDepth 100000 in
theorem puts.calls0 (w : World) (B gd ga gh : Nat) (bt : Value) (s : DS) (r : Rep B w gd ga gh 64 bt s) (A : Option Addr) (c : Nat) (l : List (Int × List Int)) (hr : ∀ w', Below B w w' → kPut.C w' A l.length l) (hwf : ∀ x ∈ l, 0 ≤ x.1 ∧ x.1 < 256) (S but : Int) (hS0 : 0 ≤ S) (hS : S ≤ 1000) (X : List Int) (hp : PI S but X 0 s X) (hM : l.length ≤ 40) :
    Calls Try.prog 15 #[.pointer (some ⟨gd, 0, none⟩), .slice A l.length c, .int .i64 but, .agg (bcells X)] w fun e' w' => ∃ X', e' = .returned (.tuple #[.agg (bcells X'), .bool true]) ∧ (∃ bt' s' k, k ≤ 40 ∧ Rep B w' gd ga gh 64 bt' s' ∧ PI S but X k s' X') ∧ Below B w w' ∧ Fr w w' := by
  have HP := Aside0.mk hr
  have HWF := Aside0.mk hwf
  have HBS := Aside0.mk r.size
  have HB := Aside0.mk (Below.refl w.heap.size w)
  have RR := Aside0.mk r
  obtain ⟨XX, hXX⟩ : ∃ XX, XX = X := ⟨_, rfl⟩
  have HPI := Aside0.mk (show PI S but XX 0 s X from by rw [hXX]; exact hp)
  have EXX := Aside0.mk hXX
  clear hXX
  have HSS := Aside0.mk hS
  have HM := Aside0.mk hM
  have hMi : (l.length : Int) ≤ 40 := by omega
  clear hr hwf r hp hM hS hS0
  go_enter Try.func15, Try.ntmps15
  go_wp2_with (first
    | ((with_reducible refine gate_dst (N := 7) rfl ?_); refine box_event ?hg (N := 7) ?hd (cs := bcells X) (t := 38) ?hr ?_; (case hd => rfl); (case hg => rfl); (case hr => exact boxagg_run rfl rfl _); intro gq hg w1q hbox hb; have Gq := Aside0.mk (show w.heap.size ≤ gq from by rw [hg]; exact below_size (by repeat (first | (with_reducible first | exact HB.out | apply below_alloc | apply pw_below_drewN | apply below_drew1) | exact HB.out))); have BKq := Aside0.mk hbox; clear hbox hg; have n0_ := Aside0.mk (below_step (by repeat (first | (with_reducible first | exact HB.out | apply below_alloc | apply pw_below_drewN | apply below_drew1) | exact HB.out)) hb); clear HB; have HB := n0_; clear n0_ hb)
    | ((with_reducible refine gate_dst (N := 8) rfl ?_); refine box_event ?hg (N := 8) ?hd (cs := bcells (zerosN 8)) (t := 38) ?hr ?_; (case hd => rfl); (case hg => rfl); (case hr => exact alloc38_run rfl _); intro gr hg w1r hbox hb; have Gr := Aside0.mk (show w.heap.size ≤ gr from by rw [hg]; exact below_size (by repeat (first | (with_reducible first | exact HB.out | apply below_alloc | apply pw_below_drewN | apply below_drew1) | exact HB.out))); have NEqr := Aside0.mk (show gq ≠ gr from by rw [hg]; exact Nat.ne_of_lt (blk_lt (by (with_reducible repeat (first | refine blk_drewN ?_ _ | refine blk_drew ?_ | refine blk_alloc ?_ _)); exact BKq.out))); have BKr := Aside0.mk hbox; clear hbox hg; have n0_ := Aside0.mk (below_step (by repeat (first | (with_reducible first | exact HB.out | apply below_alloc | apply pw_below_drewN | apply below_drew1) | exact HB.out)) hb); (first | have n1_ := Aside0.mk (blk_below BKq.out hb) | have n1_ := Aside0.mk (blk_below (blk_drewN BKq.out _) hb) | have n1_ := Aside0.mk (blk_below (blk_drew BKq.out) hb) | have n1_ := Aside0.mk (blk_below (blk_alloc BKq.out _) hb) | have n1_ := Aside0.mk (blk_below (by (with_reducible repeat (first | refine blk_drewN ?_ _ | refine blk_drew ?_ | refine blk_alloc ?_ _)); exact BKq.out) hb)); clear HB BKq; have HB := n0_; have BKq := n1_; clear n0_ n1_ hb))
  go_loopw [10] (fun v10 w' => ∃ (k : Nat) (bt : Value) (s : DS) (X : List Int), k ≤ l.length ∧ v10 = .int .i64 k ∧ Aside0 (Rep B w' gd ga gh 64 bt s) ∧ Aside0 (PI S but XX k s X) ∧ Aside0 (w'.heap[gq]? = some (.cells (bcells X) 38 (0, 0))) ∧ Aside0 (w'.heap[gr]? = some (.cells (bcells (zerosN 8)) 38 (0, 0))) ∧ Aside0 (Below B w w') ∧ Aside0 (Fr w w')) (fun v10 _ => l.length - (intOf v10).toNat)
  case atStart => exact ⟨0, bt, s, X, Nat.zero_le _, rfl, ⟨RR.out.below HB.out⟩, HPI, BKq, BKr, ⟨below_of_le HBS.out HB.out⟩, ⟨Fr.below HB.out⟩⟩
  case round =>
    clear RR HPI HB BKq BKr
    obtain ⟨k, bt, s, X', hk, rfl, RR, HPI, BKq, BKr, HX, FR⟩ := hrel
    have LX := Aside0.mk HPI.out.lx
    by_cases hlt : k < l.length
    · have hkl : k < l.length := by have := HM.out; omega
      have k0 : (0 : Int) ≤ (k : Int) := Int.natCast_nonneg k
      have k1 : (k : Int) < (l.length : Int) := by omega
      have kM : (k : Int) < (l.length : Int) := by omega
      have k3 : wrap64 ((k : Int) + 1) = (k : Int) + 1 := by unfold wrap64; have := HM.out; omega
      obtain ⟨x, hx⟩ : ∃ x, l[k]? = some x := ⟨_, List.getElem?_eq_getElem hkl⟩
      obtain ⟨al, ea, hb64, _⟩ := put_at (HP.out wr HX.out) k x hx
      cases ea
      have hx0 := HWF.out x (List.mem_of_getElem? hx)
      obtain ⟨hc0, hrg⟩ := put_rng (HP.out wr HX.out) k x hx
      obtain ⟨xn, xb⟩ := x
      have HK := Aside0.mk hx
      obtain ⟨j, hj⟩ : ∃ j : Nat, (j : Int) = xn % 8 := ⟨(xn % 8).toNat, by have := hx0.1; simp only at this; omega⟩
      have HJ8 := Aside0.mk (show j < 8 by omega)
      have HJ := Aside0.mk (show j < 64 by omega)
      have LB := Aside0.mk (show xb.length = 64 from hb64)
      have RG := Aside0.mk (show wr.rangeAt (al.add (k * 65)).block ((al.add (k * 65)).off + 1) (encs (Value.int .u8) xb) from hrg)
      have xc : wr.cell? (al.add (k * 65)) = some (.int .u8 xn) := hc0
      have n1 : IntKind.i64.wrap xn = xn := wrap_u8 hx0.1 hx0.2
      have n2 : Int.tmod xn 8 = (j : Int) := by rw [Int.tmod_eq_emod_of_nonneg hx0.1]; exact hj.symm
      have j0 : (0 : Int) ≤ (j : Int) := Int.natCast_nonneg j
      have j1 : (j : Int) < 8 := by have := HJ8.out; omega
      have NI := Aside0.mk HPI.out.ni
      have AL := Aside0.mk (show s.al ≠ 1 from by rw [HPI.out.al]; decide)
      have ST := Aside0.mk (show s.st < 4611686018427387904 from by have := HPI.out.st; have := HSS.out; have := HM.out; omega)
      have HL := Aside0.mk (show (s.btw.length + 1) * 72 ≤ 140737488355328 from by have := HPI.out.len; have := HM.out; omega)
      have HLA := Aside0.mk RR.out.la
      have HLH := Aside0.mk RR.out.lh
      have HOK := Aside0.mk RR.out.ok
      clear hx hb64 hrg hc0 hx0 hj hkl
      by_cases hbt : (j : Int) = but
      · have q1 : ((j : Int) == but) = true := by simpa using hbt
        clear hbt
        go_wp2
        exact ⟨⟨k + 1, bt, s, X', hlt, by first | rfl | (rw [Int.natCast_add]; rfl) | (rw [k3, Int.natCast_add]; rfl), RR, ⟨HPI.out.next⟩, BKq, BKr, HX, FR⟩, by (try rw [k3]); show l.length - ((k : Int) + 1).toNat < l.length - ((k : Int)).toNat; omega⟩
      · have q1 : ((j : Int) == but) = false := by simpa using hbt
        have HBT := Aside0.mk hbt
        clear hbt
        go_wp2_with (first
          | ((with_reducible refine gate_dst (N := 35) rfl ?_); refine wpList_load_blk rfl (.tmp 34) rfl (al.add (k * 65)).block ((al.add (k * 65)).off + 1) rfl xb LB.out RG.out ?_)
          | (go_at_call 10; with_reducible refine (Write.ok _ B gd ga gh 64 bt s RR.out NI.out AL.out ST.out HL.out j HJ.out xb LB.out).mono ?_; rintro e' w5 ⟨rfl, bt5, r5, hb5, hf5⟩; have R5 := Aside0.mk r5; have HX5 := Aside0.mk (HX.out.trans hb5); have FR5 := Aside0.mk (FR.out.trans hf5); have Bq5 := Aside0.mk (Fr.get hf5 BKq.out (by decide) (by decide) (by decide)); have Br5 := Aside0.mk (Fr.get hf5 BKr.out (by decide) (by decide) (by decide)); clear RG BKq BKr RR HX FR r5 hb5 hf5; have RG := Aside0.mk (put_rng (HP.out w5 HX5.out) k (xn, xb) HK.out).2)
          | ((with_reducible refine gate_dst (N := 44) rfl ?_); refine wpList_load_blk rfl (.tmp 43) rfl (al.add (k * 65)).block ((al.add (k * 65)).off + 1) rfl xb LB.out RG.out ?_)
          | (refine wpList_store_blk rfl (.tmp 45) (.tmp 44) rfl gq (j * 64) rfl xb LB.out rfl X' 38 Bq5.out (by rw [LX.out]; have := HJ8.out; omega) B HX5.out (Nat.le_trans HBS.out Gq.out) ?_; intro w6 h1 h2 h3; have Bq6 := Aside0.mk h1; have O6 := Aside0.mk (show ∀ k, k ≠ gq → w6.heap[k]? = w5.heap[k]? from h2.out); have HX6 := Aside0.mk h3; clear h1 h2 h3))
        have R6 := Aside0.mk (R5.out.far Bq5.out (by decide) (by decide) (by decide) O6.out)
        have FR6 := Aside0.mk (FR5.out.far Gq.out O6.out)
        have Br6 := Aside0.mk ((O6.out gr NEqr.out.symm).trans Br5.out)
        exact ⟨⟨k + 1, bt5, _, splice X' (j * 64) xb, hlt, by first | rfl | (rw [Int.natCast_add]; rfl) | (rw [k3, Int.natCast_add]; rfl), R6, ⟨HPI.out.write HLA.out HLH.out HOK.out j HJ8.out xb LB.out HBT.out⟩, Bq6, Br6, HX6, FR6⟩, by (try rw [k3]); show l.length - ((k : Int) + 1).toNat < l.length - ((k : Int)).toNat; omega⟩
    · have hin : k = l.length := by omega
      subst hin
      have kM : decide (((l.length : Nat) : Int) < (l.length : Int)) = false := decide_eq_false (by omega)
      go_wp2_with (first
        | ((with_reducible refine gate_dst (N := 46) rfl ?_); refine wpList_load_row rfl 38 (.tmp 7) rfl gq rfl 38 (bcells X') (0, 0) _ BKq.out Try.underlying38 rfl (size38 _ LX.out) ?_)
        | (refine wpList_store_row rfl 38 (.tmp 8) (.tmp 46) rfl gr (bcells X') rfl (by rfl) 38 (bcells (zerosN 8)) BKr.out (size38 _ LX.out) (by rw [bcells_size, bcells_size, LX.out]; rfl) (bcells_all _) ?_; have n0 := Aside0.mk (below_setRow (show Below B w _ from HX.out) (show B ≤ gr from Nat.le_trans HBS.out Gr.out) (bcells X')); have n1 := Aside0.mk (setRow_heap _ _ _ (bcells X') _ _ BKr.out); have n2 := Aside0.mk (RR.out.far BKr.out (by decide) (by decide) (by decide) (fun k hk => setRow_other _ gr k (bcells X') hk)); have n3 := Aside0.mk (FR.out.far Gr.out (fun k hk => setRow_other _ gr k (bcells X') hk)); generalize World.setRow _ _ _ = w9 at n0 n1 n2 n3))
      refine bodyPost_ret (results_ct rfl _ _ gr 38 (bcells X') (0, 0) _ rfl n1.out Try.underlying38 rfl (size38 _ LX.out)) rfl ?_
      exact ⟨X', rfl, ⟨bt, s, _, by have := HM.out; omega, n2.out, by rw [← EXX.out]; exact HPI.out⟩, n0.out, n3.out⟩

set_option maxHeartbeats 16000000 in
set_option maxRecDepth 100000 in
theorem puts.calls1 (w : World) (B gd ga gh : Nat) (bt : Value) (s : DS) (r : Rep B w gd ga gh 64 bt s) (A : Option Addr) (c : Nat) (l : List (Int × List Int)) (hr : ∀ w', Below B w w' → kPut.C w' A l.length l) (hwf : ∀ x ∈ l, 0 ≤ x.1 ∧ x.1 < 256) (S but : Int) (hS0 : 0 ≤ S) (hS : S ≤ 1000) (X : List Int) (hp : PI S but X 0 s X) (hM : 40 < l.length) :
    Calls Try.prog 15 #[.pointer (some ⟨gd, 0, none⟩), .slice A l.length c, .int .i64 but, .agg (bcells X)] w fun e' w' => ∃ X', e' = .returned (.tuple #[.agg (bcells X'), .bool true]) ∧ (∃ bt' s' k, k ≤ 40 ∧ Rep B w' gd ga gh 64 bt' s' ∧ PI S but X k s' X') ∧ Below B w w' ∧ Fr w w' := by
  have HP := Aside0.mk hr
  have HWF := Aside0.mk hwf
  have HBS := Aside0.mk r.size
  have HB := Aside0.mk (Below.refl w.heap.size w)
  have RR := Aside0.mk r
  obtain ⟨XX, hXX⟩ : ∃ XX, XX = X := ⟨_, rfl⟩
  have HPI := Aside0.mk (show PI S but XX 0 s X from by rw [hXX]; exact hp)
  have EXX := Aside0.mk hXX
  clear hXX
  have HSS := Aside0.mk hS
  have HM := Aside0.mk hM
  have hMi : (40 : Int) < (l.length : Int) := by omega
  clear hr hwf r hp hM hS hS0
  go_enter Try.func15, Try.ntmps15
  go_wp2_with (first
    | ((with_reducible refine gate_dst (N := 7) rfl ?_); refine box_event ?hg (N := 7) ?hd (cs := bcells X) (t := 38) ?hr ?_; (case hd => rfl); (case hg => rfl); (case hr => exact boxagg_run rfl rfl _); intro gq hg w1q hbox hb; have Gq := Aside0.mk (show w.heap.size ≤ gq from by rw [hg]; exact below_size (by repeat (first | (with_reducible first | exact HB.out | apply below_alloc | apply pw_below_drewN | apply below_drew1) | exact HB.out))); have BKq := Aside0.mk hbox; clear hbox hg; have n0_ := Aside0.mk (below_step (by repeat (first | (with_reducible first | exact HB.out | apply below_alloc | apply pw_below_drewN | apply below_drew1) | exact HB.out)) hb); clear HB; have HB := n0_; clear n0_ hb)
    | ((with_reducible refine gate_dst (N := 8) rfl ?_); refine box_event ?hg (N := 8) ?hd (cs := bcells (zerosN 8)) (t := 38) ?hr ?_; (case hd => rfl); (case hg => rfl); (case hr => exact alloc38_run rfl _); intro gr hg w1r hbox hb; have Gr := Aside0.mk (show w.heap.size ≤ gr from by rw [hg]; exact below_size (by repeat (first | (with_reducible first | exact HB.out | apply below_alloc | apply pw_below_drewN | apply below_drew1) | exact HB.out))); have NEqr := Aside0.mk (show gq ≠ gr from by rw [hg]; exact Nat.ne_of_lt (blk_lt (by (with_reducible repeat (first | refine blk_drewN ?_ _ | refine blk_drew ?_ | refine blk_alloc ?_ _)); exact BKq.out))); have BKr := Aside0.mk hbox; clear hbox hg; have n0_ := Aside0.mk (below_step (by repeat (first | (with_reducible first | exact HB.out | apply below_alloc | apply pw_below_drewN | apply below_drew1) | exact HB.out)) hb); (first | have n1_ := Aside0.mk (blk_below BKq.out hb) | have n1_ := Aside0.mk (blk_below (blk_drewN BKq.out _) hb) | have n1_ := Aside0.mk (blk_below (blk_drew BKq.out) hb) | have n1_ := Aside0.mk (blk_below (blk_alloc BKq.out _) hb) | have n1_ := Aside0.mk (blk_below (by (with_reducible repeat (first | refine blk_drewN ?_ _ | refine blk_drew ?_ | refine blk_alloc ?_ _)); exact BKq.out) hb)); clear HB BKq; have HB := n0_; have BKq := n1_; clear n0_ n1_ hb))
  go_loopw [10] (fun v10 w' => ∃ (k : Nat) (bt : Value) (s : DS) (X : List Int), k ≤ 40 ∧ v10 = .int .i64 k ∧ Aside0 (Rep B w' gd ga gh 64 bt s) ∧ Aside0 (PI S but XX k s X) ∧ Aside0 (w'.heap[gq]? = some (.cells (bcells X) 38 (0, 0))) ∧ Aside0 (w'.heap[gr]? = some (.cells (bcells (zerosN 8)) 38 (0, 0))) ∧ Aside0 (Below B w w') ∧ Aside0 (Fr w w')) (fun v10 _ => 40 - (intOf v10).toNat)
  case atStart => exact ⟨0, bt, s, X, Nat.zero_le _, rfl, ⟨RR.out.below HB.out⟩, HPI, BKq, BKr, ⟨below_of_le HBS.out HB.out⟩, ⟨Fr.below HB.out⟩⟩
  case round =>
    clear RR HPI HB BKq BKr
    obtain ⟨k, bt, s, X', hk, rfl, RR, HPI, BKq, BKr, HX, FR⟩ := hrel
    have LX := Aside0.mk HPI.out.lx
    by_cases hlt : k < 40
    · have hkl : k < l.length := by have := HM.out; omega
      have k0 : (0 : Int) ≤ (k : Int) := Int.natCast_nonneg k
      have k1 : (k : Int) < (l.length : Int) := by omega
      have kM : (k : Int) < 40 := by omega
      have k3 : wrap64 ((k : Int) + 1) = (k : Int) + 1 := by unfold wrap64; have := HM.out; omega
      obtain ⟨x, hx⟩ : ∃ x, l[k]? = some x := ⟨_, List.getElem?_eq_getElem hkl⟩
      obtain ⟨al, ea, hb64, _⟩ := put_at (HP.out wr HX.out) k x hx
      cases ea
      have hx0 := HWF.out x (List.mem_of_getElem? hx)
      obtain ⟨hc0, hrg⟩ := put_rng (HP.out wr HX.out) k x hx
      obtain ⟨xn, xb⟩ := x
      have HK := Aside0.mk hx
      obtain ⟨j, hj⟩ : ∃ j : Nat, (j : Int) = xn % 8 := ⟨(xn % 8).toNat, by have := hx0.1; simp only at this; omega⟩
      have HJ8 := Aside0.mk (show j < 8 by omega)
      have HJ := Aside0.mk (show j < 64 by omega)
      have LB := Aside0.mk (show xb.length = 64 from hb64)
      have RG := Aside0.mk (show wr.rangeAt (al.add (k * 65)).block ((al.add (k * 65)).off + 1) (encs (Value.int .u8) xb) from hrg)
      have xc : wr.cell? (al.add (k * 65)) = some (.int .u8 xn) := hc0
      have n1 : IntKind.i64.wrap xn = xn := wrap_u8 hx0.1 hx0.2
      have n2 : Int.tmod xn 8 = (j : Int) := by rw [Int.tmod_eq_emod_of_nonneg hx0.1]; exact hj.symm
      have j0 : (0 : Int) ≤ (j : Int) := Int.natCast_nonneg j
      have j1 : (j : Int) < 8 := by have := HJ8.out; omega
      have NI := Aside0.mk HPI.out.ni
      have AL := Aside0.mk (show s.al ≠ 1 from by rw [HPI.out.al]; decide)
      have ST := Aside0.mk (show s.st < 4611686018427387904 from by have := HPI.out.st; have := HSS.out; have := HM.out; omega)
      have HL := Aside0.mk (show (s.btw.length + 1) * 72 ≤ 140737488355328 from by have := HPI.out.len; have := HM.out; omega)
      have HLA := Aside0.mk RR.out.la
      have HLH := Aside0.mk RR.out.lh
      have HOK := Aside0.mk RR.out.ok
      clear hx hb64 hrg hc0 hx0 hj hkl
      by_cases hbt : (j : Int) = but
      · have q1 : ((j : Int) == but) = true := by simpa using hbt
        clear hbt
        go_wp2
        exact ⟨⟨k + 1, bt, s, X', hlt, by first | rfl | (rw [Int.natCast_add]; rfl) | (rw [k3, Int.natCast_add]; rfl), RR, ⟨HPI.out.next⟩, BKq, BKr, HX, FR⟩, by (try rw [k3]); show 40 - ((k : Int) + 1).toNat < 40 - ((k : Int)).toNat; omega⟩
      · have q1 : ((j : Int) == but) = false := by simpa using hbt
        have HBT := Aside0.mk hbt
        clear hbt
        go_wp2_with (first
          | ((with_reducible refine gate_dst (N := 35) rfl ?_); refine wpList_load_blk rfl (.tmp 34) rfl (al.add (k * 65)).block ((al.add (k * 65)).off + 1) rfl xb LB.out RG.out ?_)
          | (go_at_call 10; with_reducible refine (Write.ok _ B gd ga gh 64 bt s RR.out NI.out AL.out ST.out HL.out j HJ.out xb LB.out).mono ?_; rintro e' w5 ⟨rfl, bt5, r5, hb5, hf5⟩; have R5 := Aside0.mk r5; have HX5 := Aside0.mk (HX.out.trans hb5); have FR5 := Aside0.mk (FR.out.trans hf5); have Bq5 := Aside0.mk (Fr.get hf5 BKq.out (by decide) (by decide) (by decide)); have Br5 := Aside0.mk (Fr.get hf5 BKr.out (by decide) (by decide) (by decide)); clear RG BKq BKr RR HX FR r5 hb5 hf5; have RG := Aside0.mk (put_rng (HP.out w5 HX5.out) k (xn, xb) HK.out).2)
          | ((with_reducible refine gate_dst (N := 44) rfl ?_); refine wpList_load_blk rfl (.tmp 43) rfl (al.add (k * 65)).block ((al.add (k * 65)).off + 1) rfl xb LB.out RG.out ?_)
          | (refine wpList_store_blk rfl (.tmp 45) (.tmp 44) rfl gq (j * 64) rfl xb LB.out rfl X' 38 Bq5.out (by rw [LX.out]; have := HJ8.out; omega) B HX5.out (Nat.le_trans HBS.out Gq.out) ?_; intro w6 h1 h2 h3; have Bq6 := Aside0.mk h1; have O6 := Aside0.mk (show ∀ k, k ≠ gq → w6.heap[k]? = w5.heap[k]? from h2.out); have HX6 := Aside0.mk h3; clear h1 h2 h3))
        have R6 := Aside0.mk (R5.out.far Bq5.out (by decide) (by decide) (by decide) O6.out)
        have FR6 := Aside0.mk (FR5.out.far Gq.out O6.out)
        have Br6 := Aside0.mk ((O6.out gr NEqr.out.symm).trans Br5.out)
        exact ⟨⟨k + 1, bt5, _, splice X' (j * 64) xb, hlt, by first | rfl | (rw [Int.natCast_add]; rfl) | (rw [k3, Int.natCast_add]; rfl), R6, ⟨HPI.out.write HLA.out HLH.out HOK.out j HJ8.out xb LB.out HBT.out⟩, Bq6, Br6, HX6, FR6⟩, by (try rw [k3]); show 40 - ((k : Int) + 1).toNat < 40 - ((k : Int)).toNat; omega⟩
    · have hin : k = 40 := by omega
      subst hin
      have kM : decide (((40 : Nat) : Int) < 40) = false := decide_eq_false (by omega)
      go_wp2_with (first
        | ((with_reducible refine gate_dst (N := 46) rfl ?_); refine wpList_load_row rfl 38 (.tmp 7) rfl gq rfl 38 (bcells X') (0, 0) _ BKq.out Try.underlying38 rfl (size38 _ LX.out) ?_)
        | (refine wpList_store_row rfl 38 (.tmp 8) (.tmp 46) rfl gr (bcells X') rfl (by rfl) 38 (bcells (zerosN 8)) BKr.out (size38 _ LX.out) (by rw [bcells_size, bcells_size, LX.out]; rfl) (bcells_all _) ?_; have n0 := Aside0.mk (below_setRow (show Below B w _ from HX.out) (show B ≤ gr from Nat.le_trans HBS.out Gr.out) (bcells X')); have n1 := Aside0.mk (setRow_heap _ _ _ (bcells X') _ _ BKr.out); have n2 := Aside0.mk (RR.out.far BKr.out (by decide) (by decide) (by decide) (fun k hk => setRow_other _ gr k (bcells X') hk)); have n3 := Aside0.mk (FR.out.far Gr.out (fun k hk => setRow_other _ gr k (bcells X') hk)); generalize World.setRow _ _ _ = w9 at n0 n1 n2 n3))
      refine bodyPost_ret (results_ct rfl _ _ gr 38 (bcells X') (0, 0) _ rfl n1.out Try.underlying38 rfl (size38 _ LX.out)) rfl ?_
      exact ⟨X', rfl, ⟨bt, s, _, by have := HM.out; omega, n2.out, by rw [← EXX.out]; exact HPI.out⟩, n0.out, n3.out⟩

theorem puts.calls (w : World) (B gd ga gh : Nat) (bt : Value) (s : DS) (r : Rep B w gd ga gh 64 bt s) (A : Option Addr) (c : Nat) (l : List (Int × List Int)) (hr : ∀ w', Below B w w' → kPut.C w' A l.length l) (hwf : ∀ x ∈ l, 0 ≤ x.1 ∧ x.1 < 256) (S but : Int) (hS0 : 0 ≤ S) (hS : S ≤ 1000) (X : List Int) (hp : PI S but X 0 s X) :
    Calls Try.prog 15 #[.pointer (some ⟨gd, 0, none⟩), .slice A l.length c, .int .i64 but, .agg (bcells X)] w fun e' w' => ∃ X', e' = .returned (.tuple #[.agg (bcells X'), .bool true]) ∧ (∃ bt' s' k, k ≤ 40 ∧ Rep B w' gd ga gh 64 bt' s' ∧ PI S but X k s' X') ∧ Below B w w' ∧ Fr w w' := by
  by_cases h : l.length ≤ 40
  · exact puts.calls0 w B gd ga gh bt s r A c l hr hwf S but hS0 hS X hp h
  · exact puts.calls1 w B gd ga gh bt s r A c l hr hwf S but hS0 hS X hp (by omega)
end Go.Proofs.Ytlnfdhcpnbhkdaa.GA
