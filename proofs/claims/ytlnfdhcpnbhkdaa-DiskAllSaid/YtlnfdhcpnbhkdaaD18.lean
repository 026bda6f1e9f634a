/- Blocks in memory: loads, stores and copies of 64 bytes. No condition. -/
import Derived.Test.YtlnfdhcpnbhkdaaD17
import Derived.Laws.CopyOwn
import Derived.ChangeKeysEq
import Derived.Deep.RegionHeld3
import Derived.Deep.MidRow
namespace Go.Proofs.Ytlnfdhcpnbhkdaa.GA
open Go.RowKit Go.Proofs.YtlnfdhcpnbhkdaaW.PrintWords Go.Proofs.YtlnfdhcpnbhkdaaW.PrintLast Go.Proofs.YtlnfdhcpnbhkdaaW.PrintMore
set_option linter.unusedVariables false
set_option linter.unusedSimpArgs false


theorem built38 : Try.prog.built 38 [] = some (bcells (zerosN 8)) := by
  cases hq : Try.prog.info? 38 with
  | none => have := zero38; rw [hq] at this; cases this
  | some i =>
    have hz : i.zero = some (.agg (bcells (zerosN 8))) := by have := zero38; rw [hq] at this; simpa using this
    have h29 : (Try.prog.info? 29).isSome = true := by kernel_rfl
    obtain ⟨i2, h29⟩ := Option.isSome_iff_exists.1 h29
    unfold Program.built
    rw [hq, Try.underlying38]
    simp only [hz, h29]
    rfl
theorem wpList_build38 {ops : Array Oper} {rest : List Oper} {o : Oper} {a : Act} {Q : Exit → Act → World → Prop} {w : World} (hgd : o.guard = none) (ho : o.op = .build 38 #[])
    (h : wpList Try.prog ops Q rest (a.put o.dst (.agg (bcells (zerosN 8)))) w) : wpList Try.prog ops Q (o :: rest) a w := by
  refine wpList_plain hgd fun K hK => ?_
  have hr := run_build w 38 #[] (bcells (zerosN 8)) built38
  unfold Oper.wp execOp
  simp only [ho, Sem.run_bind]
  have e : (#[] : Array (Nat × Operand)).map (fun (i, x) => (i, a.eval x)) = #[] := by simp
  rw [e, hr]
  simp only [Result.andThen_ok, Sem.run_pure]
  exact hK _ _ h
theorem Loose.R0 (w : World) (B gd ga gh n : Nat) (s : DS) (r : Rep B w gd ga gh n (.slice none 0 0) s) : Calls Try.prog 16 #[.pointer (some ⟨gd, 0, none⟩)] w fun e w' => e = .returned (.int .i64 0) ∧ w' = w := Loose.row w gd _ _ n n none 0 0 s.al s.st s.ni r.d
theorem blk_zeros (n j : Nat) (hj : j < n) : blkAt (zerosN n) j = List.replicate 64 0 := by
  unfold blkAt zerosN
  rw [List.drop_replicate, List.take_replicate]
  congr 1
  omega
def s0 : DS := ⟨zerosN 64, zerosN 64, [], 0, 0, false⟩
theorem s0_eq : (⟨zerosN 64, zerosN 64, [], 0, 0, false⟩ : DS) = s0 := rfl
theorem PI.start (but : Int) : PI 0 but (zerosN 8) 0 s0 (zerosN 8) := ⟨rfl, rfl, Int.le_refl 0, Nat.le_refl 0, zerosN_len 8, fun j hj => (blk_zeros 64 j (by omega)).trans (blk_zeros 8 j hj).symm, fun _ _ _ => rfl, fun x hx => absurd hx (by simp [s0]), fun _ _ _ => rfl, fun _ _ => rfl, fun j hj => (blk_zeros 64 j (by omega)).trans (blk_zeros 8 j hj).symm⟩
theorem PI.again {S but : Int} {X0 : List Int} {k : Nat} {s : DS} {X : List Int} (p : PI S but X0 k s X) (la : s.asked.length = 64 * 64) (lh : s.held.length = 64 * 64) (ok : ∀ x ∈ s.btw, 0 ≤ x.1 ∧ x.1 < 64) (hk : k ≤ 40) (but' : Int) : PI (S + 41) but' X 0 (s.flush (nextAl s.al)) X := by
  obtain ⟨h1, h2, h3, h4, h5⟩ := p.flush la lh ok hk
  exact ⟨h2, h3, by show (s.flush (nextAl s.al)).st ≤ S + 41 + ((0 : Nat) : Int); omega, Nat.zero_le _, p.lx, h5, fun j hj _ => h1 j hj, fun x hx => absurd hx (by simp [DS.flush]), fun _ _ _ => rfl, fun j hj => (h1 j hj).symm, fun j hj => (h1 j (by omega)).trans (h5 j hj)⟩


theorem held_after {S : Int} {q : Nat} {X1 : List Int} {k : Nat} {s : DS} {X : List Int} (p : PI S (q : Int) X1 k s X) {B : Nat} {w : World} {gd ga gh : Nat} {bt : Value} (r : Rep B w gd ga gh 64 bt s) (l : List Int) (h8 : q < 8) : blkAt (s.crash l).held q = blkAt X1 q := by
  have h1 := (crash_blk s.held s.btw l r.lh r.ok q (by omega) p.out s.btw.length (Nat.le_refl _)).2
  show blkAt (crashTo s.held s.btw l s.btw.length) q = _
  rw [h1, p.sync q (by omega) p.out, p.tell q h8, p.keep q h8 rfl]

theorem asked_after {S : Int} {q : Nat} {X1 : List Int} {k : Nat} {s : DS} {X : List Int} (p : PI S (q : Int) X1 k s X) {B : Nat} {w : World} {gd ga gh : Nat} {bt : Value} (r : Rep B w gd ga gh 64 bt s) (l : List Int) (h8 : q < 8) : blkAt (s.crash l).asked q = blkAt X1 q := held_after p r l h8
theorem crash_ni (s : DS) (p : List Int) : (s.crash p).ni = false := rfl


theorem Sure.is (w : World) (B gd ga gh : Nat) (bt : Value) (s : DS) (r : Rep B w gd ga gh 64 bt s) (i : Nat) (hi : i < 64) (Y : List Int) (h : blkAt s.held i = Y) :
    Calls Try.prog 18 #[.pointer (some ⟨gd, 0, none⟩), .int .i64 (i : Int)] w fun e w' => e = .returned (.tuple #[.agg (bcells Y), .int .i64 0]) ∧ Below w.heap.size w w' := by
  subst h
  exact Sure.ok w gd _ gh 64 bt s.al s.st s.ni r.d s.held r.h r.lh i hi
theorem Read.is (w : World) (B gd ga gh : Nat) (bt : Value) (s : DS) (r : Rep B w gd ga gh 64 bt s) (hni : s.ni = false) (i : Nat) (hi : i < 64) (Y : List Int) (h : blkAt s.asked i = Y) :
    Calls Try.prog 19 #[.pointer (some ⟨gd, 0, none⟩), .int .i64 (i : Int)] w fun e w' => e = .returned (.tuple #[.agg (bcells Y), .int .i64 0]) ∧ Below w.heap.size w w' := by
  subst h
  have hd := r.d
  rw [hni] at hd
  exact Read.ok w gd ga _ 64 64 bt s.al s.st hd s.asked r.a r.la i hi

set_option maxHeartbeats 16000000 in
set_option maxRecDepth 100000 in
theorem diskSure.calls (w : World) (A0 : Option Addr) (c0 : Nat) (l0 : List (Int × List Int)) (A1 : Option Addr) (c1 : Nat) (l1 : List (Int × List Int)) (a : Int) (A3 : Option Addr) (c3 : Nat) (p3 : List Int) (h0 : kPut.C w A0 l0.length l0) (w0 : ∀ x ∈ l0, 0 ≤ x.1 ∧ x.1 < 256) (h1 : kPut.C w A1 l1.length l1) (w1 : ∀ x ∈ l1, 0 ≤ x.1 ∧ x.1 < 256) (ha0 : 0 ≤ a) (ha1 : a < 256) (h3 : Kd.C (Kd.int .i64) w A3 p3.length p3) :
    Calls Try.prog 4 #[.slice A0 l0.length c0, .slice A1 l1.length c1, .int .u8 a, .slice A3 p3.length c3] w fun e' w' => e' = .returned (.bool true) ∧ Below w.heap.size w w' := by
  have HP0 := Aside0.mk h0
  have HP1 := Aside0.mk h1
  have HP3 := Aside0.mk h3
  have HW0 := Aside0.mk w0
  have HW1 := Aside0.mk w1
  obtain ⟨q, hq⟩ : ∃ q : Nat, (q : Int) = a % 8 := ⟨(a % 8).toNat, by omega⟩
  have HQ8 := Aside0.mk (show q < 8 by omega)
  have HQ := Aside0.mk (show q < 64 by omega)
  have eW : IntKind.i64.wrap a = a := wrap_u8 ha0 ha1
  have eQ : Int.tmod a 8 = (q : Int) := by rw [Int.tmod_eq_emod_of_nonneg ha0]; exact hq.symm
  have q0 : (0 : Int) ≤ (q : Int) := Int.natCast_nonneg q
  have q1 : (q : Int) < 8 := by omega
  have LYF := Aside0.mk (show ∀ X : List Int, X.length = 8 * 64 → (blkAt X q).length = 64 from fun X hX => blkAt_len X q 8 hX HQ8.out)
  clear h0 h1 h3 w0 w1 ha0 ha1 hq
  go_enter Try.func4, Try.ntmps4
  go_upto_region 13 with (first
    | (go_at_call 8; with_reducible refine (New.ok64 _).mono ?_; rintro e' w1 ⟨gd, rfl, ⟨ga, gh, r⟩, hb⟩; rw [s0_eq] at r; have RA := Aside0.mk r; have HB := Aside0.mk hb; clear r hb)
    | ((with_reducible refine gate_dst (N := 29) rfl ?_); refine wpList_build38 rfl rfl ?_)
    | (go_at_call 15; first | (with_reducible refine (puts.calls _ _ gd ga gh _ _ RC.out A1 c1 l1 ((fun w' hw => Kd.C_below HP1.out (HB.out.trans hw))) HW1.out (0 + 41) (q : Int) (by decide) (by decide) X1 (P2.out.again RB0.out.1 RB0.out.2.1 RB0.out.2.2 HK2.out (q : Int))).mono ?_; rintro e' w4 ⟨X2, rfl, ⟨bt4, s4, k4, hk4, r4, p4⟩, hb, hf⟩; have RD := Aside0.mk r4; have P4 := Aside0.mk p4; have HK4 := Aside0.mk hk4; have n0 := Aside0.mk (HB.out.trans hb); have n1 := Aside0.mk (Fr.get hf BKe.out (by decide) (by decide) (by decide)); clear HB BKe RC r4 p4 hk4 hb hf; have HB := n0; have BKe := n1; clear n0 n1) | (with_reducible refine (puts.calls _ _ gd ga gh _ s0 RA.out A0 c0 l0 ((fun w' hw => Kd.C_below HP0.out (HB.out.trans hw))) HW0.out 0 8 (Int.le_refl 0) (by decide) (zerosN 8) (PI.start 8)).mono ?_; rintro e' w2 ⟨X1, rfl, ⟨bt2, s2, k2, hk2, r2, p2⟩, hb, hf⟩; have RB := Aside0.mk r2; have P2 := Aside0.mk p2; have HK2 := Aside0.mk hk2; have LX1 := Aside0.mk p2.lx; have LY := Aside0.mk (LYF.out X1 p2.lx); have n0 := Aside0.mk (HB.out.trans hb); have HE := Aside0.mk (Below.refl w2.heap.size w2); clear HB RA r2 p2 hk2 hb hf; have HB := n0; clear n0))
    | ((with_reducible refine gate_dst (N := 12) rfl ?_); refine box_event ?hg (N := 12) ?hd (cs := bcells (zerosN 8)) (t := 38) ?hr ?_; (case hd => rfl); (case hg => rfl); (case hr => exact alloc38_run rfl _); intro ge hg w1e hbox hb; have Ge := Aside0.mk (show w.heap.size ≤ ge from by rw [hg]; exact below_size (by repeat (first | (with_reducible first | exact HB.out | apply below_alloc | apply pw_below_drewN | apply below_drew1) | exact HB.out))); have Ee := Aside0.mk (show w2.heap.size ≤ ge from by rw [hg]; exact below_size (by repeat (first | (with_reducible first | exact HE.out | apply below_alloc | apply pw_below_drewN | apply below_drew1) | exact HE.out))); have BKe := Aside0.mk hbox; clear hbox hg; have n0_ := Aside0.mk (below_step (by repeat (first | (with_reducible first | exact HB.out | apply below_alloc | apply pw_below_drewN | apply below_drew1) | exact HB.out)) hb); have n1_ := Aside0.mk (below_step (by repeat (first | (with_reducible first | exact HE.out | apply below_alloc | apply pw_below_drewN | apply below_drew1) | exact HE.out)) hb); clear HB HE; have HB := n0_; have HE := n1_; clear n0_ n1_ hb)
    | (refine wpList_store_row rfl 38 (.tmp 12) (.tmp 31) rfl ge (bcells X1) rfl (by rfl) 38 (bcells (zerosN 8)) (by (with_reducible repeat (first | refine blk_drewN ?_ _ | refine blk_drew ?_ | refine blk_alloc ?_ _)); exact BKe.out) (size38 _ LX1.out) (by rw [bcells_size, bcells_size, LX1.out]; rfl) (bcells_all _) ?_; have n0 := Aside0.mk (below_setRow (show Below w.heap.size w _ from by repeat (first | (with_reducible first | exact HB.out | apply below_alloc | apply pw_below_drewN | apply below_drew1) | exact HB.out)) (show w.heap.size ≤ ge from Ge.out) (bcells X1)); have n5 := Aside0.mk (below_setRow (show Below w2.heap.size w2 _ from by repeat (first | (with_reducible first | exact HE.out | apply below_alloc | apply pw_below_drewN | apply below_drew1) | exact HE.out)) (show w2.heap.size ≤ ge from Ee.out) (bcells X1)); have n1 := Aside0.mk (setRow_heap _ _ _ (bcells X1) _ _ (by (with_reducible repeat (first | refine blk_drewN ?_ _ | refine blk_drew ?_ | refine blk_alloc ?_ _)); exact BKe.out)); generalize World.setRow _ _ _ = w3 at n0 n1 n5; clear HB HE BKe; have HB := n0; have HE := n5; have BKe := n1; have RB0 := Aside0.mk (show s2.asked.length = 64 * 64 ∧ s2.held.length = 64 * 64 ∧ ∀ x ∈ s2.btw, 0 ≤ x.1 ∧ x.1 < 64 from ⟨RB.out.la, RB.out.lh, fun x hx => ⟨(RB.out.ok x hx).1, (RB.out.ok x hx).2.1⟩⟩); clear n0 n1 n5)
    | (go_at_call 11; with_reducible refine (Flush.ok _ _ gd ga gh 64 _ s2 (RB.out.below (by repeat (first | (with_reducible first | exact HE.out | apply below_alloc | apply pw_below_drewN | apply below_drew1) | exact HE.out))) P2.out.ni (by rw [P2.out.al]; decide) (by have := P2.out.st; have := HK2.out; omega) (by have := P2.out.len; have := HK2.out; omega)).mono ?_; rintro e' w5 ⟨rfl, r, hb, hf⟩; have RC := Aside0.mk r; have n0 := Aside0.mk (HB.out.trans hb); have n1 := Aside0.mk (Fr.get hf BKe.out (by decide) (by decide) (by decide)); clear HB BKe HE RB r hb hf; have HB := n0; have BKe := n1; clear n0 n1)
    | (go_at_call 16; with_reducible refine (Loose.R0 _ _ gd ga gh 64 _ RC.out).mono ?_; rintro e' w' ⟨rfl, hw⟩; subst w')
    | ((with_reducible refine gate_dst (N := 49) rfl ?_); refine wpList_load_row rfl 38 (.tmp 12) rfl ge rfl 38 (bcells X1) (0, 0) _ (by (with_reducible repeat (first | refine blk_drewN ?_ _ | refine blk_drew ?_ | refine blk_alloc ?_ _)); exact BKe.out) Try.underlying38 rfl (size38 _ LX1.out) ?_)
    | (go_at_call 17; with_reducible refine (Crash.calls _ _ gd ga gh 64 _ s4 RD.out A3 c3 p3 (by have := P4.out.len; have := HK4.out; omega) (fun w' hw _ => Kd.C_below HP3.out (HB.out.trans hw))).mono ?_; rintro e' wc ⟨rfl, r, hb, hf⟩; have RE := Aside0.mk r; have HELD := Aside0.mk (held_after P4.out RD.out p3 HQ8.out); have HASK := Aside0.mk (asked_after P4.out RD.out p3 HQ8.out); have HNI := Aside0.mk (crash_ni s4 p3); have n0 := Aside0.mk (HB.out.trans hb); have n1 := Aside0.mk (Fr.get hf BKe.out (by decide) (by decide) (by decide)); have HE := Aside0.mk (Below.refl wc.heap.size wc); clear HB BKe RD r hb hf; have HB := n0; have BKe := n1; clear n0 n1)
    | (go_at_call 18; with_reducible refine (Sure.is _ _ gd ga gh _ _ (RE.out.below (by repeat (first | (with_reducible first | exact HE.out | apply below_alloc | apply pw_below_drewN | apply below_drew1) | exact HE.out))) q HQ.out (blkAt X1 q) HELD.out).mono ?_; rintro e' w' ⟨rfl, hb⟩; have n0_ := Aside0.mk (below_step (by repeat (first | (with_reducible first | exact HB.out | apply below_alloc | apply pw_below_drewN | apply below_drew1) | exact HB.out)) hb); have n1_ := Aside0.mk (below_step (by repeat (first | (with_reducible first | exact HE.out | apply below_alloc | apply pw_below_drewN | apply below_drew1) | exact HE.out)) hb); (first | have n2_ := Aside0.mk (blk_below BKe.out hb) | have n2_ := Aside0.mk (blk_below (blk_drewN BKe.out _) hb) | have n2_ := Aside0.mk (blk_below (blk_drew BKe.out) hb) | have n2_ := Aside0.mk (blk_below (blk_alloc BKe.out _) hb) | have n2_ := Aside0.mk (blk_below (by (with_reducible repeat (first | refine blk_drewN ?_ _ | refine blk_drew ?_ | refine blk_alloc ?_ _)); exact BKe.out) hb)); clear HB HE BKe; have HB := n0_; have HE := n1_; have BKe := n2_; clear n0_ n1_ n2_ hb)
    | ((with_reducible refine gate_dst (N := 14) rfl ?_); refine box_event ?hg (N := 14) ?hd (cs := bcells zero64) (t := 29) ?hr ?_; (case hd => rfl); (case hg => rfl); (case hr => exact alloc29_run rfl _); intro gf hg w1f hbox hb; have Gf := Aside0.mk (show w.heap.size ≤ gf from by rw [hg]; exact below_size (by repeat (first | (with_reducible first | exact HB.out | apply below_alloc | apply pw_below_drewN | apply below_drew1) | exact HB.out))); have NEef := Aside0.mk (show ge ≠ gf from by rw [hg]; exact Nat.ne_of_lt (blk_lt (by (with_reducible repeat (first | refine blk_drewN ?_ _ | refine blk_drew ?_ | refine blk_alloc ?_ _)); exact BKe.out))); have Ef := Aside0.mk (show wc.heap.size ≤ gf from by rw [hg]; exact below_size (by repeat (first | (with_reducible first | exact HE.out | apply below_alloc | apply pw_below_drewN | apply below_drew1) | exact HE.out))); have BKf := Aside0.mk hbox; clear hbox hg; have n0_ := Aside0.mk (below_step (by repeat (first | (with_reducible first | exact HB.out | apply below_alloc | apply pw_below_drewN | apply below_drew1) | exact HB.out)) hb); have n1_ := Aside0.mk (below_step (by repeat (first | (with_reducible first | exact HE.out | apply below_alloc | apply pw_below_drewN | apply below_drew1) | exact HE.out)) hb); (first | have n2_ := Aside0.mk (blk_below BKe.out hb) | have n2_ := Aside0.mk (blk_below (blk_drewN BKe.out _) hb) | have n2_ := Aside0.mk (blk_below (blk_drew BKe.out) hb) | have n2_ := Aside0.mk (blk_below (blk_alloc BKe.out _) hb) | have n2_ := Aside0.mk (blk_below (by (with_reducible repeat (first | refine blk_drewN ?_ _ | refine blk_drew ?_ | refine blk_alloc ?_ _)); exact BKe.out) hb)); clear HB HE BKe; have HB := n0_; have HE := n1_; have BKe := n2_; clear n0_ n1_ n2_ hb)
    | (refine wpList_store_row rfl 29 (.tmp 14) (.tmp 65) rfl gf (bcells (blkAt X1 q)) rfl (by rfl) 29 (bcells zero64) (by (with_reducible repeat (first | refine blk_drewN ?_ _ | refine blk_drew ?_ | refine blk_alloc ?_ _)); exact BKf.out) (seal_size _ LY.out) (by rw [bcells_size, bcells_size, LY.out]; rfl) (bcells_all _) ?_; have n5 := Aside0.mk (below_setRow (show Below wc.heap.size wc _ from by repeat (first | (with_reducible first | exact HE.out | apply below_alloc | apply pw_below_drewN | apply below_drew1) | exact HE.out)) (show wc.heap.size ≤ gf from Ef.out) (bcells (blkAt X1 q))); have n0 := Aside0.mk (below_setRow (show Below w.heap.size w _ from by repeat (first | (with_reducible first | exact HB.out | apply below_alloc | apply pw_below_drewN | apply below_drew1) | exact HB.out)) (show w.heap.size ≤ gf from Gf.out) (bcells (blkAt X1 q))); have n1 := Aside0.mk (setRow_heap _ _ _ (bcells (blkAt X1 q)) _ _ (by (with_reducible repeat (first | refine blk_drewN ?_ _ | refine blk_drew ?_ | refine blk_alloc ?_ _)); exact BKf.out)); have ke := Aside0.mk ((setRow_other _ gf ge (bcells (blkAt X1 q)) NEef.out).trans (by (with_reducible repeat (first | refine blk_drewN ?_ _ | refine blk_drew ?_ | refine blk_alloc ?_ _)); exact BKe.out)); generalize World.setRow _ _ _ = w7 at n0 n1 n5 ke; clear HE HB BKf BKe; have HB := n0; have HE := n5; have BKf := n1; have BKe := ke; clear ke; clear n0 n1 n5)
    | (go_at_call 19; with_reducible refine (Read.is _ _ gd ga gh _ _ (RE.out.below (by repeat (first | (with_reducible first | exact HE.out | apply below_alloc | apply pw_below_drewN | apply below_drew1) | exact HE.out))) HNI.out q HQ.out (blkAt X1 q) HASK.out).mono ?_; rintro e' w' ⟨rfl, hb⟩; have n0_ := Aside0.mk (below_step (by repeat (first | (with_reducible first | exact HB.out | apply below_alloc | apply pw_below_drewN | apply below_drew1) | exact HB.out)) hb); have n1_ := Aside0.mk (below_step (by repeat (first | (with_reducible first | exact HE.out | apply below_alloc | apply pw_below_drewN | apply below_drew1) | exact HE.out)) hb); (first | have n2_ := Aside0.mk (blk_below BKe.out hb) | have n2_ := Aside0.mk (blk_below (blk_drewN BKe.out _) hb) | have n2_ := Aside0.mk (blk_below (blk_drew BKe.out) hb) | have n2_ := Aside0.mk (blk_below (blk_alloc BKe.out _) hb) | have n2_ := Aside0.mk (blk_below (by (with_reducible repeat (first | refine blk_drewN ?_ _ | refine blk_drew ?_ | refine blk_alloc ?_ _)); exact BKe.out) hb)); (first | have n3_ := Aside0.mk (blk_below BKf.out hb) | have n3_ := Aside0.mk (blk_below (blk_drewN BKf.out _) hb) | have n3_ := Aside0.mk (blk_below (blk_drew BKf.out) hb) | have n3_ := Aside0.mk (blk_below (blk_alloc BKf.out _) hb) | have n3_ := Aside0.mk (blk_below (by (with_reducible repeat (first | refine blk_drewN ?_ _ | refine blk_drew ?_ | refine blk_alloc ?_ _)); exact BKf.out) hb)); clear HB HE BKe BKf; have HB := n0_; have HE := n1_; have BKe := n2_; have BKf := n3_; clear n0_ n1_ n2_ n3_ hb)
    | ((with_reducible refine gate_dst (N := 15) rfl ?_); refine box_event ?hg (N := 15) ?hd (cs := bcells zero64) (t := 29) ?hr ?_; (case hd => rfl); (case hg => rfl); (case hr => exact alloc29_run rfl _); intro gg hg w1g hbox hb; have Gg := Aside0.mk (show w.heap.size ≤ gg from by rw [hg]; exact below_size (by repeat (first | (with_reducible first | exact HB.out | apply below_alloc | apply pw_below_drewN | apply below_drew1) | exact HB.out))); have NEeg := Aside0.mk (show ge ≠ gg from by rw [hg]; exact Nat.ne_of_lt (blk_lt (by (with_reducible repeat (first | refine blk_drewN ?_ _ | refine blk_drew ?_ | refine blk_alloc ?_ _)); exact BKe.out))); have NEfg := Aside0.mk (show gf ≠ gg from by rw [hg]; exact Nat.ne_of_lt (blk_lt (by (with_reducible repeat (first | refine blk_drewN ?_ _ | refine blk_drew ?_ | refine blk_alloc ?_ _)); exact BKf.out))); have Eg := Aside0.mk (show wc.heap.size ≤ gg from by rw [hg]; exact below_size (by repeat (first | (with_reducible first | exact HE.out | apply below_alloc | apply pw_below_drewN | apply below_drew1) | exact HE.out))); have BKg := Aside0.mk hbox; clear hbox hg; have n0_ := Aside0.mk (below_step (by repeat (first | (with_reducible first | exact HB.out | apply below_alloc | apply pw_below_drewN | apply below_drew1) | exact HB.out)) hb); have n1_ := Aside0.mk (below_step (by repeat (first | (with_reducible first | exact HE.out | apply below_alloc | apply pw_below_drewN | apply below_drew1) | exact HE.out)) hb); (first | have n2_ := Aside0.mk (blk_below BKe.out hb) | have n2_ := Aside0.mk (blk_below (blk_drewN BKe.out _) hb) | have n2_ := Aside0.mk (blk_below (blk_drew BKe.out) hb) | have n2_ := Aside0.mk (blk_below (blk_alloc BKe.out _) hb) | have n2_ := Aside0.mk (blk_below (by (with_reducible repeat (first | refine blk_drewN ?_ _ | refine blk_drew ?_ | refine blk_alloc ?_ _)); exact BKe.out) hb)); (first | have n3_ := Aside0.mk (blk_below BKf.out hb) | have n3_ := Aside0.mk (blk_below (blk_drewN BKf.out _) hb) | have n3_ := Aside0.mk (blk_below (blk_drew BKf.out) hb) | have n3_ := Aside0.mk (blk_below (blk_alloc BKf.out _) hb) | have n3_ := Aside0.mk (blk_below (by (with_reducible repeat (first | refine blk_drewN ?_ _ | refine blk_drew ?_ | refine blk_alloc ?_ _)); exact BKf.out) hb)); clear HB HE BKe BKf; have HB := n0_; have HE := n1_; have BKe := n2_; have BKf := n3_; clear n0_ n1_ n2_ n3_ hb)
    | (refine wpList_store_row rfl 29 (.tmp 15) (.tmp 71) rfl gg (bcells (blkAt X1 q)) rfl (by rfl) 29 (bcells zero64) (by (with_reducible repeat (first | refine blk_drewN ?_ _ | refine blk_drew ?_ | refine blk_alloc ?_ _)); exact BKg.out) (seal_size _ LY.out) (by rw [bcells_size, bcells_size, LY.out]; rfl) (bcells_all _) ?_; have n5 := Aside0.mk (below_setRow (show Below wc.heap.size wc _ from by repeat (first | (with_reducible first | exact HE.out | apply below_alloc | apply pw_below_drewN | apply below_drew1) | exact HE.out)) (show wc.heap.size ≤ gg from Eg.out) (bcells (blkAt X1 q))); have n0 := Aside0.mk (below_setRow (show Below w.heap.size w _ from by repeat (first | (with_reducible first | exact HB.out | apply below_alloc | apply pw_below_drewN | apply below_drew1) | exact HB.out)) (show w.heap.size ≤ gg from Gg.out) (bcells (blkAt X1 q))); have n1 := Aside0.mk (setRow_heap _ _ _ (bcells (blkAt X1 q)) _ _ (by (with_reducible repeat (first | refine blk_drewN ?_ _ | refine blk_drew ?_ | refine blk_alloc ?_ _)); exact BKg.out)); have ke := Aside0.mk ((setRow_other _ gg ge (bcells (blkAt X1 q)) NEeg.out).trans (by (with_reducible repeat (first | refine blk_drewN ?_ _ | refine blk_drew ?_ | refine blk_alloc ?_ _)); exact BKe.out)); have kf := Aside0.mk ((setRow_other _ gg gf (bcells (blkAt X1 q)) NEfg.out).trans (by (with_reducible repeat (first | refine blk_drewN ?_ _ | refine blk_drew ?_ | refine blk_alloc ?_ _)); exact BKf.out)); generalize World.setRow _ _ _ = w7 at n0 n1 n5 ke kf; clear HE HB BKg BKe BKf; have HB := n0; have HE := n5; have BKg := n1; have BKe := ke; clear ke; have BKf := kf; clear kf; clear n0 n1 n5))
  have hEq : ∀ (d : Nat) (W : World), (Op.equalIn (d + 2) 29 (.agg (bcells (blkAt X1 q))) (.agg (bcells (blkAt X1 q)))).run Try.prog W = .ok true W := fun d W => (eqArr d _ _ LY.out LY.out W).trans (by rw [decide_eq_true rfl])
  have hEq2 : ∀ (W : World), (Op.equal 29 (.agg (bcells (blkAt X1 q))) (.agg (bcells (blkAt X1 q)))).run Try.prog W = .ok true W := fun W => hEq 9998 W
  go_wp2
  refine start_ (n := 27) (S := fun w' => w'.heap[gf]? = some (.cells (bcells (blkAt X1 q)) 29 (0, 0)) ∧ w'.heap[ge]? = some (.cells (bcells X1) 38 (0, 0)) ∧ w'.heap[gg]? = some (.cells (bcells (blkAt X1 q)) 29 (0, 0))) (ds := []) #[false, false, false, false, false, false, false, false, false, false, false, false, false, false, false, false, false, false, false, false, false, false, false, false, false, false, false] (by kernel_rfl) rfl rfl ⟨BKf.out, BKe.out, BKg.out⟩ (fun hHeld => ?_)
  refine pure_ (i := 0) (N := some 73) (v := ?_) (a' := ?_) #[true, false, false, false, false, false, false, false, false, false, false, false, false, false, false, false, false, false, false, false, false, false, false, false, false, false, false] rfl rfl (by kernel_rfl) (fun _ _ _ h => h) (Or.inl ⟨by rfl, ?_⟩) ?_ ?_
  rotate_left
  · intro w'
    go_simp
    with_reducible rfl
  rotate_left
  · simp only [Act.put, List.setIfInBounds_toArray, List.set_cons_zero, List.set_cons_succ, i64_w, i32_w]
    rfl
  refine pure_ (i := 1) (N := some 74) (v := ?_) (a' := ?_) #[true, true, false, false, false, false, false, false, false, false, false, false, false, false, false, false, false, false, false, false, false, false, false, false, false, false, false] rfl rfl (by kernel_rfl) (fun _ _ _ h => h) (Or.inl ⟨by rfl, ?_⟩) ?_ ?_
  rotate_left
  · intro w'
    go_simp
    with_reducible rfl
  rotate_left
  · simp only [Act.put, List.setIfInBounds_toArray, List.set_cons_zero, List.set_cons_succ, i64_w, i32_w]
    rfl
  refine pure_ (i := 2) (N := some 75) (v := ?_) (a' := ?_) #[true, true, true, false, false, false, false, false, false, false, false, false, false, false, false, false, false, false, false, false, false, false, false, false, false, false, false] rfl rfl (by kernel_rfl) (fun _ _ _ h => h) (Or.inl ⟨by rfl, ?_⟩) ?_ ?_
  rotate_left
  · intro w'
    go_simp
    with_reducible rfl
  rotate_left
  · simp only [Act.put, List.setIfInBounds_toArray, List.set_cons_zero, List.set_cons_succ, i64_w, i32_w]
    rfl
  refine pure_ (i := 3) (N := some 76) (v := ?_) (a' := ?_) #[true, true, true, true, false, false, false, false, false, false, false, false, false, false, false, false, false, false, false, false, false, false, false, false, false, false, false] rfl rfl (by kernel_rfl) (fun _ _ _ h => h) (Or.inl ⟨by rfl, ?_⟩) ?_ ?_
  rotate_left
  · intro w'
    go_simp
    with_reducible rfl
  rotate_left
  · simp only [Act.put, List.setIfInBounds_toArray, List.set_cons_zero, List.set_cons_succ, i64_w, i32_w]
    rfl
  refine pure_ (i := 4) (N := some 77) (v := ?_) (a' := ?_) #[true, true, true, true, true, false, false, false, false, false, false, false, false, false, false, false, false, false, false, false, false, false, false, false, false, false, false] rfl rfl (by kernel_rfl) (fun _ _ _ h => h) (Or.inl ⟨by rfl, ?_⟩) ?_ ?_
  rotate_left
  · intro w'
    go_simp
    with_reducible rfl
  rotate_left
  · simp only [Act.put, List.setIfInBounds_toArray, List.set_cons_zero, List.set_cons_succ, i64_w, i32_w]
    rfl
  refine pure_ (i := 5) (N := some 78) (v := ?_) (a' := ?_) #[true, true, true, true, true, true, false, false, false, false, false, false, false, false, false, false, false, false, false, false, false, false, false, false, false, false, false] rfl rfl (by kernel_rfl) (fun _ _ _ h => h) (Or.inl ⟨by rfl, ?_⟩) ?_ ?_
  rotate_left
  · intro w'
    go_simp
    with_reducible rfl
  rotate_left
  · simp only [Act.put, List.setIfInBounds_toArray, List.set_cons_zero, List.set_cons_succ, i64_w, i32_w]
    rfl
  refine pure_ (i := 6) (N := some 79) (v := ?_) (a' := ?_) #[true, true, true, true, true, true, true, false, false, false, false, false, false, false, false, false, false, false, false, false, false, false, false, false, false, false, false] rfl rfl (by kernel_rfl) (fun _ _ _ h => h) (Or.inl ⟨by rfl, ?_⟩) ?_ ?_
  rotate_left
  · intro w'
    go_simp
    with_reducible rfl
  rotate_left
  · simp only [Act.put, List.setIfInBounds_toArray, List.set_cons_zero, List.set_cons_succ, i64_w, i32_w]
    rfl
  refine pure_ (i := 8) (N := some 81) (v := ?_) (a' := ?_) #[true, true, true, true, true, true, true, false, true, false, false, false, false, false, false, false, false, false, false, false, false, false, false, false, false, false, false] rfl rfl (by kernel_rfl) (fun _ _ _ h => h) (Or.inl ⟨by rfl, ?_⟩) ?_ ?_
  rotate_left
  · intro w'
    go_simp
    with_reducible rfl
  rotate_left
  · simp only [Act.put, List.setIfInBounds_toArray, List.set_cons_zero, List.set_cons_succ, i64_w, i32_w]
    rfl
  refine pure_ (i := 9) (N := some 82) (v := ?_) (a' := ?_) #[true, true, true, true, true, true, true, false, true, true, false, false, false, false, false, false, false, false, false, false, false, false, false, false, false, false, false] rfl rfl (by kernel_rfl) (fun _ _ _ h => h) (Or.inl ⟨by rfl, ?_⟩) ?_ ?_
  rotate_left
  · intro w'
    go_simp
    with_reducible rfl
  rotate_left
  · simp only [Act.put, List.setIfInBounds_toArray, List.set_cons_zero, List.set_cons_succ, i64_w, i32_w]
    rfl
  refine take_ (i := 7) (N := some 80) (v := ?_) (a' := ?_) #[true, true, true, true, true, true, true, true, true, true, false, false, false, false, false, false, false, false, false, false, false, false, false, false, false, false, false] rfl rfl (by kernel_rfl) (fun _ _ _ h => h) (Or.inl ⟨by rfl, ?_⟩) hHeld ?_ ?_
  rotate_left
  · rintro w' ⟨s0, s1, s2⟩
    refine bl.load_run 14 gf (bcells (blkAt X1 q)) ?_ ?_ w' s0 (seal_size (blkAt X1 q) LY.out)
    · rfl
    · rfl
  rotate_left
  · simp only [Act.put, List.setIfInBounds_toArray, List.set_cons_zero, List.set_cons_succ, i64_w, i32_w]
    rfl
  refine take_ (i := 10) (N := some 83) (v := ?_) (a' := ?_) #[true, true, true, true, true, true, true, true, true, true, true, false, false, false, false, false, false, false, false, false, false, false, false, false, false, false, false] rfl rfl (by kernel_rfl) (fun _ _ _ h => h) (Or.inl ⟨by rfl, ?_⟩) hHeld ?_ ?_
  rotate_left
  · rintro w' ⟨s0, s1, s2⟩
    refine mid.load_run 82 ge (q * 64) (blkAt X1 q) LY.out ?_ ?_ w' (range_blk (n := 8) s1 q LX1.out HQ8.out)
    · rfl
    · rfl
  rotate_left
  · simp only [Act.put, List.setIfInBounds_toArray, List.set_cons_zero, List.set_cons_succ, i64_w, i32_w]
    rfl
  refine pure_ (i := 11) (N := some 84) (v := ?_) (a' := ?_) #[true, true, true, true, true, true, true, true, true, true, true, true, false, false, false, false, false, false, false, false, false, false, false, false, false, false, false] rfl rfl (by kernel_rfl) (fun _ _ _ h => h) (Or.inl ⟨by rfl, ?_⟩) ?_ ?_
  rotate_left
  · intro w'
    go_simp
    with_reducible rfl
  rotate_left
  · simp only [Act.put, List.setIfInBounds_toArray, List.set_cons_zero, List.set_cons_succ, i64_w, i32_w]
    rfl
  refine pure_ (i := 12) (N := some 85) (v := ?_) (a' := ?_) #[true, true, true, true, true, true, true, true, true, true, true, true, true, false, false, false, false, false, false, false, false, false, false, false, false, false, false] rfl rfl (by kernel_rfl) (fun _ _ _ h => h) (Or.inl ⟨by rfl, ?_⟩) ?_ ?_
  rotate_left
  · intro w'
    go_simp
    with_reducible rfl
  rotate_left
  · simp only [Act.put, List.setIfInBounds_toArray, List.set_cons_zero, List.set_cons_succ, i64_w, i32_w]
    rfl
  refine pure_ (i := 13) (N := some 86) (v := ?_) (a' := ?_) #[true, true, true, true, true, true, true, true, true, true, true, true, true, true, false, false, false, false, false, false, false, false, false, false, false, false, false] rfl rfl (by kernel_rfl) (fun _ _ _ h => h) (Or.inl ⟨by rfl, ?_⟩) ?_ ?_
  rotate_left
  · intro w'
    go_simp
    with_reducible rfl
  rotate_left
  · simp only [Act.put, List.setIfInBounds_toArray, List.set_cons_zero, List.set_cons_succ, i64_w, i32_w]
    rfl
  refine take_ (i := 14) (N := some 87) (v := ?_) (a' := ?_) #[true, true, true, true, true, true, true, true, true, true, true, true, true, true, true, false, false, false, false, false, false, false, false, false, false, false, false] rfl rfl (by kernel_rfl) (fun _ _ _ h => h) (Or.inl ⟨by rfl, ?_⟩) hHeld ?_ ?_
  rotate_left
  · rintro w' ⟨s0, s1, s2⟩
    refine bl.load_run 15 gg (bcells (blkAt X1 q)) ?_ ?_ w' s2 (seal_size (blkAt X1 q) LY.out)
    · rfl
    · rfl
  rotate_left
  · simp only [Act.put, List.setIfInBounds_toArray, List.set_cons_zero, List.set_cons_succ, i64_w, i32_w]
    rfl
  refine take_ (i := 15) (N := some 88) (v := ?_) (a' := ?_) #[true, true, true, true, true, true, true, true, true, true, true, true, true, true, true, true, false, false, false, false, false, false, false, false, false, false, false] rfl rfl (by kernel_rfl) (fun _ _ _ h => h) (Or.inl ⟨by rfl, ?_⟩) hHeld ?_ ?_
  rotate_left
  · rintro w' ⟨s0, s1, s2⟩
    refine bl.load_run 14 gf (bcells (blkAt X1 q)) ?_ ?_ w' s0 (seal_size (blkAt X1 q) LY.out)
    · rfl
    · rfl
  rotate_left
  · simp only [Act.put, List.setIfInBounds_toArray, List.set_cons_zero, List.set_cons_succ, i64_w, i32_w]
    rfl
  refine pure_ (i := 16) (N := some 89) (v := ?_) (a' := ?_) #[true, true, true, true, true, true, true, true, true, true, true, true, true, true, true, true, true, false, false, false, false, false, false, false, false, false, false] rfl rfl (by kernel_rfl) (fun _ _ _ h => h) (Or.inl ⟨by rfl, ?_⟩) ?_ ?_
  rotate_left
  · intro w'
    go_simp
    with_reducible rfl
  rotate_left
  · simp only [Act.put, List.setIfInBounds_toArray, List.set_cons_zero, List.set_cons_succ, i64_w, i32_w]
    rfl
  refine pure_ (i := 17) (N := some 90) (v := ?_) (a' := ?_) #[true, true, true, true, true, true, true, true, true, true, true, true, true, true, true, true, true, true, false, false, false, false, false, false, false, false, false] rfl rfl (by kernel_rfl) (fun _ _ _ h => h) (Or.inl ⟨by rfl, ?_⟩) ?_ ?_
  rotate_left
  · intro w'
    go_simp
    with_reducible rfl
  rotate_left
  · simp only [Act.put, List.setIfInBounds_toArray, List.set_cons_zero, List.set_cons_succ, i64_w, i32_w]
    rfl
  refine pure_ (i := 18) (N := some 91) (v := ?_) (a' := ?_) #[true, true, true, true, true, true, true, true, true, true, true, true, true, true, true, true, true, true, true, false, false, false, false, false, false, false, false] rfl rfl (by kernel_rfl) (fun _ _ _ h => h) (Or.inl ⟨by rfl, ?_⟩) ?_ ?_
  rotate_left
  · intro w'
    go_simp
    with_reducible rfl
  rotate_left
  · simp only [Act.put, List.setIfInBounds_toArray, List.set_cons_zero, List.set_cons_succ, i64_w, i32_w]
    rfl
  refine pure_ (i := 19) (N := some 92) (v := ?_) (a' := ?_) #[true, true, true, true, true, true, true, true, true, true, true, true, true, true, true, true, true, true, true, true, false, false, false, false, false, false, false] rfl rfl (by kernel_rfl) (fun _ _ _ h => h) (Or.inl ⟨by rfl, ?_⟩) ?_ ?_
  rotate_left
  · intro w'
    go_simp
    with_reducible rfl
  rotate_left
  · simp only [Act.put, List.setIfInBounds_toArray, List.set_cons_zero, List.set_cons_succ, i64_w, i32_w]
    rfl
  refine one_ (i := 20) (N := some 93) #[true, true, true, true, true, true, true, true, true, true, true, true, true, true, true, true, true, true, true, true, true, false, false, false, false, false, false] rfl rfl (by kernel_rfl) (by decide) (fun K hK => ?_)
  refine goes_ Try.func16 (by kernel_rfl) rfl #[.pointer (some ⟨gd, 0, none⟩)] (by rfl) rfl rfl (by simp only [List.map_toArray, List.map_cons, List.map_nil]; rfl) ?_
  with_reducible refine (Loose.R0 _ _ gd ga gh 64 _ (RE.out.below (by repeat (first | (with_reducible first | exact HE.out | apply below_alloc | apply pw_below_drewN | apply below_drew1) | exact HE.out)))).mono ?_
  rintro e w8 ⟨rfl, hw⟩
  subst w8
  refine ⟨_, rfl, ?_⟩
  refine hK.out _ _ ⟨BKf.out, BKe.out, BKg.out⟩ (fun hHeld => ?_)
  clear hK K
  refine norm_ (a' := ?_) ?_ ?_
  rotate_left
  · show Act.put _ (some 93) _ = _
    simp only [Act.put, List.setIfInBounds_toArray, List.set_cons_zero, List.set_cons_succ, i64_w, i32_w]
    rfl
  refine pure_ (i := 21) (N := some 94) (v := ?_) (a' := ?_) #[true, true, true, true, true, true, true, true, true, true, true, true, true, true, true, true, true, true, true, true, true, true, false, false, false, false, false] rfl rfl (by kernel_rfl) (fun _ _ _ h => h) (Or.inl ⟨by rfl, ?_⟩) ?_ ?_
  rotate_left
  · intro w'
    go_simp
    with_reducible rfl
  rotate_left
  · simp only [Act.put, List.setIfInBounds_toArray, List.set_cons_zero, List.set_cons_succ, i64_w, i32_w]
    rfl
  refine pure_ (i := 22) (N := some 95) (v := ?_) (a' := ?_) #[true, true, true, true, true, true, true, true, true, true, true, true, true, true, true, true, true, true, true, true, true, true, true, false, false, false, false] rfl rfl (by kernel_rfl) (fun _ _ _ h => h) (Or.inl ⟨by rfl, ?_⟩) ?_ ?_
  rotate_left
  · intro w'
    go_simp
    with_reducible rfl
  rotate_left
  · simp only [Act.put, List.setIfInBounds_toArray, List.set_cons_zero, List.set_cons_succ, i64_w, i32_w]
    rfl
  refine pure_ (i := 23) (N := some 96) (v := ?_) (a' := ?_) #[true, true, true, true, true, true, true, true, true, true, true, true, true, true, true, true, true, true, true, true, true, true, true, true, false, false, false] rfl rfl (by kernel_rfl) (fun _ _ _ h => h) (Or.inl ⟨by rfl, ?_⟩) ?_ ?_
  rotate_left
  · intro w'
    go_simp
    with_reducible rfl
  rotate_left
  · simp only [Act.put, List.setIfInBounds_toArray, List.set_cons_zero, List.set_cons_succ, i64_w, i32_w]
    rfl
  refine one_ (i := 24) (N := some 97) #[true, true, true, true, true, true, true, true, true, true, true, true, true, true, true, true, true, true, true, true, true, true, true, true, true, false, false] rfl rfl (by kernel_rfl) (by decide) (fun K hK => ?_)
  refine goes_ Try.func14 (by kernel_rfl) rfl #[] (by rfl) rfl rfl (by simp only [List.map_toArray, List.map_nil]) ?_
  with_reducible refine (law_lives.calls _).mono ?_
  rintro e w9 ⟨rfl, hb⟩
  have n0_ := Aside0.mk (below_step (by repeat (first | (with_reducible first | exact HB.out | apply below_alloc | apply pw_below_drewN | apply below_drew1) | exact HB.out)) hb); have n1_ := Aside0.mk (below_step (by repeat (first | (with_reducible first | exact HE.out | apply below_alloc | apply pw_below_drewN | apply below_drew1) | exact HE.out)) hb); (first | have n2_ := Aside0.mk (blk_below BKe.out hb) | have n2_ := Aside0.mk (blk_below (blk_drewN BKe.out _) hb) | have n2_ := Aside0.mk (blk_below (blk_drew BKe.out) hb) | have n2_ := Aside0.mk (blk_below (blk_alloc BKe.out _) hb) | have n2_ := Aside0.mk (blk_below (by (with_reducible repeat (first | refine blk_drewN ?_ _ | refine blk_drew ?_ | refine blk_alloc ?_ _)); exact BKe.out) hb)); (first | have n3_ := Aside0.mk (blk_below BKf.out hb) | have n3_ := Aside0.mk (blk_below (blk_drewN BKf.out _) hb) | have n3_ := Aside0.mk (blk_below (blk_drew BKf.out) hb) | have n3_ := Aside0.mk (blk_below (blk_alloc BKf.out _) hb) | have n3_ := Aside0.mk (blk_below (by (with_reducible repeat (first | refine blk_drewN ?_ _ | refine blk_drew ?_ | refine blk_alloc ?_ _)); exact BKf.out) hb)); (first | have n4_ := Aside0.mk (blk_below BKg.out hb) | have n4_ := Aside0.mk (blk_below (blk_drewN BKg.out _) hb) | have n4_ := Aside0.mk (blk_below (blk_drew BKg.out) hb) | have n4_ := Aside0.mk (blk_below (blk_alloc BKg.out _) hb) | have n4_ := Aside0.mk (blk_below (by (with_reducible repeat (first | refine blk_drewN ?_ _ | refine blk_drew ?_ | refine blk_alloc ?_ _)); exact BKg.out) hb)); clear HB HE BKe BKf BKg; have HB := n0_; have HE := n1_; have BKe := n2_; have BKf := n3_; have BKg := n4_; clear n0_ n1_ n2_ n3_ n4_ hb
  refine ⟨_, rfl, ?_⟩
  refine hK.out _ _ ⟨BKf.out, BKe.out, BKg.out⟩ (fun hHeld => ?_)
  clear hK K
  refine norm_ (a' := ?_) ?_ ?_
  rotate_left
  · show Act.put _ (some 97) _ = _
    simp only [Act.put, List.setIfInBounds_toArray, List.set_cons_zero, List.set_cons_succ, i64_w, i32_w]
    rfl
  refine pure_ (i := 25) (N := some 98) (v := ?_) (a' := ?_) #[true, true, true, true, true, true, true, true, true, true, true, true, true, true, true, true, true, true, true, true, true, true, true, true, true, true, false] rfl rfl (by kernel_rfl) (fun _ _ _ h => h) (Or.inl ⟨by rfl, ?_⟩) ?_ ?_
  rotate_left
  · intro w'
    go_simp
    with_reducible rfl
  rotate_left
  · simp only [Act.put, List.setIfInBounds_toArray, List.set_cons_zero, List.set_cons_succ, i64_w, i32_w]
    rfl
  refine pure_ (i := 26) (N := some 8) (v := ?_) (a' := ?_) #[true, true, true, true, true, true, true, true, true, true, true, true, true, true, true, true, true, true, true, true, true, true, true, true, true, true, true] rfl rfl (by kernel_rfl) (fun _ _ _ h => h) (Or.inl ⟨by rfl, ?_⟩) ?_ ?_
  rotate_left
  · intro w'
    go_simp
    with_reducible rfl
  rotate_left
  · simp only [Act.put, List.setIfInBounds_toArray, List.set_cons_zero, List.set_cons_succ, i64_w, i32_w]
    rfl
  refine done_ (by kernel_rfl) ?_

  go_wp2
  go_ret
  exact ⟨rfl, by repeat (first | (with_reducible first | exact HB.out | apply below_alloc | apply pw_below_drewN | apply below_drew1) | exact HB.out)⟩
end Go.Proofs.Ytlnfdhcpnbhkdaa.GA
