/- Contracts: each call of a Go function answers what the Lean function of its name says; a law of the set follows. No condition but each theorem's own. Written by a program of this session's out of the translation, with the functions proved by hand let in. -/
import Derived.Test.YtpkobboljdaaeaaGAx0
import Derived.Test.YtpkobboljdaaeaaGAx2
namespace Go.Proofs.Ytpkobboljdaaeaa.GA
open Go.RowKit Go.Proofs.YtpkobboljdaaeaaW.PrintWords Go.Proofs.YtpkobboljdaaeaaW.PrintLast Go.Proofs.YtpkobboljdaaeaaW.PrintMore
attribute [local go_sem] max2_int min2_int max_two min_two max_three min_three max_four min_four   -- for this text's walks alone
set_option linter.unusedVariables false
set_option linter.unusedSimpArgs false

/-! ### black_Class: function 14 -/
def black_isOpen (x : S31) (now : Int) : Bool := decide (x.f2 ≤ now) && decide (0 < x.f0)
theorem black_open2.calls (x : S31) (now : Int) (w : World) : Calls Try.prog 24 #[.agg #[.int .i64 x.f0, .int .i64 x.f1, .int .u64 x.f2], .int .u64 now] w fun e w' => e = .returned (.bool (black_isOpen x now)) ∧ Below w.heap.size w w' := by
  by_cases h : x.f2 ≤ now
  · have hr : black_isOpen x now = decide (0 < x.f0) := by unfold black_isOpen; rw [decide_eq_true h, Bool.true_and]
    rw [hr]
    go_enter Try.func24, Try.ntmps24
    go_wp2
    go_ret
    exact ⟨rfl, (Below.refl _ _).alloc (Nat.le_refl _) _⟩
  · have hr : black_isOpen x now = false := by unfold black_isOpen; rw [decide_eq_false h, Bool.false_and]
    rw [hr]
    have hd : decide (x.f2 ≤ now) = false := decide_eq_false h
    clear hr
    go_enter Try.func24, Try.ntmps24
    go_wp2
    go_ret
    exact ⟨rfl, (Below.refl _ _).alloc (Nat.le_refl _) _⟩

def black_fits (spot : Bool) (now : Int) (p : S56) (x : S31) : Bool := (p.f1 == spot) && black_isOpen x now
set_option maxHeartbeats 4000000 in
theorem black_that.calls (p : S56) (x : S31) (spot : Bool) (now : Int) (gs gn : Nat) (w : World) (hs : w.cell? ⟨gs, 0, none⟩ = some (.bool spot)) (hn : w.cell? ⟨gn, 0, none⟩ = some (.int .u64 now)) :
    Calls Try.prog 29 #[.agg #[.string p.f0, .bool p.f1, .int .i64 p.f2, .int .i64 p.f3], .agg #[.int .i64 x.f0, .int .i64 x.f1, .int .u64 x.f2], .pointer (some ⟨gs, 0, none⟩), .pointer (some ⟨gn, 0, none⟩)] w
      fun e w' => e = .returned (.bool (black_fits spot now p x)) ∧ Below w.heap.size w w' := by
  have ls := World.block_lt_of_cell? w _ hs
  have ln := World.block_lt_of_cell? w _ hn
  have hs1 : ((w.alloc (.cells #[.string p.f0, .bool p.f1, .int .i64 p.f2, .int .i64 p.f3] 56)).alloc (.cells #[.int .i64 x.f0, .int .i64 x.f1, .int .u64 x.f2] 31)).cell? ⟨gs, 0, none⟩ = some (.bool spot) := pw_cell_below (below_alloc (below_alloc (Below.refl _ _) _) _) hs
  have hn1 : ((w.alloc (.cells #[.string p.f0, .bool p.f1, .int .i64 p.f2, .int .i64 p.f3] 56)).alloc (.cells #[.int .i64 x.f0, .int .i64 x.f1, .int .u64 x.f2] 31)).cell? ⟨gn, 0, none⟩ = some (.int .u64 now) := pw_cell_below (below_alloc (below_alloc (Below.refl _ _) _) _) hn
  have hu31 := Try.underlying31
  by_cases h : (p.f1 == spot) = true
  · have hr : black_fits spot now p x = black_isOpen x now := by unfold black_fits; rw [h, Bool.true_and]
    have HR := Aside0.mk hr
    clear hr
    go_enter Try.func29, Try.ntmps29
    go_wp2_with (go_at_call 24; refine (black_open2.calls x now _).mono ?_; rintro e w' ⟨rfl, hb⟩)
    go_ret
    exact ⟨by rw [HR.out]; rfl, below_then (below_alloc (below_alloc (Below.refl _ _) _) _) (by simp; omega) hb⟩
  · have h' : (p.f1 == spot) = false := by simpa using h
    have hr : black_fits spot now p x = false := by unfold black_fits; rw [h', Bool.false_and]
    have HR := Aside0.mk hr
    clear hr h
    go_enter Try.func29, Try.ntmps29
    go_wp2
    go_ret
    exact ⟨by rw [HR.out]; rfl, below_alloc (below_alloc (Below.refl _ _) _) _⟩

/-- the places of those of which it holds -/
def black_pick (l : List S56) (q : List S31) (spot : Bool) (now : Int) : Nat → List Int
  | 0 => []
  | n + 1 => if black_fits spot now (rd_T56 l n) (rd_T31 q n) = true then black_pick l q spot now n ++ [(n : Int)] else black_pick l q spot now n
theorem black_pick_le (l : List S56) (q : List S31) (spot : Bool) (now : Int) (n : Nat) : (black_pick l q spot now n).length ≤ n := by
  induction n with
  | zero => simp [black_pick]
  | succ n ih => unfold black_pick; split <;> first | (simp; omega) | omega


/-- A call of a function value that holds what it captured. -/
theorem black_fcall {P : Program} {ops : Array Oper} {oi : Oper} {N : Option Tmp} {a : Act} {w : World} {Q : Exit → Act → World → Prop} {K : Act → World → Prop} {f : FuncId} {fn : Func} {x : Operand} {xs : Array Operand} {ts : Array TypeId} {caps : Array Value} (hf : P.funcs[f]? = some fn) (hname : (fn.name == "runtime.NumGoroutine") = false) (hb : fn.body.isSome = true) (args : Array Value)
    (hw : Region.wanted oi (yielded ops a.tmps) = true) (hN : oi.dst = N) (hop : oi.op = .call { callee := .value x, args := xs, argTypes := ts }) (hx : a.eval x = .func (.func f) #[] caps) (hargs : xs.map a.eval ++ caps = args)
    (h : Calls P f args w fun e w' => ∃ v, e = .returned v ∧ K (a.put N v) w') : if Region.wanted oi (yielded ops a.tmps) = true then Oper.wp P oi a w K Q else K (a.put N undef) w := by
  refine call_ f args hw hN ?_ h
  have he := enters_ hf hname hb args w
  unfold execOp
  simp [hop, resolve, hx, Deferred.ofValue, invoke, hargs, he]
set_option maxHeartbeats 8000000 in
set_option maxRecDepth 100000 in
theorem black_those.calls (cs : Array Value) (Al : Option Addr) (cl : Nat) (l : List S56) (Aq : Option Addr) (cq : Nat) (q : List S31) (spot : Bool) (now : Int) (gs gn : Nat) (w : World) (hcs : cs[0]? = some (.slice Al l.length cl)) (hl : Kd.C k56 w Al l.length l) (hcl : l.length ≤ cl) (hq : Kd.C k31 w Aq q.length q) (hcq : q.length ≤ cq) (hql : q.length < 17592186044416)
    (hs : w.cell? ⟨gs, 0, none⟩ = some (.bool spot)) (hn : w.cell? ⟨gn, 0, none⟩ = some (.int .u64 now)) :
    Calls Try.prog 28 #[.agg cs, .slice Aq q.length cq, .func (.func 29) #[] #[.pointer (some ⟨gs, 0, none⟩), .pointer (some ⟨gn, 0, none⟩)]] w
      fun e w' => ∃ v, e = .returned v ∧ Kd.R (Kd.int .i64) 3 w' w.heap.size (fun _ => True) v (black_pick l q spot now (min l.length q.length)) ∧ Below w.heap.size w w' := by
  have HL := Aside0.mk hl
  have HQ := Aside0.mk hq
  have HCS := Aside0.mk hcs
  have HSS := Aside0.mk hs
  have HNN := Aside0.mk hn
  clear hl hq hcs hs hn
  have hu31 := Try.underlying31
  have hu56 := Try.underlying56
  have HB := Aside0.mk (Below.refl w.heap.size w)
  rcases Nat.lt_or_ge q.length l.length with hb | hb
  · rw [show min l.length q.length = q.length from by omega]
    go_enter Try.func28, Try.ntmps28
    go_wp2_with ((with_reducible refine gate_dst (N := 3) rfl ?_); refine box_event ?hg (N := 3) ?hd (cs := cs) (t := 37) ?hr ?_; (case hd => rfl); (case hg => rfl); (case hr => first | (go_simp; done) | (go_simp; rfl)); intro gc hg w1_c hbox hb; have GGc := Aside0.mk (show w.heap.size ≤ gc from by rw [hg]; exact below_size (by repeat (first | (with_reducible first | exact HB.out | apply below_alloc | apply pw_below_drewN | apply below_drew1) | exact HB.out))); have BKc := Aside0.mk hbox; clear hbox hg; have n0_ := Aside0.mk (below_step (by repeat (first | (with_reducible first | exact HB.out | apply below_alloc | apply pw_below_drewN | apply below_drew1) | exact HB.out)) hb); clear HB; have HB := n0_; clear n0_ hb; have hbx : w1_c.cell? ⟨gc, 0, none⟩ = some (.slice Al l.length cl) := (blk_cell BKc.out 0).trans HCS.out)
    go_loopw [7, 8, 15] (fun v7 v8 v15 w' => ∃ k : Nat, k ≤ q.length ∧ v15 = .int .i64 k ∧ Aside0 (Kd.R (Kd.int .i64) 3 w' w.heap.size (fun _ => True) v7 (black_pick l q spot now k)) ∧ Aside0 (Below w.heap.size w w') ∧ Aside0 (w'.heap[gc]? = some (.cells cs 37 (0, 0)))) (fun _ _ v15 _ => q.length - (intOf v15).toNat)
    case atStart => exact ⟨0, Nat.zero_le _, rfl, ⟨Kd.R_nil _ _ _ _ _⟩, HB, BKc⟩
    case round =>
      clear HB BKc hbx
      obtain ⟨k, hk, rfl, HO, HB, BKc⟩ := hrel
      have hbx : wr.cell? ⟨gc, 0, none⟩ = some (.slice Al l.length cl) := (blk_cell BKc.out 0).trans HCS.out
      by_cases hlt : k < q.length
      · have a1 : k < l.length := by omega
        have a2 : k < q.length := by omega
        have i1 : (0 : Int) ≤ (k : Int) := by omega
        have i2 : (k : Int) < (l.length : Int) := by omega
        have i3 : (k : Int) < (q.length : Int) := by omega
        obtain ⟨ad, e, p0, p1, p2, p3⟩ := at_T56 (Kd.C_below HL.out HB.out) (k : Int) (by omega) (by omega)
        cases e
        obtain ⟨ae, e, x0, x1, x2⟩ := at_T31 (Kd.C_below HQ.out HB.out) (k : Int) (by omega) (by omega)
        cases e
        simp only [Int.toNat_natCast] at p0 p1 p2 p3 x0 x1 x2
        have hs' : wr.cell? ⟨gs, 0, none⟩ = some (.bool spot) := pw_cell_below HB.out HSS.out
        have hn' : wr.cell? ⟨gn, 0, none⟩ = some (.int .u64 now) := pw_cell_below HB.out HNN.out
        have PL := Aside0.mk (show ((black_pick l q spot now k).length + 1) * 8 ≤ 140737488355328 from by have := black_pick_le l q spot now k; omega)
        by_cases hf : black_fits spot now (rd_T56 l k) (rd_T31 q k) = true
        · have HP := Aside0.mk (show black_pick l q spot now (k + 1) = black_pick l q spot now k ++ [(k : Int)] from by rw [black_pick, if_pos hf])
          have HF := Aside0.mk hf
          clear hf
          go_wp2
          refine start_ (n := 11) (S := fun w' => w'.cell? ⟨gc, 0, none⟩ = some (.slice (some ad) l.length cl) ∧ w'.cell? (ad.add (k * 4)) = some (.string (rd_T56 l k).f0) ∧ w'.cell? ⟨(ad.add (k * 4)).block, (ad.add (k * 4)).off + 1, none⟩ = some (.bool (rd_T56 l k).f1) ∧ w'.cell? ⟨(ad.add (k * 4)).block, (ad.add (k * 4)).off + 2, none⟩ = some (.int .i64 (rd_T56 l k).f2) ∧ w'.cell? ⟨(ad.add (k * 4)).block, (ad.add (k * 4)).off + 3, none⟩ = some (.int .i64 (rd_T56 l k).f3) ∧ w'.cell? (ae.add (k * 3)) = some (.int .i64 (rd_T31 q k).f0) ∧ w'.cell? ⟨(ae.add (k * 3)).block, (ae.add (k * 3)).off + 1, none⟩ = some (.int .i64 (rd_T31 q k).f1) ∧ w'.cell? ⟨(ae.add (k * 3)).block, (ae.add (k * 3)).off + 2, none⟩ = some (.int .u64 (rd_T31 q k).f2)) (ds := []) #[false, false, false, false, false, false, false, false, false, false, false] (by kernel_rfl) rfl rfl ⟨hbx, p0, p1, p2, p3, x0, x1, x2⟩ (fun hHeld => ?_)
          refine pure_ (i := 0) (N := some 18) (v := ?_) (a' := ?_) #[true, false, false, false, false, false, false, false, false, false, false] rfl rfl (by kernel_rfl) (fun _ _ _ h => h) (Or.inl ⟨by rfl, ?_⟩) ?_ ?_
          rotate_left
          · intro w'
            go_simp
            with_reducible rfl
          rotate_left
          · simp only [Act.put, List.setIfInBounds_toArray, List.set_cons_zero, List.set_cons_succ, i64_w, i32_w]
            rfl
          refine pure_ (i := 1) (N := some 19) (v := ?_) (a' := ?_) #[true, true, false, false, false, false, false, false, false, false, false] rfl rfl (by kernel_rfl) (fun _ _ _ h => h) (Or.inl ⟨by rfl, ?_⟩) ?_ ?_
          rotate_left
          · intro w'
            go_simp
            with_reducible rfl
          rotate_left
          · simp only [Act.put, List.setIfInBounds_toArray, List.set_cons_zero, List.set_cons_succ, i64_w, i32_w]
            rfl
          refine pure_ (i := 3) (N := some 21) (v := ?_) (a' := ?_) #[true, true, false, true, false, false, false, false, false, false, false] rfl rfl (by kernel_rfl) (fun _ _ _ h => h) (Or.inl ⟨by rfl, ?_⟩) ?_ ?_
          rotate_left
          · intro w'
            go_simp
            with_reducible rfl
          rotate_left
          · simp only [Act.put, List.setIfInBounds_toArray, List.set_cons_zero, List.set_cons_succ, i64_w, i32_w]
            rfl
          refine pure_ (i := 6) (N := some 24) (v := ?_) (a' := ?_) #[true, true, false, true, false, false, true, false, false, false, false] rfl rfl (by kernel_rfl) (fun _ _ _ h => h) (Or.inl ⟨by rfl, ?_⟩) ?_ ?_
          rotate_left
          · intro w'
            go_simp
            with_reducible rfl
          rotate_left
          · simp only [Act.put, List.setIfInBounds_toArray, List.set_cons_zero, List.set_cons_succ, i64_w, i32_w]
            rfl
          refine pure_ (i := 7) (N := some 25) (v := ?_) (a' := ?_) #[true, true, false, true, false, false, true, true, false, false, false] rfl rfl (by kernel_rfl) (fun _ _ _ h => h) (Or.inl ⟨by rfl, ?_⟩) ?_ ?_
          rotate_left
          · intro w'
            go_simp
            with_reducible rfl
          rotate_left
          · simp only [Act.put, List.setIfInBounds_toArray, List.set_cons_zero, List.set_cons_succ, i64_w, i32_w]
            rfl
          refine pure_ (i := 8) (N := some 26) (v := ?_) (a' := ?_) #[true, true, false, true, false, false, true, true, true, false, false] rfl rfl (by kernel_rfl) (fun _ _ _ h => h) (Or.inl ⟨by rfl, ?_⟩) ?_ ?_
          rotate_left
          · intro w'
            go_simp
            with_reducible rfl
          rotate_left
          · simp only [Act.put, List.setIfInBounds_toArray, List.set_cons_zero, List.set_cons_succ, i64_w, i32_w]
            rfl
          refine take_ (i := 2) (N := some 20) (v := ?_) (a' := ?_) #[true, true, true, true, false, false, true, true, true, false, false] rfl rfl (by kernel_rfl) (fun _ _ _ h => h) (Or.inl ⟨by rfl, ?_⟩) hHeld ?_ ?_
          rotate_left
          · rintro w' ⟨s0, s1, s2, s3, s4, s5, s6, s7⟩
            go_simp
            with_reducible rfl
          rotate_left
          · simp only [Act.put, List.setIfInBounds_toArray, List.set_cons_zero, List.set_cons_succ, i64_w, i32_w]
            rfl
          refine pure_ (i := 4) (N := some 22) (v := ?_) (a' := ?_) #[true, true, true, true, true, false, true, true, true, false, false] rfl rfl (by kernel_rfl) (fun _ _ _ h => h) (Or.inl ⟨by rfl, ?_⟩) ?_ ?_
          rotate_left
          · intro w'
            go_simp
            with_reducible rfl
          rotate_left
          · simp only [Act.put, List.setIfInBounds_toArray, List.set_cons_zero, List.set_cons_succ, i64_w, i32_w]
            rfl
          refine take_ (i := 5) (N := some 23) (v := ?_) (a' := ?_) #[true, true, true, true, true, true, true, true, true, false, false] rfl rfl (by kernel_rfl) (fun _ _ _ h => h) (Or.inl ⟨by rfl, ?_⟩) hHeld ?_ ?_
          rotate_left
          · rintro w' ⟨s0, s1, s2, s3, s4, s5, s6, s7⟩
            go_simp
            with_reducible rfl
          rotate_left
          · simp only [Act.put, List.setIfInBounds_toArray, List.set_cons_zero, List.set_cons_succ, i64_w, i32_w]
            rfl
          refine take_ (i := 9) (N := some 27) (v := ?_) (a' := ?_) #[true, true, true, true, true, true, true, true, true, true, false] rfl rfl (by kernel_rfl) (fun _ _ _ h => h) (Or.inl ⟨by rfl, ?_⟩) hHeld ?_ ?_
          rotate_left
          · rintro w' ⟨s0, s1, s2, s3, s4, s5, s6, s7⟩
            go_simp
            with_reducible rfl
          rotate_left
          · simp only [Act.put, List.setIfInBounds_toArray, List.set_cons_zero, List.set_cons_succ, i64_w, i32_w]
            rfl
          refine one_ (i := 10) (N := some 28) #[true, true, true, true, true, true, true, true, true, true, true] rfl rfl (by kernel_rfl) (by decide) (fun K hK => ?_)
          refine black_fcall (f := 29) Try.func29 (by kernel_rfl) rfl #[.agg #[.string (rd_T56 l k).f0, .bool (rd_T56 l k).f1, .int .i64 (rd_T56 l k).f2, .int .i64 (rd_T56 l k).f3], .agg #[.int .i64 (rd_T31 q k).f0, .int .i64 (rd_T31 q k).f1, .int .u64 (rd_T31 q k).f2], .pointer (some ⟨gs, 0, none⟩), .pointer (some ⟨gn, 0, none⟩)] (by rfl) rfl rfl rfl (by simp only [List.map_toArray, List.map_cons, List.map_nil]; rfl) ?_
          refine (black_that.calls (rd_T56 l k) (rd_T31 q k) spot now gs gn wr.drew hs' hn').mono ?_
          rw [HF.out]
          rintro e w3 ⟨rfl, hb⟩
          have c0 := pw_cell_below hb hbx
          have c1 := pw_cell_below hb p0
          have c2 := pw_cell_below hb p1
          have c3 := pw_cell_below hb p2
          have c4 := pw_cell_below hb p3
          have c5 := pw_cell_below hb x0
          have c6 := pw_cell_below hb x1
          have c7 := pw_cell_below hb x2
          have n0_ := Aside0.mk (below_step (by repeat (first | (with_reducible first | exact HB.out | apply below_alloc | apply pw_below_drewN | apply below_drew1) | exact HB.out)) hb); have n1_ := Aside0.mk (blk_below (by (with_reducible repeat (first | refine blk_drewN ?_ _ | refine blk_drew ?_ | refine blk_alloc ?_ _)); exact BKc.out) hb); have n2_ := Aside0.mk (Kd.R_below (by (with_reducible repeat (first | apply Kd.R_alloc | apply Kd.R_drewN | apply Kd.R_drew)); exact HO.out) hb); clear HB BKc HO; have HB := n0_; have BKc := n1_; have HO := n2_; clear n0_ n1_ n2_ hb
          refine ⟨_, rfl, ?_⟩
          refine hK.out _ _ ⟨c0, c1, c2, c3, c4, c5, c6, c7⟩ (fun hHeld => ?_)
          clear hK K
          refine norm_ (a' := ?_) ?_ ?_
          rotate_left
          · show Act.put _ (some 28) _ = _
            simp only [Act.put, List.setIfInBounds_toArray, List.set_cons_zero, List.set_cons_succ, i64_w, i32_w]
            rfl
          refine done_ (by kernel_rfl) ?_

          clear hbx p0 p1 p2 p3 x0 x1 x2 c0 c1 c2 c3 c4 c5 c6 c7
          go_wp2_with ((with_reducible refine gate_builtin (b := .append) (xs := #[.tmp 29, .tmp 31]) rfl ?_); at_builtin; refine Kd.R_append (Kd.int .i64) (w0 := w) w.heap.size rfl (.tmp 29) (.tmp 31) 43 3 (.int .i64 0) 8 rfl Try.underlying43 info3 rfl (by decide) (by omega) u7 (black_pick l q spot now k) (k : Int) [.int .i64 (k : Int)] (fun _ => True) (fun _ => False) rfl rfl ?aP (fun _ hk => hk.elim) ?aF ?aO ?aB ?aS ?aL ?_; (case aP => exact rfl); (case aB => exact (by repeat (first | (with_reducible first | exact HB.out | apply below_alloc | apply pw_below_drewN | apply below_drew1) | exact HB.out))); (case aF => exact (fun _ _ => trivial)); (case aO => exact (by (with_reducible repeat (first | apply Kd.R_alloc | apply Kd.R_drewN | apply Kd.R_drew)); exact HO.out)); (case aS => exact (below_size (by repeat (first | (with_reducible first | exact HB.out | apply below_alloc | apply pw_below_drewN | apply below_drew1) | exact HB.out)))); (case aL => exact PL.out); intro v w18 ho hb hg hat; rw [← HP.out] at ho; have n0_ := Aside0.mk (blk_grown (g := gc) (o := .cells cs 37 (0, 0)) (by (with_reducible repeat (first | refine blk_drewN ?_ _ | refine blk_drew ?_ | refine blk_alloc ?_ _)); exact BKc.out) hg (Kd.R_ne HO.out BKc.out (by decide))); have n1_ := Aside0.mk hb; have n2_ := Aside0.mk ho; clear BKc HB HO; have BKc := n0_; have HB := n1_; have HO := n2_; clear n0_ n1_ n2_ ho hb hg hat)
          exact ⟨⟨k + 1, by omega, by rw [Int.natCast_add]; rfl, HO, HB, BKc⟩, by simp only [intOf]; omega⟩
        · rw [Bool.not_eq_true] at hf
          have HP := Aside0.mk (show black_pick l q spot now (k + 1) = black_pick l q spot now k from by rw [black_pick, if_neg (by rw [hf]; decide)])
          have HF := Aside0.mk hf
          clear hf
          go_wp2
          refine start_ (n := 11) (S := fun w' => w'.cell? ⟨gc, 0, none⟩ = some (.slice (some ad) l.length cl) ∧ w'.cell? (ad.add (k * 4)) = some (.string (rd_T56 l k).f0) ∧ w'.cell? ⟨(ad.add (k * 4)).block, (ad.add (k * 4)).off + 1, none⟩ = some (.bool (rd_T56 l k).f1) ∧ w'.cell? ⟨(ad.add (k * 4)).block, (ad.add (k * 4)).off + 2, none⟩ = some (.int .i64 (rd_T56 l k).f2) ∧ w'.cell? ⟨(ad.add (k * 4)).block, (ad.add (k * 4)).off + 3, none⟩ = some (.int .i64 (rd_T56 l k).f3) ∧ w'.cell? (ae.add (k * 3)) = some (.int .i64 (rd_T31 q k).f0) ∧ w'.cell? ⟨(ae.add (k * 3)).block, (ae.add (k * 3)).off + 1, none⟩ = some (.int .i64 (rd_T31 q k).f1) ∧ w'.cell? ⟨(ae.add (k * 3)).block, (ae.add (k * 3)).off + 2, none⟩ = some (.int .u64 (rd_T31 q k).f2)) (ds := []) #[false, false, false, false, false, false, false, false, false, false, false] (by kernel_rfl) rfl rfl ⟨hbx, p0, p1, p2, p3, x0, x1, x2⟩ (fun hHeld => ?_)
          refine pure_ (i := 0) (N := some 18) (v := ?_) (a' := ?_) #[true, false, false, false, false, false, false, false, false, false, false] rfl rfl (by kernel_rfl) (fun _ _ _ h => h) (Or.inl ⟨by rfl, ?_⟩) ?_ ?_
          rotate_left
          · intro w'
            go_simp
            with_reducible rfl
          rotate_left
          · simp only [Act.put, List.setIfInBounds_toArray, List.set_cons_zero, List.set_cons_succ, i64_w, i32_w]
            rfl
          refine pure_ (i := 1) (N := some 19) (v := ?_) (a' := ?_) #[true, true, false, false, false, false, false, false, false, false, false] rfl rfl (by kernel_rfl) (fun _ _ _ h => h) (Or.inl ⟨by rfl, ?_⟩) ?_ ?_
          rotate_left
          · intro w'
            go_simp
            with_reducible rfl
          rotate_left
          · simp only [Act.put, List.setIfInBounds_toArray, List.set_cons_zero, List.set_cons_succ, i64_w, i32_w]
            rfl
          refine pure_ (i := 3) (N := some 21) (v := ?_) (a' := ?_) #[true, true, false, true, false, false, false, false, false, false, false] rfl rfl (by kernel_rfl) (fun _ _ _ h => h) (Or.inl ⟨by rfl, ?_⟩) ?_ ?_
          rotate_left
          · intro w'
            go_simp
            with_reducible rfl
          rotate_left
          · simp only [Act.put, List.setIfInBounds_toArray, List.set_cons_zero, List.set_cons_succ, i64_w, i32_w]
            rfl
          refine pure_ (i := 6) (N := some 24) (v := ?_) (a' := ?_) #[true, true, false, true, false, false, true, false, false, false, false] rfl rfl (by kernel_rfl) (fun _ _ _ h => h) (Or.inl ⟨by rfl, ?_⟩) ?_ ?_
          rotate_left
          · intro w'
            go_simp
            with_reducible rfl
          rotate_left
          · simp only [Act.put, List.setIfInBounds_toArray, List.set_cons_zero, List.set_cons_succ, i64_w, i32_w]
            rfl
          refine pure_ (i := 7) (N := some 25) (v := ?_) (a' := ?_) #[true, true, false, true, false, false, true, true, false, false, false] rfl rfl (by kernel_rfl) (fun _ _ _ h => h) (Or.inl ⟨by rfl, ?_⟩) ?_ ?_
          rotate_left
          · intro w'
            go_simp
            with_reducible rfl
          rotate_left
          · simp only [Act.put, List.setIfInBounds_toArray, List.set_cons_zero, List.set_cons_succ, i64_w, i32_w]
            rfl
          refine pure_ (i := 8) (N := some 26) (v := ?_) (a' := ?_) #[true, true, false, true, false, false, true, true, true, false, false] rfl rfl (by kernel_rfl) (fun _ _ _ h => h) (Or.inl ⟨by rfl, ?_⟩) ?_ ?_
          rotate_left
          · intro w'
            go_simp
            with_reducible rfl
          rotate_left
          · simp only [Act.put, List.setIfInBounds_toArray, List.set_cons_zero, List.set_cons_succ, i64_w, i32_w]
            rfl
          refine take_ (i := 2) (N := some 20) (v := ?_) (a' := ?_) #[true, true, true, true, false, false, true, true, true, false, false] rfl rfl (by kernel_rfl) (fun _ _ _ h => h) (Or.inl ⟨by rfl, ?_⟩) hHeld ?_ ?_
          rotate_left
          · rintro w' ⟨s0, s1, s2, s3, s4, s5, s6, s7⟩
            go_simp
            with_reducible rfl
          rotate_left
          · simp only [Act.put, List.setIfInBounds_toArray, List.set_cons_zero, List.set_cons_succ, i64_w, i32_w]
            rfl
          refine pure_ (i := 4) (N := some 22) (v := ?_) (a' := ?_) #[true, true, true, true, true, false, true, true, true, false, false] rfl rfl (by kernel_rfl) (fun _ _ _ h => h) (Or.inl ⟨by rfl, ?_⟩) ?_ ?_
          rotate_left
          · intro w'
            go_simp
            with_reducible rfl
          rotate_left
          · simp only [Act.put, List.setIfInBounds_toArray, List.set_cons_zero, List.set_cons_succ, i64_w, i32_w]
            rfl
          refine take_ (i := 5) (N := some 23) (v := ?_) (a' := ?_) #[true, true, true, true, true, true, true, true, true, false, false] rfl rfl (by kernel_rfl) (fun _ _ _ h => h) (Or.inl ⟨by rfl, ?_⟩) hHeld ?_ ?_
          rotate_left
          · rintro w' ⟨s0, s1, s2, s3, s4, s5, s6, s7⟩
            go_simp
            with_reducible rfl
          rotate_left
          · simp only [Act.put, List.setIfInBounds_toArray, List.set_cons_zero, List.set_cons_succ, i64_w, i32_w]
            rfl
          refine take_ (i := 9) (N := some 27) (v := ?_) (a' := ?_) #[true, true, true, true, true, true, true, true, true, true, false] rfl rfl (by kernel_rfl) (fun _ _ _ h => h) (Or.inl ⟨by rfl, ?_⟩) hHeld ?_ ?_
          rotate_left
          · rintro w' ⟨s0, s1, s2, s3, s4, s5, s6, s7⟩
            go_simp
            with_reducible rfl
          rotate_left
          · simp only [Act.put, List.setIfInBounds_toArray, List.set_cons_zero, List.set_cons_succ, i64_w, i32_w]
            rfl
          refine one_ (i := 10) (N := some 28) #[true, true, true, true, true, true, true, true, true, true, true] rfl rfl (by kernel_rfl) (by decide) (fun K hK => ?_)
          refine black_fcall (f := 29) Try.func29 (by kernel_rfl) rfl #[.agg #[.string (rd_T56 l k).f0, .bool (rd_T56 l k).f1, .int .i64 (rd_T56 l k).f2, .int .i64 (rd_T56 l k).f3], .agg #[.int .i64 (rd_T31 q k).f0, .int .i64 (rd_T31 q k).f1, .int .u64 (rd_T31 q k).f2], .pointer (some ⟨gs, 0, none⟩), .pointer (some ⟨gn, 0, none⟩)] (by rfl) rfl rfl rfl (by simp only [List.map_toArray, List.map_cons, List.map_nil]; rfl) ?_
          refine (black_that.calls (rd_T56 l k) (rd_T31 q k) spot now gs gn wr.drew hs' hn').mono ?_
          rw [HF.out]
          rintro e w3 ⟨rfl, hb⟩
          have c0 := pw_cell_below hb hbx
          have c1 := pw_cell_below hb p0
          have c2 := pw_cell_below hb p1
          have c3 := pw_cell_below hb p2
          have c4 := pw_cell_below hb p3
          have c5 := pw_cell_below hb x0
          have c6 := pw_cell_below hb x1
          have c7 := pw_cell_below hb x2
          have n0_ := Aside0.mk (below_step (by repeat (first | (with_reducible first | exact HB.out | apply below_alloc | apply pw_below_drewN | apply below_drew1) | exact HB.out)) hb); have n1_ := Aside0.mk (blk_below (by (with_reducible repeat (first | refine blk_drewN ?_ _ | refine blk_drew ?_ | refine blk_alloc ?_ _)); exact BKc.out) hb); have n2_ := Aside0.mk (Kd.R_below (by (with_reducible repeat (first | apply Kd.R_alloc | apply Kd.R_drewN | apply Kd.R_drew)); exact HO.out) hb); clear HB BKc HO; have HB := n0_; have BKc := n1_; have HO := n2_; clear n0_ n1_ n2_ hb
          refine ⟨_, rfl, ?_⟩
          refine hK.out _ _ ⟨c0, c1, c2, c3, c4, c5, c6, c7⟩ (fun hHeld => ?_)
          clear hK K
          refine norm_ (a' := ?_) ?_ ?_
          rotate_left
          · show Act.put _ (some 28) _ = _
            simp only [Act.put, List.setIfInBounds_toArray, List.set_cons_zero, List.set_cons_succ, i64_w, i32_w]
            rfl
          refine done_ (by kernel_rfl) ?_

          clear hbx p0 p1 p2 p3 x0 x1 x2 c0 c1 c2 c3 c4 c5 c6 c7
          go_wp2
          exact ⟨⟨k + 1, by omega, by rw [Int.natCast_add]; rfl, by rw [HP.out]; exact HO, HB, BKc⟩, by simp only [intOf]; omega⟩
      · have hkM : k = q.length := by omega
        subst hkM
        go_wp2
        go_ret
        exact ⟨_, rfl, HO.out, HB.out⟩
  · rw [show min l.length q.length = l.length from by omega]
    go_enter Try.func28, Try.ntmps28
    go_wp2_with ((with_reducible refine gate_dst (N := 3) rfl ?_); refine box_event ?hg (N := 3) ?hd (cs := cs) (t := 37) ?hr ?_; (case hd => rfl); (case hg => rfl); (case hr => first | (go_simp; done) | (go_simp; rfl)); intro gc hg w1_c hbox hb; have GGc := Aside0.mk (show w.heap.size ≤ gc from by rw [hg]; exact below_size (by repeat (first | (with_reducible first | exact HB.out | apply below_alloc | apply pw_below_drewN | apply below_drew1) | exact HB.out))); have BKc := Aside0.mk hbox; clear hbox hg; have n0_ := Aside0.mk (below_step (by repeat (first | (with_reducible first | exact HB.out | apply below_alloc | apply pw_below_drewN | apply below_drew1) | exact HB.out)) hb); clear HB; have HB := n0_; clear n0_ hb; have hbx : w1_c.cell? ⟨gc, 0, none⟩ = some (.slice Al l.length cl) := (blk_cell BKc.out 0).trans HCS.out)
    go_loopw [7, 8, 15] (fun v7 v8 v15 w' => ∃ k : Nat, k ≤ l.length ∧ v15 = .int .i64 k ∧ Aside0 (Kd.R (Kd.int .i64) 3 w' w.heap.size (fun _ => True) v7 (black_pick l q spot now k)) ∧ Aside0 (Below w.heap.size w w') ∧ Aside0 (w'.heap[gc]? = some (.cells cs 37 (0, 0)))) (fun _ _ v15 _ => l.length - (intOf v15).toNat)
    case atStart => exact ⟨0, Nat.zero_le _, rfl, ⟨Kd.R_nil _ _ _ _ _⟩, HB, BKc⟩
    case round =>
      clear HB BKc hbx
      obtain ⟨k, hk, rfl, HO, HB, BKc⟩ := hrel
      have hbx : wr.cell? ⟨gc, 0, none⟩ = some (.slice Al l.length cl) := (blk_cell BKc.out 0).trans HCS.out
      by_cases hlt : k < l.length
      · have a1 : k < l.length := by omega
        have a2 : k < q.length := by omega
        have i1 : (0 : Int) ≤ (k : Int) := by omega
        have i2 : (k : Int) < (l.length : Int) := by omega
        have i3 : (k : Int) < (q.length : Int) := by omega
        obtain ⟨ad, e, p0, p1, p2, p3⟩ := at_T56 (Kd.C_below HL.out HB.out) (k : Int) (by omega) (by omega)
        cases e
        obtain ⟨ae, e, x0, x1, x2⟩ := at_T31 (Kd.C_below HQ.out HB.out) (k : Int) (by omega) (by omega)
        cases e
        simp only [Int.toNat_natCast] at p0 p1 p2 p3 x0 x1 x2
        have hs' : wr.cell? ⟨gs, 0, none⟩ = some (.bool spot) := pw_cell_below HB.out HSS.out
        have hn' : wr.cell? ⟨gn, 0, none⟩ = some (.int .u64 now) := pw_cell_below HB.out HNN.out
        have PL := Aside0.mk (show ((black_pick l q spot now k).length + 1) * 8 ≤ 140737488355328 from by have := black_pick_le l q spot now k; omega)
        by_cases hf : black_fits spot now (rd_T56 l k) (rd_T31 q k) = true
        · have HP := Aside0.mk (show black_pick l q spot now (k + 1) = black_pick l q spot now k ++ [(k : Int)] from by rw [black_pick, if_pos hf])
          have HF := Aside0.mk hf
          clear hf
          go_wp2
          refine start_ (n := 11) (S := fun w' => w'.cell? ⟨gc, 0, none⟩ = some (.slice (some ad) l.length cl) ∧ w'.cell? (ad.add (k * 4)) = some (.string (rd_T56 l k).f0) ∧ w'.cell? ⟨(ad.add (k * 4)).block, (ad.add (k * 4)).off + 1, none⟩ = some (.bool (rd_T56 l k).f1) ∧ w'.cell? ⟨(ad.add (k * 4)).block, (ad.add (k * 4)).off + 2, none⟩ = some (.int .i64 (rd_T56 l k).f2) ∧ w'.cell? ⟨(ad.add (k * 4)).block, (ad.add (k * 4)).off + 3, none⟩ = some (.int .i64 (rd_T56 l k).f3) ∧ w'.cell? (ae.add (k * 3)) = some (.int .i64 (rd_T31 q k).f0) ∧ w'.cell? ⟨(ae.add (k * 3)).block, (ae.add (k * 3)).off + 1, none⟩ = some (.int .i64 (rd_T31 q k).f1) ∧ w'.cell? ⟨(ae.add (k * 3)).block, (ae.add (k * 3)).off + 2, none⟩ = some (.int .u64 (rd_T31 q k).f2)) (ds := []) #[false, false, false, false, false, false, false, false, false, false, false] (by kernel_rfl) rfl rfl ⟨hbx, p0, p1, p2, p3, x0, x1, x2⟩ (fun hHeld => ?_)
          refine pure_ (i := 0) (N := some 18) (v := ?_) (a' := ?_) #[true, false, false, false, false, false, false, false, false, false, false] rfl rfl (by kernel_rfl) (fun _ _ _ h => h) (Or.inl ⟨by rfl, ?_⟩) ?_ ?_
          rotate_left
          · intro w'
            go_simp
            with_reducible rfl
          rotate_left
          · simp only [Act.put, List.setIfInBounds_toArray, List.set_cons_zero, List.set_cons_succ, i64_w, i32_w]
            rfl
          refine pure_ (i := 1) (N := some 19) (v := ?_) (a' := ?_) #[true, true, false, false, false, false, false, false, false, false, false] rfl rfl (by kernel_rfl) (fun _ _ _ h => h) (Or.inl ⟨by rfl, ?_⟩) ?_ ?_
          rotate_left
          · intro w'
            go_simp
            with_reducible rfl
          rotate_left
          · simp only [Act.put, List.setIfInBounds_toArray, List.set_cons_zero, List.set_cons_succ, i64_w, i32_w]
            rfl
          refine pure_ (i := 3) (N := some 21) (v := ?_) (a' := ?_) #[true, true, false, true, false, false, false, false, false, false, false] rfl rfl (by kernel_rfl) (fun _ _ _ h => h) (Or.inl ⟨by rfl, ?_⟩) ?_ ?_
          rotate_left
          · intro w'
            go_simp
            with_reducible rfl
          rotate_left
          · simp only [Act.put, List.setIfInBounds_toArray, List.set_cons_zero, List.set_cons_succ, i64_w, i32_w]
            rfl
          refine pure_ (i := 6) (N := some 24) (v := ?_) (a' := ?_) #[true, true, false, true, false, false, true, false, false, false, false] rfl rfl (by kernel_rfl) (fun _ _ _ h => h) (Or.inl ⟨by rfl, ?_⟩) ?_ ?_
          rotate_left
          · intro w'
            go_simp
            with_reducible rfl
          rotate_left
          · simp only [Act.put, List.setIfInBounds_toArray, List.set_cons_zero, List.set_cons_succ, i64_w, i32_w]
            rfl
          refine pure_ (i := 7) (N := some 25) (v := ?_) (a' := ?_) #[true, true, false, true, false, false, true, true, false, false, false] rfl rfl (by kernel_rfl) (fun _ _ _ h => h) (Or.inl ⟨by rfl, ?_⟩) ?_ ?_
          rotate_left
          · intro w'
            go_simp
            with_reducible rfl
          rotate_left
          · simp only [Act.put, List.setIfInBounds_toArray, List.set_cons_zero, List.set_cons_succ, i64_w, i32_w]
            rfl
          refine pure_ (i := 8) (N := some 26) (v := ?_) (a' := ?_) #[true, true, false, true, false, false, true, true, true, false, false] rfl rfl (by kernel_rfl) (fun _ _ _ h => h) (Or.inl ⟨by rfl, ?_⟩) ?_ ?_
          rotate_left
          · intro w'
            go_simp
            with_reducible rfl
          rotate_left
          · simp only [Act.put, List.setIfInBounds_toArray, List.set_cons_zero, List.set_cons_succ, i64_w, i32_w]
            rfl
          refine take_ (i := 2) (N := some 20) (v := ?_) (a' := ?_) #[true, true, true, true, false, false, true, true, true, false, false] rfl rfl (by kernel_rfl) (fun _ _ _ h => h) (Or.inl ⟨by rfl, ?_⟩) hHeld ?_ ?_
          rotate_left
          · rintro w' ⟨s0, s1, s2, s3, s4, s5, s6, s7⟩
            go_simp
            with_reducible rfl
          rotate_left
          · simp only [Act.put, List.setIfInBounds_toArray, List.set_cons_zero, List.set_cons_succ, i64_w, i32_w]
            rfl
          refine pure_ (i := 4) (N := some 22) (v := ?_) (a' := ?_) #[true, true, true, true, true, false, true, true, true, false, false] rfl rfl (by kernel_rfl) (fun _ _ _ h => h) (Or.inl ⟨by rfl, ?_⟩) ?_ ?_
          rotate_left
          · intro w'
            go_simp
            with_reducible rfl
          rotate_left
          · simp only [Act.put, List.setIfInBounds_toArray, List.set_cons_zero, List.set_cons_succ, i64_w, i32_w]
            rfl
          refine take_ (i := 5) (N := some 23) (v := ?_) (a' := ?_) #[true, true, true, true, true, true, true, true, true, false, false] rfl rfl (by kernel_rfl) (fun _ _ _ h => h) (Or.inl ⟨by rfl, ?_⟩) hHeld ?_ ?_
          rotate_left
          · rintro w' ⟨s0, s1, s2, s3, s4, s5, s6, s7⟩
            go_simp
            with_reducible rfl
          rotate_left
          · simp only [Act.put, List.setIfInBounds_toArray, List.set_cons_zero, List.set_cons_succ, i64_w, i32_w]
            rfl
          refine take_ (i := 9) (N := some 27) (v := ?_) (a' := ?_) #[true, true, true, true, true, true, true, true, true, true, false] rfl rfl (by kernel_rfl) (fun _ _ _ h => h) (Or.inl ⟨by rfl, ?_⟩) hHeld ?_ ?_
          rotate_left
          · rintro w' ⟨s0, s1, s2, s3, s4, s5, s6, s7⟩
            go_simp
            with_reducible rfl
          rotate_left
          · simp only [Act.put, List.setIfInBounds_toArray, List.set_cons_zero, List.set_cons_succ, i64_w, i32_w]
            rfl
          refine one_ (i := 10) (N := some 28) #[true, true, true, true, true, true, true, true, true, true, true] rfl rfl (by kernel_rfl) (by decide) (fun K hK => ?_)
          refine black_fcall (f := 29) Try.func29 (by kernel_rfl) rfl #[.agg #[.string (rd_T56 l k).f0, .bool (rd_T56 l k).f1, .int .i64 (rd_T56 l k).f2, .int .i64 (rd_T56 l k).f3], .agg #[.int .i64 (rd_T31 q k).f0, .int .i64 (rd_T31 q k).f1, .int .u64 (rd_T31 q k).f2], .pointer (some ⟨gs, 0, none⟩), .pointer (some ⟨gn, 0, none⟩)] (by rfl) rfl rfl rfl (by simp only [List.map_toArray, List.map_cons, List.map_nil]; rfl) ?_
          refine (black_that.calls (rd_T56 l k) (rd_T31 q k) spot now gs gn wr.drew hs' hn').mono ?_
          rw [HF.out]
          rintro e w3 ⟨rfl, hb⟩
          have c0 := pw_cell_below hb hbx
          have c1 := pw_cell_below hb p0
          have c2 := pw_cell_below hb p1
          have c3 := pw_cell_below hb p2
          have c4 := pw_cell_below hb p3
          have c5 := pw_cell_below hb x0
          have c6 := pw_cell_below hb x1
          have c7 := pw_cell_below hb x2
          have n0_ := Aside0.mk (below_step (by repeat (first | (with_reducible first | exact HB.out | apply below_alloc | apply pw_below_drewN | apply below_drew1) | exact HB.out)) hb); have n1_ := Aside0.mk (blk_below (by (with_reducible repeat (first | refine blk_drewN ?_ _ | refine blk_drew ?_ | refine blk_alloc ?_ _)); exact BKc.out) hb); have n2_ := Aside0.mk (Kd.R_below (by (with_reducible repeat (first | apply Kd.R_alloc | apply Kd.R_drewN | apply Kd.R_drew)); exact HO.out) hb); clear HB BKc HO; have HB := n0_; have BKc := n1_; have HO := n2_; clear n0_ n1_ n2_ hb
          refine ⟨_, rfl, ?_⟩
          refine hK.out _ _ ⟨c0, c1, c2, c3, c4, c5, c6, c7⟩ (fun hHeld => ?_)
          clear hK K
          refine norm_ (a' := ?_) ?_ ?_
          rotate_left
          · show Act.put _ (some 28) _ = _
            simp only [Act.put, List.setIfInBounds_toArray, List.set_cons_zero, List.set_cons_succ, i64_w, i32_w]
            rfl
          refine done_ (by kernel_rfl) ?_

          clear hbx p0 p1 p2 p3 x0 x1 x2 c0 c1 c2 c3 c4 c5 c6 c7
          go_wp2_with ((with_reducible refine gate_builtin (b := .append) (xs := #[.tmp 29, .tmp 31]) rfl ?_); at_builtin; refine Kd.R_append (Kd.int .i64) (w0 := w) w.heap.size rfl (.tmp 29) (.tmp 31) 43 3 (.int .i64 0) 8 rfl Try.underlying43 info3 rfl (by decide) (by omega) u7 (black_pick l q spot now k) (k : Int) [.int .i64 (k : Int)] (fun _ => True) (fun _ => False) rfl rfl ?aP (fun _ hk => hk.elim) ?aF ?aO ?aB ?aS ?aL ?_; (case aP => exact rfl); (case aB => exact (by repeat (first | (with_reducible first | exact HB.out | apply below_alloc | apply pw_below_drewN | apply below_drew1) | exact HB.out))); (case aF => exact (fun _ _ => trivial)); (case aO => exact (by (with_reducible repeat (first | apply Kd.R_alloc | apply Kd.R_drewN | apply Kd.R_drew)); exact HO.out)); (case aS => exact (below_size (by repeat (first | (with_reducible first | exact HB.out | apply below_alloc | apply pw_below_drewN | apply below_drew1) | exact HB.out)))); (case aL => exact PL.out); intro v w18 ho hb hg hat; rw [← HP.out] at ho; have n0_ := Aside0.mk (blk_grown (g := gc) (o := .cells cs 37 (0, 0)) (by (with_reducible repeat (first | refine blk_drewN ?_ _ | refine blk_drew ?_ | refine blk_alloc ?_ _)); exact BKc.out) hg (Kd.R_ne HO.out BKc.out (by decide))); have n1_ := Aside0.mk hb; have n2_ := Aside0.mk ho; clear BKc HB HO; have BKc := n0_; have HB := n1_; have HO := n2_; clear n0_ n1_ n2_ ho hb hg hat)
          exact ⟨⟨k + 1, by omega, by rw [Int.natCast_add]; rfl, HO, HB, BKc⟩, by simp only [intOf]; omega⟩
        · rw [Bool.not_eq_true] at hf
          have HP := Aside0.mk (show black_pick l q spot now (k + 1) = black_pick l q spot now k from by rw [black_pick, if_neg (by rw [hf]; decide)])
          have HF := Aside0.mk hf
          clear hf
          go_wp2
          refine start_ (n := 11) (S := fun w' => w'.cell? ⟨gc, 0, none⟩ = some (.slice (some ad) l.length cl) ∧ w'.cell? (ad.add (k * 4)) = some (.string (rd_T56 l k).f0) ∧ w'.cell? ⟨(ad.add (k * 4)).block, (ad.add (k * 4)).off + 1, none⟩ = some (.bool (rd_T56 l k).f1) ∧ w'.cell? ⟨(ad.add (k * 4)).block, (ad.add (k * 4)).off + 2, none⟩ = some (.int .i64 (rd_T56 l k).f2) ∧ w'.cell? ⟨(ad.add (k * 4)).block, (ad.add (k * 4)).off + 3, none⟩ = some (.int .i64 (rd_T56 l k).f3) ∧ w'.cell? (ae.add (k * 3)) = some (.int .i64 (rd_T31 q k).f0) ∧ w'.cell? ⟨(ae.add (k * 3)).block, (ae.add (k * 3)).off + 1, none⟩ = some (.int .i64 (rd_T31 q k).f1) ∧ w'.cell? ⟨(ae.add (k * 3)).block, (ae.add (k * 3)).off + 2, none⟩ = some (.int .u64 (rd_T31 q k).f2)) (ds := []) #[false, false, false, false, false, false, false, false, false, false, false] (by kernel_rfl) rfl rfl ⟨hbx, p0, p1, p2, p3, x0, x1, x2⟩ (fun hHeld => ?_)
          refine pure_ (i := 0) (N := some 18) (v := ?_) (a' := ?_) #[true, false, false, false, false, false, false, false, false, false, false] rfl rfl (by kernel_rfl) (fun _ _ _ h => h) (Or.inl ⟨by rfl, ?_⟩) ?_ ?_
          rotate_left
          · intro w'
            go_simp
            with_reducible rfl
          rotate_left
          · simp only [Act.put, List.setIfInBounds_toArray, List.set_cons_zero, List.set_cons_succ, i64_w, i32_w]
            rfl
          refine pure_ (i := 1) (N := some 19) (v := ?_) (a' := ?_) #[true, true, false, false, false, false, false, false, false, false, false] rfl rfl (by kernel_rfl) (fun _ _ _ h => h) (Or.inl ⟨by rfl, ?_⟩) ?_ ?_
          rotate_left
          · intro w'
            go_simp
            with_reducible rfl
          rotate_left
          · simp only [Act.put, List.setIfInBounds_toArray, List.set_cons_zero, List.set_cons_succ, i64_w, i32_w]
            rfl
          refine pure_ (i := 3) (N := some 21) (v := ?_) (a' := ?_) #[true, true, false, true, false, false, false, false, false, false, false] rfl rfl (by kernel_rfl) (fun _ _ _ h => h) (Or.inl ⟨by rfl, ?_⟩) ?_ ?_
          rotate_left
          · intro w'
            go_simp
            with_reducible rfl
          rotate_left
          · simp only [Act.put, List.setIfInBounds_toArray, List.set_cons_zero, List.set_cons_succ, i64_w, i32_w]
            rfl
          refine pure_ (i := 6) (N := some 24) (v := ?_) (a' := ?_) #[true, true, false, true, false, false, true, false, false, false, false] rfl rfl (by kernel_rfl) (fun _ _ _ h => h) (Or.inl ⟨by rfl, ?_⟩) ?_ ?_
          rotate_left
          · intro w'
            go_simp
            with_reducible rfl
          rotate_left
          · simp only [Act.put, List.setIfInBounds_toArray, List.set_cons_zero, List.set_cons_succ, i64_w, i32_w]
            rfl
          refine pure_ (i := 7) (N := some 25) (v := ?_) (a' := ?_) #[true, true, false, true, false, false, true, true, false, false, false] rfl rfl (by kernel_rfl) (fun _ _ _ h => h) (Or.inl ⟨by rfl, ?_⟩) ?_ ?_
          rotate_left
          · intro w'
            go_simp
            with_reducible rfl
          rotate_left
          · simp only [Act.put, List.setIfInBounds_toArray, List.set_cons_zero, List.set_cons_succ, i64_w, i32_w]
            rfl
          refine pure_ (i := 8) (N := some 26) (v := ?_) (a' := ?_) #[true, true, false, true, false, false, true, true, true, false, false] rfl rfl (by kernel_rfl) (fun _ _ _ h => h) (Or.inl ⟨by rfl, ?_⟩) ?_ ?_
          rotate_left
          · intro w'
            go_simp
            with_reducible rfl
          rotate_left
          · simp only [Act.put, List.setIfInBounds_toArray, List.set_cons_zero, List.set_cons_succ, i64_w, i32_w]
            rfl
          refine take_ (i := 2) (N := some 20) (v := ?_) (a' := ?_) #[true, true, true, true, false, false, true, true, true, false, false] rfl rfl (by kernel_rfl) (fun _ _ _ h => h) (Or.inl ⟨by rfl, ?_⟩) hHeld ?_ ?_
          rotate_left
          · rintro w' ⟨s0, s1, s2, s3, s4, s5, s6, s7⟩
            go_simp
            with_reducible rfl
          rotate_left
          · simp only [Act.put, List.setIfInBounds_toArray, List.set_cons_zero, List.set_cons_succ, i64_w, i32_w]
            rfl
          refine pure_ (i := 4) (N := some 22) (v := ?_) (a' := ?_) #[true, true, true, true, true, false, true, true, true, false, false] rfl rfl (by kernel_rfl) (fun _ _ _ h => h) (Or.inl ⟨by rfl, ?_⟩) ?_ ?_
          rotate_left
          · intro w'
            go_simp
            with_reducible rfl
          rotate_left
          · simp only [Act.put, List.setIfInBounds_toArray, List.set_cons_zero, List.set_cons_succ, i64_w, i32_w]
            rfl
          refine take_ (i := 5) (N := some 23) (v := ?_) (a' := ?_) #[true, true, true, true, true, true, true, true, true, false, false] rfl rfl (by kernel_rfl) (fun _ _ _ h => h) (Or.inl ⟨by rfl, ?_⟩) hHeld ?_ ?_
          rotate_left
          · rintro w' ⟨s0, s1, s2, s3, s4, s5, s6, s7⟩
            go_simp
            with_reducible rfl
          rotate_left
          · simp only [Act.put, List.setIfInBounds_toArray, List.set_cons_zero, List.set_cons_succ, i64_w, i32_w]
            rfl
          refine take_ (i := 9) (N := some 27) (v := ?_) (a' := ?_) #[true, true, true, true, true, true, true, true, true, true, false] rfl rfl (by kernel_rfl) (fun _ _ _ h => h) (Or.inl ⟨by rfl, ?_⟩) hHeld ?_ ?_
          rotate_left
          · rintro w' ⟨s0, s1, s2, s3, s4, s5, s6, s7⟩
            go_simp
            with_reducible rfl
          rotate_left
          · simp only [Act.put, List.setIfInBounds_toArray, List.set_cons_zero, List.set_cons_succ, i64_w, i32_w]
            rfl
          refine one_ (i := 10) (N := some 28) #[true, true, true, true, true, true, true, true, true, true, true] rfl rfl (by kernel_rfl) (by decide) (fun K hK => ?_)
          refine black_fcall (f := 29) Try.func29 (by kernel_rfl) rfl #[.agg #[.string (rd_T56 l k).f0, .bool (rd_T56 l k).f1, .int .i64 (rd_T56 l k).f2, .int .i64 (rd_T56 l k).f3], .agg #[.int .i64 (rd_T31 q k).f0, .int .i64 (rd_T31 q k).f1, .int .u64 (rd_T31 q k).f2], .pointer (some ⟨gs, 0, none⟩), .pointer (some ⟨gn, 0, none⟩)] (by rfl) rfl rfl rfl (by simp only [List.map_toArray, List.map_cons, List.map_nil]; rfl) ?_
          refine (black_that.calls (rd_T56 l k) (rd_T31 q k) spot now gs gn wr.drew hs' hn').mono ?_
          rw [HF.out]
          rintro e w3 ⟨rfl, hb⟩
          have c0 := pw_cell_below hb hbx
          have c1 := pw_cell_below hb p0
          have c2 := pw_cell_below hb p1
          have c3 := pw_cell_below hb p2
          have c4 := pw_cell_below hb p3
          have c5 := pw_cell_below hb x0
          have c6 := pw_cell_below hb x1
          have c7 := pw_cell_below hb x2
          have n0_ := Aside0.mk (below_step (by repeat (first | (with_reducible first | exact HB.out | apply below_alloc | apply pw_below_drewN | apply below_drew1) | exact HB.out)) hb); have n1_ := Aside0.mk (blk_below (by (with_reducible repeat (first | refine blk_drewN ?_ _ | refine blk_drew ?_ | refine blk_alloc ?_ _)); exact BKc.out) hb); have n2_ := Aside0.mk (Kd.R_below (by (with_reducible repeat (first | apply Kd.R_alloc | apply Kd.R_drewN | apply Kd.R_drew)); exact HO.out) hb); clear HB BKc HO; have HB := n0_; have BKc := n1_; have HO := n2_; clear n0_ n1_ n2_ hb
          refine ⟨_, rfl, ?_⟩
          refine hK.out _ _ ⟨c0, c1, c2, c3, c4, c5, c6, c7⟩ (fun hHeld => ?_)
          clear hK K
          refine norm_ (a' := ?_) ?_ ?_
          rotate_left
          · show Act.put _ (some 28) _ = _
            simp only [Act.put, List.setIfInBounds_toArray, List.set_cons_zero, List.set_cons_succ, i64_w, i32_w]
            rfl
          refine done_ (by kernel_rfl) ?_

          clear hbx p0 p1 p2 p3 x0 x1 x2 c0 c1 c2 c3 c4 c5 c6 c7
          go_wp2
          exact ⟨⟨k + 1, by omega, by rw [Int.natCast_add]; rfl, by rw [HP.out]; exact HO, HB, BKc⟩, by simp only [intOf]; omega⟩
      · have hkM : k = l.length := by omega
        subst hkM
        go_wp2
        go_ret
        exact ⟨_, rfl, HO.out, HB.out⟩

/-- the places of the open ones -/
def black_places (l : List S56) (q : List S31) (spot : Bool) (now : Int) : List Int := black_pick l q spot now (min l.length q.length)
set_option maxHeartbeats 8000000 in
set_option maxRecDepth 100000 in
theorem black_Opens2.calls (cs : Array Value) (hsz : (Try.prog.info? 37).map (·.size) = some cs.size) (Al : Option Addr) (cl : Nat) (l : List S56) (Aq : Option Addr) (cq : Nat) (q : List S31) (spot : Bool) (now : Int) (w : World) (hcs : cs[0]? = some (.slice Al l.length cl)) (hl : Kd.C k56 w Al l.length l) (hcl : l.length ≤ cl) (hq : Kd.C k31 w Aq q.length q) (hcq : q.length ≤ cq) (hql : q.length < 17592186044416) :
    Calls Try.prog 19 #[.agg cs, .slice Aq q.length cq, .bool spot, .int .u64 now] w fun e w' => ∃ v, e = .returned v ∧ Kd.R (Kd.int .i64) 3 w' w.heap.size (fun _ => True) v (black_places l q spot now) ∧ Below w.heap.size w w' := by
  have HB := Aside0.mk (Below.refl w.heap.size w)
  have HSZ := Aside0.mk hsz
  have HCS := Aside0.mk hcs
  have HL := Aside0.mk hl
  have HQ := Aside0.mk hq
  have HCL := Aside0.mk hcl
  have HCQ := Aside0.mk hcq
  have HQL := Aside0.mk hql
  clear hsz hcs hl hq hcl hcq hql
  go_enter Try.func19, Try.ntmps19
  go_wp2_with (first
    | ((with_reducible refine gate_dst (N := 4) rfl ?_); refine box_event ?hg (N := 4) ?hd (cs := cs) (t := 37) ?hr ?_; (case hd => rfl); (case hg => rfl); (case hr => first | (go_simp; done) | (go_simp; rfl)); intro gc hg w1_c hbox hb; have GGc := Aside0.mk (show w.heap.size ≤ gc from by rw [hg]; exact below_size (by repeat (first | (with_reducible first | exact HB.out | apply below_alloc | apply pw_below_drewN | apply below_drew1) | exact HB.out))); have BKc := Aside0.mk hbox; clear hbox hg; have n0_ := Aside0.mk (below_step (by repeat (first | (with_reducible first | exact HB.out | apply below_alloc | apply pw_below_drewN | apply below_drew1) | exact HB.out)) hb); clear HB; have HB := n0_; clear n0_ hb)
    | ((with_reducible refine gate_dst (N := 6) rfl ?_); refine box_event ?hg (N := 6) ?hd (cs := #[.bool spot]) (t := 4) ?hr ?_; (case hd => rfl); (case hg => rfl); (case hr => first | (go_simp; done) | (go_simp; rfl)); intro gs hg w1_s hbox hb; have GGs := Aside0.mk (show w.heap.size ≤ gs from by rw [hg]; exact below_size (by repeat (first | (with_reducible first | exact HB.out | apply below_alloc | apply pw_below_drewN | apply below_drew1) | exact HB.out))); have BKs := Aside0.mk hbox; clear hbox hg; have n0_ := Aside0.mk (below_step (by repeat (first | (with_reducible first | exact HB.out | apply below_alloc | apply pw_below_drewN | apply below_drew1) | exact HB.out)) hb); have n1_ := Aside0.mk (blk_below (by (with_reducible repeat (first | refine blk_drewN ?_ _ | refine blk_drew ?_ | refine blk_alloc ?_ _)); exact BKc.out) hb); clear HB BKc; have HB := n0_; have BKc := n1_; clear n0_ n1_ hb)
    | ((with_reducible refine gate_dst (N := 7) rfl ?_); refine box_event ?hg (N := 7) ?hd (cs := #[.int .u64 now]) (t := 23) ?hr ?_; (case hd => rfl); (case hg => rfl); (case hr => first | (go_simp; done) | (go_simp; rfl)); intro gn hg w1_n hbox hb; have GGn := Aside0.mk (show w.heap.size ≤ gn from by rw [hg]; exact below_size (by repeat (first | (with_reducible first | exact HB.out | apply below_alloc | apply pw_below_drewN | apply below_drew1) | exact HB.out))); have BKn := Aside0.mk hbox; clear hbox hg; have n0_ := Aside0.mk (below_step (by repeat (first | (with_reducible first | exact HB.out | apply below_alloc | apply pw_below_drewN | apply below_drew1) | exact HB.out)) hb); have n1_ := Aside0.mk (blk_below (by (with_reducible repeat (first | refine blk_drewN ?_ _ | refine blk_drew ?_ | refine blk_alloc ?_ _)); exact BKc.out) hb); have n2_ := Aside0.mk (blk_below (by (with_reducible repeat (first | refine blk_drewN ?_ _ | refine blk_drew ?_ | refine blk_alloc ?_ _)); exact BKs.out) hb); clear HB BKc BKs; have HB := n0_; have BKc := n1_; have BKs := n2_; clear n0_ n1_ n2_ hb)
    | ((with_reducible refine gate_dst (N := 9) rfl ?_); refine wpList_load_row rfl 37 (.tmp 4) rfl gc rfl 37 cs (0, 0) _ (by (with_reducible repeat (first | refine blk_drewN ?_ _ | refine blk_drew ?_ | refine blk_alloc ?_ _)); exact BKc.out) Try.underlying37 rfl HSZ.out ?_)
    | (go_at_call 28; with_reducible refine (black_those.calls cs Al cl l Aq cq q spot now gs gn _ HCS.out (Kd.C_below HL.out (by repeat (first | (with_reducible first | exact HB.out | apply below_alloc | apply pw_below_drewN | apply below_drew1) | exact HB.out))) HCL.out (Kd.C_below HQ.out (by repeat (first | (with_reducible first | exact HB.out | apply below_alloc | apply pw_below_drewN | apply below_drew1) | exact HB.out))) HCQ.out HQL.out ?s1 ?s2).mono ?_; (case s1 => exact (blk_cell (by (with_reducible repeat (first | refine blk_drewN ?_ _ | refine blk_drew ?_ | refine blk_alloc ?_ _)); exact BKs.out) 0).trans rfl); (case s2 => exact (blk_cell (by (with_reducible repeat (first | refine blk_drewN ?_ _ | refine blk_drew ?_ | refine blk_alloc ?_ _)); exact BKn.out) 0).trans rfl); rintro e w' ⟨v, rfl, ho, hb⟩; have HO := Aside0.mk (Kd.R_lower ho (below_size (by repeat (first | (with_reducible first | exact HB.out | apply below_alloc | apply pw_below_drewN | apply below_drew1) | exact HB.out)))); clear ho; have n0_ := Aside0.mk (below_step (by repeat (first | (with_reducible first | exact HB.out | apply below_alloc | apply pw_below_drewN | apply below_drew1) | exact HB.out)) hb); clear HB; have HB := n0_; clear n0_ hb))
  go_ret
  exact ⟨_, rfl, by (with_reducible repeat (first | apply Kd.R_alloc | apply Kd.R_drewN | apply Kd.R_drew)); exact HO.out, by repeat (first | (with_reducible first | exact HB.out | apply below_alloc | apply pw_below_drewN | apply below_drew1) | exact HB.out)⟩

set_option maxHeartbeats 8000000 in
set_option maxRecDepth 100000 in
theorem black_some.calls (cs : Array Value) (hsz : (Try.prog.info? 37).map (·.size) = some cs.size) (Al : Option Addr) (cl : Nat) (l : List S56) (Aq : Option Addr) (cq : Nat) (q : List S31) (spot : Bool) (now : Int) (gc gq gn : Nat) (w : World) (hcs : cs[0]? = some (.slice Al l.length cl)) (hl : Kd.C k56 w Al l.length l) (hcl : l.length ≤ cl) (hq : Kd.C k31 w Aq q.length q) (hcq : q.length ≤ cq) (hql : q.length < 17592186044416)
    (hbc : w.heap[gc]? = some (.cells cs 37 (0, 0))) (hbq : w.heap[gq]? = some (.cells #[.slice Aq q.length cq] 22 (0, 0))) (hbn : w.heap[gn]? = some (.cells #[.int .u64 now] 23 (0, 0))) :
    Calls Try.prog 27 #[.bool spot, .pointer (some ⟨gc, 0, none⟩), .pointer (some ⟨gq, 0, none⟩), .pointer (some ⟨gn, 0, none⟩)] w fun e w' => e = .returned (.bool (decide (0 < (black_places l q spot now).length))) ∧ Below w.heap.size w w' := by
  have HB := Aside0.mk (Below.refl w.heap.size w)
  have HSZ := Aside0.mk hsz
  have HCS := Aside0.mk hcs
  have HL := Aside0.mk hl
  have HQ := Aside0.mk hq
  have HCL := Aside0.mk hcl
  have HCQ := Aside0.mk hcq
  have HQL := Aside0.mk hql
  have BKc := Aside0.mk hbc
  have cq0 : w.cell? ⟨gq, 0, none⟩ = some (.slice Aq q.length cq) := (blk_cell hbq 0).trans rfl
  have cn0 : w.cell? ⟨gn, 0, none⟩ = some (.int .u64 now) := (blk_cell hbn 0).trans rfl
  clear hsz hcs hl hq hcl hcq hql hbc hbq hbn
  go_enter Try.func27, Try.ntmps27
  go_wp2_with (first
    | ((with_reducible refine gate_dst (N := 6) rfl ?_); refine wpList_load_row rfl 37 (.tmp 1) rfl gc rfl 37 cs (0, 0) _ (by (with_reducible repeat (first | refine blk_drewN ?_ _ | refine blk_drew ?_ | refine blk_alloc ?_ _)); exact BKc.out) Try.underlying37 rfl HSZ.out ?_)
    | (go_at_call 19; with_reducible refine (black_Opens2.calls cs HSZ.out Al cl l Aq cq q spot now _ HCS.out (Kd.C_below HL.out (by repeat (first | (with_reducible first | exact HB.out | apply below_alloc | apply pw_below_drewN | apply below_drew1) | exact HB.out))) HCL.out (Kd.C_below HQ.out (by repeat (first | (with_reducible first | exact HB.out | apply below_alloc | apply pw_below_drewN | apply below_drew1) | exact HB.out))) HCQ.out HQL.out).mono ?_; rintro e w' ⟨v, rfl, ho, hb⟩; obtain ⟨A, c, eA⟩ := Kd.R_slice ho; subst eA; clear ho; have n0_ := Aside0.mk (below_step (by repeat (first | (with_reducible first | exact HB.out | apply below_alloc | apply pw_below_drewN | apply below_drew1) | exact HB.out)) hb); clear HB; have HB := n0_; clear n0_ hb))
  go_ret
  exact ⟨rfl, by repeat (first | (with_reducible first | exact HB.out | apply below_alloc | apply pw_below_drewN | apply below_drew1) | exact HB.out)⟩

def black_class (l : List S56) (q : List S31) (fallback spot : Bool) (now : Int) : Bool × Bool :=
  if 0 < (black_places l q spot now).length then (spot, true) else if spot = true then (if fallback = true then (false, decide (0 < (black_places l q false now).length)) else (false, false)) else (false, false)
set_option maxHeartbeats 8000000 in
set_option maxRecDepth 100000 in
theorem black_Class2.calls (cs : Array Value) (hsz : (Try.prog.info? 37).map (·.size) = some cs.size) (fallback : Bool) (Al : Option Addr) (cl : Nat) (l : List S56) (Aq : Option Addr) (cq : Nat) (q : List S31) (spot : Bool) (now : Int) (w : World) (hcs : cs[0]? = some (.slice Al l.length cl)) (hfb : cs[3]? = some (.bool fallback)) (hl : Kd.C k56 w Al l.length l) (hcl : l.length ≤ cl) (hq : Kd.C k31 w Aq q.length q) (hcq : q.length ≤ cq) (hql : q.length < 17592186044416) :
    Calls Try.prog 14 #[.agg cs, .slice Aq q.length cq, .bool spot, .int .u64 now] w fun e w' => e = .returned (.tuple #[.bool (black_class l q fallback spot now).1, .bool (black_class l q fallback spot now).2]) ∧ Below w.heap.size w w' := by
  have HB := Aside0.mk (Below.refl w.heap.size w)
  have HSZ := Aside0.mk hsz
  have HCS := Aside0.mk hcs
  have HFB := Aside0.mk hfb
  have HL := Aside0.mk hl
  have HQ := Aside0.mk hq
  have HCL := Aside0.mk hcl
  have HCQ := Aside0.mk hcq
  have HQL := Aside0.mk hql
  clear hsz hcs hl hq hcl hcq hql hfb
  obtain ⟨res, hres⟩ : ∃ res, res = black_class l q fallback spot now := ⟨_, rfl⟩
  rw [← hres]
  unfold black_class at hres
  by_cases h1 : 0 < (black_places l q spot now).length
  · rw [if_pos h1] at hres
    subst hres
    have hd := decide_eq_true h1
    clear h1
    go_enter Try.func14, Try.ntmps14
    go_wp2_with (first
            | ((with_reducible refine gate_dst (N := 4) rfl ?_); refine box_event ?hg (N := 4) ?hd (cs := cs) (t := 37) ?hr ?_; (case hd => rfl); (case hg => rfl); (case hr => first | (go_simp; done) | (go_simp; rfl)); intro gc hg w1_c hbox hb; have GGc := Aside0.mk (show w.heap.size ≤ gc from by rw [hg]; exact below_size (by repeat (first | (with_reducible first | exact HB.out | apply below_alloc | apply pw_below_drewN | apply below_drew1) | exact HB.out))); have BKc := Aside0.mk hbox; clear hbox hg; have n0_ := Aside0.mk (below_step (by repeat (first | (with_reducible first | exact HB.out | apply below_alloc | apply pw_below_drewN | apply below_drew1) | exact HB.out)) hb); clear HB; have HB := n0_; clear n0_ hb)
            | ((with_reducible refine gate_dst (N := 5) rfl ?_); refine box_event ?hg (N := 5) ?hd (cs := #[.slice Aq q.length cq]) (t := 22) ?hr ?_; (case hd => rfl); (case hg => rfl); (case hr => first | (go_simp; done) | (go_simp; rfl)); intro gq hg w1_q hbox hb; have GGq := Aside0.mk (show w.heap.size ≤ gq from by rw [hg]; exact below_size (by repeat (first | (with_reducible first | exact HB.out | apply below_alloc | apply pw_below_drewN | apply below_drew1) | exact HB.out))); have BKq := Aside0.mk hbox; clear hbox hg; have n0_ := Aside0.mk (below_step (by repeat (first | (with_reducible first | exact HB.out | apply below_alloc | apply pw_below_drewN | apply below_drew1) | exact HB.out)) hb); have n1_ := Aside0.mk (blk_below (by (with_reducible repeat (first | refine blk_drewN ?_ _ | refine blk_drew ?_ | refine blk_alloc ?_ _)); exact BKc.out) hb); clear HB BKc; have HB := n0_; have BKc := n1_; clear n0_ n1_ hb)
            | ((with_reducible refine gate_dst (N := 7) rfl ?_); refine box_event ?hg (N := 7) ?hd (cs := #[.int .u64 now]) (t := 23) ?hr ?_; (case hd => rfl); (case hg => rfl); (case hr => first | (go_simp; done) | (go_simp; rfl)); intro gn hg w1_n hbox hb; have GGn := Aside0.mk (show w.heap.size ≤ gn from by rw [hg]; exact below_size (by repeat (first | (with_reducible first | exact HB.out | apply below_alloc | apply pw_below_drewN | apply below_drew1) | exact HB.out))); have BKn := Aside0.mk hbox; clear hbox hg; have n0_ := Aside0.mk (below_step (by repeat (first | (with_reducible first | exact HB.out | apply below_alloc | apply pw_below_drewN | apply below_drew1) | exact HB.out)) hb); have n1_ := Aside0.mk (blk_below (by (with_reducible repeat (first | refine blk_drewN ?_ _ | refine blk_drew ?_ | refine blk_alloc ?_ _)); exact BKc.out) hb); have n2_ := Aside0.mk (blk_below (by (with_reducible repeat (first | refine blk_drewN ?_ _ | refine blk_drew ?_ | refine blk_alloc ?_ _)); exact BKq.out) hb); clear HB BKc BKq; have HB := n0_; have BKc := n1_; have BKq := n2_; clear n0_ n1_ n2_ hb)
            | (go_at_call 27; with_reducible refine (black_some.calls cs HSZ.out Al cl l Aq cq q spot now gc gq gn _ HCS.out (Kd.C_below HL.out (by repeat (first | (with_reducible first | exact HB.out | apply below_alloc | apply pw_below_drewN | apply below_drew1) | exact HB.out))) HCL.out (Kd.C_below HQ.out (by repeat (first | (with_reducible first | exact HB.out | apply below_alloc | apply pw_below_drewN | apply below_drew1) | exact HB.out))) HCQ.out HQL.out (by (with_reducible repeat (first | refine blk_drewN ?_ _ | refine blk_drew ?_ | refine blk_alloc ?_ _)); exact BKc.out) (by (with_reducible repeat (first | refine blk_drewN ?_ _ | refine blk_drew ?_ | refine blk_alloc ?_ _)); exact BKq.out) (by (with_reducible repeat (first | refine blk_drewN ?_ _ | refine blk_drew ?_ | refine blk_alloc ?_ _)); exact BKn.out)).mono ?_; rintro e w' ⟨rfl, hb⟩; have n0_ := Aside0.mk (below_step (by repeat (first | (with_reducible first | exact HB.out | apply below_alloc | apply pw_below_drewN | apply below_drew1) | exact HB.out)) hb); have n1_ := Aside0.mk (blk_below (by (with_reducible repeat (first | refine blk_drewN ?_ _ | refine blk_drew ?_ | refine blk_alloc ?_ _)); exact BKc.out) hb); have n2_ := Aside0.mk (blk_below (by (with_reducible repeat (first | refine blk_drewN ?_ _ | refine blk_drew ?_ | refine blk_alloc ?_ _)); exact BKq.out) hb); have n3_ := Aside0.mk (blk_below (by (with_reducible repeat (first | refine blk_drewN ?_ _ | refine blk_drew ?_ | refine blk_alloc ?_ _)); exact BKn.out) hb); clear HB BKc BKq BKn; have HB := n0_; have BKc := n1_; have BKq := n2_; have BKn := n3_; clear n0_ n1_ n2_ n3_ hb))
    go_ret2
    exact ⟨rfl, by repeat (first | (with_reducible first | exact HB.out | apply below_alloc | apply pw_below_drewN | apply below_drew1) | exact HB.out)⟩
  · rw [if_neg h1] at hres
    have hd := decide_eq_false h1
    clear h1
    cases spot with
    | false =>
      rw [if_neg (by decide)] at hres
      subst hres
      go_enter Try.func14, Try.ntmps14
      go_wp2_with (first
            | ((with_reducible refine gate_dst (N := 4) rfl ?_); refine box_event ?hg (N := 4) ?hd (cs := cs) (t := 37) ?hr ?_; (case hd => rfl); (case hg => rfl); (case hr => first | (go_simp; done) | (go_simp; rfl)); intro gc hg w1_c hbox hb; have GGc := Aside0.mk (show w.heap.size ≤ gc from by rw [hg]; exact below_size (by repeat (first | (with_reducible first | exact HB.out | apply below_alloc | apply pw_below_drewN | apply below_drew1) | exact HB.out))); have BKc := Aside0.mk hbox; clear hbox hg; have n0_ := Aside0.mk (below_step (by repeat (first | (with_reducible first | exact HB.out | apply below_alloc | apply pw_below_drewN | apply below_drew1) | exact HB.out)) hb); clear HB; have HB := n0_; clear n0_ hb)
            | ((with_reducible refine gate_dst (N := 5) rfl ?_); refine box_event ?hg (N := 5) ?hd (cs := #[.slice Aq q.length cq]) (t := 22) ?hr ?_; (case hd => rfl); (case hg => rfl); (case hr => first | (go_simp; done) | (go_simp; rfl)); intro gq hg w1_q hbox hb; have GGq := Aside0.mk (show w.heap.size ≤ gq from by rw [hg]; exact below_size (by repeat (first | (with_reducible first | exact HB.out | apply below_alloc | apply pw_below_drewN | apply below_drew1) | exact HB.out))); have BKq := Aside0.mk hbox; clear hbox hg; have n0_ := Aside0.mk (below_step (by repeat (first | (with_reducible first | exact HB.out | apply below_alloc | apply pw_below_drewN | apply below_drew1) | exact HB.out)) hb); have n1_ := Aside0.mk (blk_below (by (with_reducible repeat (first | refine blk_drewN ?_ _ | refine blk_drew ?_ | refine blk_alloc ?_ _)); exact BKc.out) hb); clear HB BKc; have HB := n0_; have BKc := n1_; clear n0_ n1_ hb)
            | ((with_reducible refine gate_dst (N := 7) rfl ?_); refine box_event ?hg (N := 7) ?hd (cs := #[.int .u64 now]) (t := 23) ?hr ?_; (case hd => rfl); (case hg => rfl); (case hr => first | (go_simp; done) | (go_simp; rfl)); intro gn hg w1_n hbox hb; have GGn := Aside0.mk (show w.heap.size ≤ gn from by rw [hg]; exact below_size (by repeat (first | (with_reducible first | exact HB.out | apply below_alloc | apply pw_below_drewN | apply below_drew1) | exact HB.out))); have BKn := Aside0.mk hbox; clear hbox hg; have n0_ := Aside0.mk (below_step (by repeat (first | (with_reducible first | exact HB.out | apply below_alloc | apply pw_below_drewN | apply below_drew1) | exact HB.out)) hb); have n1_ := Aside0.mk (blk_below (by (with_reducible repeat (first | refine blk_drewN ?_ _ | refine blk_drew ?_ | refine blk_alloc ?_ _)); exact BKc.out) hb); have n2_ := Aside0.mk (blk_below (by (with_reducible repeat (first | refine blk_drewN ?_ _ | refine blk_drew ?_ | refine blk_alloc ?_ _)); exact BKq.out) hb); clear HB BKc BKq; have HB := n0_; have BKc := n1_; have BKq := n2_; clear n0_ n1_ n2_ hb)
            | (go_at_call 27; with_reducible refine (black_some.calls cs HSZ.out Al cl l Aq cq q false now gc gq gn _ HCS.out (Kd.C_below HL.out (by repeat (first | (with_reducible first | exact HB.out | apply below_alloc | apply pw_below_drewN | apply below_drew1) | exact HB.out))) HCL.out (Kd.C_below HQ.out (by repeat (first | (with_reducible first | exact HB.out | apply below_alloc | apply pw_below_drewN | apply below_drew1) | exact HB.out))) HCQ.out HQL.out (by (with_reducible repeat (first | refine blk_drewN ?_ _ | refine blk_drew ?_ | refine blk_alloc ?_ _)); exact BKc.out) (by (with_reducible repeat (first | refine blk_drewN ?_ _ | refine blk_drew ?_ | refine blk_alloc ?_ _)); exact BKq.out) (by (with_reducible repeat (first | refine blk_drewN ?_ _ | refine blk_drew ?_ | refine blk_alloc ?_ _)); exact BKn.out)).mono ?_; rintro e w' ⟨rfl, hb⟩; have n0_ := Aside0.mk (below_step (by repeat (first | (with_reducible first | exact HB.out | apply below_alloc | apply pw_below_drewN | apply below_drew1) | exact HB.out)) hb); have n1_ := Aside0.mk (blk_below (by (with_reducible repeat (first | refine blk_drewN ?_ _ | refine blk_drew ?_ | refine blk_alloc ?_ _)); exact BKc.out) hb); have n2_ := Aside0.mk (blk_below (by (with_reducible repeat (first | refine blk_drewN ?_ _ | refine blk_drew ?_ | refine blk_alloc ?_ _)); exact BKq.out) hb); have n3_ := Aside0.mk (blk_below (by (with_reducible repeat (first | refine blk_drewN ?_ _ | refine blk_drew ?_ | refine blk_alloc ?_ _)); exact BKn.out) hb); clear HB BKc BKq BKn; have HB := n0_; have BKc := n1_; have BKq := n2_; have BKn := n3_; clear n0_ n1_ n2_ n3_ hb))
      go_ret2
      exact ⟨rfl, by repeat (first | (with_reducible first | exact HB.out | apply below_alloc | apply pw_below_drewN | apply below_drew1) | exact HB.out)⟩
    | true =>
      rw [if_pos rfl] at hres
      cases fallback with
      | false =>
        rw [if_neg (by decide)] at hres
        subst hres
        go_enter Try.func14, Try.ntmps14
        go_wp2_with (first
            | ((with_reducible refine gate_dst (N := 4) rfl ?_); refine box_event ?hg (N := 4) ?hd (cs := cs) (t := 37) ?hr ?_; (case hd => rfl); (case hg => rfl); (case hr => first | (go_simp; done) | (go_simp; rfl)); intro gc hg w1_c hbox hb; have GGc := Aside0.mk (show w.heap.size ≤ gc from by rw [hg]; exact below_size (by repeat (first | (with_reducible first | exact HB.out | apply below_alloc | apply pw_below_drewN | apply below_drew1) | exact HB.out))); have BKc := Aside0.mk hbox; clear hbox hg; have n0_ := Aside0.mk (below_step (by repeat (first | (with_reducible first | exact HB.out | apply below_alloc | apply pw_below_drewN | apply below_drew1) | exact HB.out)) hb); clear HB; have HB := n0_; clear n0_ hb)
            | ((with_reducible refine gate_dst (N := 5) rfl ?_); refine box_event ?hg (N := 5) ?hd (cs := #[.slice Aq q.length cq]) (t := 22) ?hr ?_; (case hd => rfl); (case hg => rfl); (case hr => first | (go_simp; done) | (go_simp; rfl)); intro gq hg w1_q hbox hb; have GGq := Aside0.mk (show w.heap.size ≤ gq from by rw [hg]; exact below_size (by repeat (first | (with_reducible first | exact HB.out | apply below_alloc | apply pw_below_drewN | apply below_drew1) | exact HB.out))); have BKq := Aside0.mk hbox; clear hbox hg; have n0_ := Aside0.mk (below_step (by repeat (first | (with_reducible first | exact HB.out | apply below_alloc | apply pw_below_drewN | apply below_drew1) | exact HB.out)) hb); have n1_ := Aside0.mk (blk_below (by (with_reducible repeat (first | refine blk_drewN ?_ _ | refine blk_drew ?_ | refine blk_alloc ?_ _)); exact BKc.out) hb); clear HB BKc; have HB := n0_; have BKc := n1_; clear n0_ n1_ hb)
            | ((with_reducible refine gate_dst (N := 7) rfl ?_); refine box_event ?hg (N := 7) ?hd (cs := #[.int .u64 now]) (t := 23) ?hr ?_; (case hd => rfl); (case hg => rfl); (case hr => first | (go_simp; done) | (go_simp; rfl)); intro gn hg w1_n hbox hb; have GGn := Aside0.mk (show w.heap.size ≤ gn from by rw [hg]; exact below_size (by repeat (first | (with_reducible first | exact HB.out | apply below_alloc | apply pw_below_drewN | apply below_drew1) | exact HB.out))); have BKn := Aside0.mk hbox; clear hbox hg; have n0_ := Aside0.mk (below_step (by repeat (first | (with_reducible first | exact HB.out | apply below_alloc | apply pw_below_drewN | apply below_drew1) | exact HB.out)) hb); have n1_ := Aside0.mk (blk_below (by (with_reducible repeat (first | refine blk_drewN ?_ _ | refine blk_drew ?_ | refine blk_alloc ?_ _)); exact BKc.out) hb); have n2_ := Aside0.mk (blk_below (by (with_reducible repeat (first | refine blk_drewN ?_ _ | refine blk_drew ?_ | refine blk_alloc ?_ _)); exact BKq.out) hb); clear HB BKc BKq; have HB := n0_; have BKc := n1_; have BKq := n2_; clear n0_ n1_ n2_ hb)
            | (go_at_call 27; with_reducible refine (black_some.calls cs HSZ.out Al cl l Aq cq q true now gc gq gn _ HCS.out (Kd.C_below HL.out (by repeat (first | (with_reducible first | exact HB.out | apply below_alloc | apply pw_below_drewN | apply below_drew1) | exact HB.out))) HCL.out (Kd.C_below HQ.out (by repeat (first | (with_reducible first | exact HB.out | apply below_alloc | apply pw_below_drewN | apply below_drew1) | exact HB.out))) HCQ.out HQL.out (by (with_reducible repeat (first | refine blk_drewN ?_ _ | refine blk_drew ?_ | refine blk_alloc ?_ _)); exact BKc.out) (by (with_reducible repeat (first | refine blk_drewN ?_ _ | refine blk_drew ?_ | refine blk_alloc ?_ _)); exact BKq.out) (by (with_reducible repeat (first | refine blk_drewN ?_ _ | refine blk_drew ?_ | refine blk_alloc ?_ _)); exact BKn.out)).mono ?_; rintro e w' ⟨rfl, hb⟩; have n0_ := Aside0.mk (below_step (by repeat (first | (with_reducible first | exact HB.out | apply below_alloc | apply pw_below_drewN | apply below_drew1) | exact HB.out)) hb); have n1_ := Aside0.mk (blk_below (by (with_reducible repeat (first | refine blk_drewN ?_ _ | refine blk_drew ?_ | refine blk_alloc ?_ _)); exact BKc.out) hb); have n2_ := Aside0.mk (blk_below (by (with_reducible repeat (first | refine blk_drewN ?_ _ | refine blk_drew ?_ | refine blk_alloc ?_ _)); exact BKq.out) hb); have n3_ := Aside0.mk (blk_below (by (with_reducible repeat (first | refine blk_drewN ?_ _ | refine blk_drew ?_ | refine blk_alloc ?_ _)); exact BKn.out) hb); clear HB BKc BKq BKn; have HB := n0_; have BKc := n1_; have BKq := n2_; have BKn := n3_; clear n0_ n1_ n2_ n3_ hb; have hfb : w'.cell? ⟨gc, 3, none⟩ = some (.bool false) := (blk_cell BKc.out 3).trans HFB.out))
        go_ret2
        exact ⟨rfl, by repeat (first | (with_reducible first | exact HB.out | apply below_alloc | apply pw_below_drewN | apply below_drew1) | exact HB.out)⟩
      | true =>
        rw [if_pos rfl] at hres
        subst hres
        go_enter Try.func14, Try.ntmps14
        go_wp2_with (first
            | ((with_reducible refine gate_dst (N := 4) rfl ?_); refine box_event ?hg (N := 4) ?hd (cs := cs) (t := 37) ?hr ?_; (case hd => rfl); (case hg => rfl); (case hr => first | (go_simp; done) | (go_simp; rfl)); intro gc hg w1_c hbox hb; have GGc := Aside0.mk (show w.heap.size ≤ gc from by rw [hg]; exact below_size (by repeat (first | (with_reducible first | exact HB.out | apply below_alloc | apply pw_below_drewN | apply below_drew1) | exact HB.out))); have BKc := Aside0.mk hbox; clear hbox hg; have n0_ := Aside0.mk (below_step (by repeat (first | (with_reducible first | exact HB.out | apply below_alloc | apply pw_below_drewN | apply below_drew1) | exact HB.out)) hb); clear HB; have HB := n0_; clear n0_ hb)
            | ((with_reducible refine gate_dst (N := 5) rfl ?_); refine box_event ?hg (N := 5) ?hd (cs := #[.slice Aq q.length cq]) (t := 22) ?hr ?_; (case hd => rfl); (case hg => rfl); (case hr => first | (go_simp; done) | (go_simp; rfl)); intro gq hg w1_q hbox hb; have GGq := Aside0.mk (show w.heap.size ≤ gq from by rw [hg]; exact below_size (by repeat (first | (with_reducible first | exact HB.out | apply below_alloc | apply pw_below_drewN | apply below_drew1) | exact HB.out))); have BKq := Aside0.mk hbox; clear hbox hg; have n0_ := Aside0.mk (below_step (by repeat (first | (with_reducible first | exact HB.out | apply below_alloc | apply pw_below_drewN | apply below_drew1) | exact HB.out)) hb); have n1_ := Aside0.mk (blk_below (by (with_reducible repeat (first | refine blk_drewN ?_ _ | refine blk_drew ?_ | refine blk_alloc ?_ _)); exact BKc.out) hb); clear HB BKc; have HB := n0_; have BKc := n1_; clear n0_ n1_ hb)
            | ((with_reducible refine gate_dst (N := 7) rfl ?_); refine box_event ?hg (N := 7) ?hd (cs := #[.int .u64 now]) (t := 23) ?hr ?_; (case hd => rfl); (case hg => rfl); (case hr => first | (go_simp; done) | (go_simp; rfl)); intro gn hg w1_n hbox hb; have GGn := Aside0.mk (show w.heap.size ≤ gn from by rw [hg]; exact below_size (by repeat (first | (with_reducible first | exact HB.out | apply below_alloc | apply pw_below_drewN | apply below_drew1) | exact HB.out))); have BKn := Aside0.mk hbox; clear hbox hg; have n0_ := Aside0.mk (below_step (by repeat (first | (with_reducible first | exact HB.out | apply below_alloc | apply pw_below_drewN | apply below_drew1) | exact HB.out)) hb); have n1_ := Aside0.mk (blk_below (by (with_reducible repeat (first | refine blk_drewN ?_ _ | refine blk_drew ?_ | refine blk_alloc ?_ _)); exact BKc.out) hb); have n2_ := Aside0.mk (blk_below (by (with_reducible repeat (first | refine blk_drewN ?_ _ | refine blk_drew ?_ | refine blk_alloc ?_ _)); exact BKq.out) hb); clear HB BKc BKq; have HB := n0_; have BKc := n1_; have BKq := n2_; clear n0_ n1_ n2_ hb)
            | (go_at_call 27; with_reducible refine (black_some.calls cs HSZ.out Al cl l Aq cq q true now gc gq gn _ HCS.out (Kd.C_below HL.out (by repeat (first | (with_reducible first | exact HB.out | apply below_alloc | apply pw_below_drewN | apply below_drew1) | exact HB.out))) HCL.out (Kd.C_below HQ.out (by repeat (first | (with_reducible first | exact HB.out | apply below_alloc | apply pw_below_drewN | apply below_drew1) | exact HB.out))) HCQ.out HQL.out (by (with_reducible repeat (first | refine blk_drewN ?_ _ | refine blk_drew ?_ | refine blk_alloc ?_ _)); exact BKc.out) (by (with_reducible repeat (first | refine blk_drewN ?_ _ | refine blk_drew ?_ | refine blk_alloc ?_ _)); exact BKq.out) (by (with_reducible repeat (first | refine blk_drewN ?_ _ | refine blk_drew ?_ | refine blk_alloc ?_ _)); exact BKn.out)).mono ?_; rintro e w' ⟨rfl, hb⟩; have n0_ := Aside0.mk (below_step (by repeat (first | (with_reducible first | exact HB.out | apply below_alloc | apply pw_below_drewN | apply below_drew1) | exact HB.out)) hb); have n1_ := Aside0.mk (blk_below (by (with_reducible repeat (first | refine blk_drewN ?_ _ | refine blk_drew ?_ | refine blk_alloc ?_ _)); exact BKc.out) hb); have n2_ := Aside0.mk (blk_below (by (with_reducible repeat (first | refine blk_drewN ?_ _ | refine blk_drew ?_ | refine blk_alloc ?_ _)); exact BKq.out) hb); have n3_ := Aside0.mk (blk_below (by (with_reducible repeat (first | refine blk_drewN ?_ _ | refine blk_drew ?_ | refine blk_alloc ?_ _)); exact BKn.out) hb); clear HB BKc BKq BKn; have HB := n0_; have BKc := n1_; have BKq := n2_; have BKn := n3_; clear n0_ n1_ n2_ n3_ hb; have hfb : w'.cell? ⟨gc, 3, none⟩ = some (.bool true) := (blk_cell BKc.out 3).trans HFB.out)
            | (go_at_call 27; with_reducible refine (black_some.calls cs HSZ.out Al cl l Aq cq q false now gc gq gn _ HCS.out (Kd.C_below HL.out (by repeat (first | (with_reducible first | exact HB.out | apply below_alloc | apply pw_below_drewN | apply below_drew1) | exact HB.out))) HCL.out (Kd.C_below HQ.out (by repeat (first | (with_reducible first | exact HB.out | apply below_alloc | apply pw_below_drewN | apply below_drew1) | exact HB.out))) HCQ.out HQL.out (by (with_reducible repeat (first | refine blk_drewN ?_ _ | refine blk_drew ?_ | refine blk_alloc ?_ _)); exact BKc.out) (by (with_reducible repeat (first | refine blk_drewN ?_ _ | refine blk_drew ?_ | refine blk_alloc ?_ _)); exact BKq.out) (by (with_reducible repeat (first | refine blk_drewN ?_ _ | refine blk_drew ?_ | refine blk_alloc ?_ _)); exact BKn.out)).mono ?_; rintro e w' ⟨rfl, hb⟩; have n0_ := Aside0.mk (below_step (by repeat (first | (with_reducible first | exact HB.out | apply below_alloc | apply pw_below_drewN | apply below_drew1) | exact HB.out)) hb); have n1_ := Aside0.mk (blk_below (by (with_reducible repeat (first | refine blk_drewN ?_ _ | refine blk_drew ?_ | refine blk_alloc ?_ _)); exact BKc.out) hb); have n2_ := Aside0.mk (blk_below (by (with_reducible repeat (first | refine blk_drewN ?_ _ | refine blk_drew ?_ | refine blk_alloc ?_ _)); exact BKq.out) hb); have n3_ := Aside0.mk (blk_below (by (with_reducible repeat (first | refine blk_drewN ?_ _ | refine blk_drew ?_ | refine blk_alloc ?_ _)); exact BKn.out) hb); clear HB BKc BKq BKn; have HB := n0_; have BKc := n1_; have BKq := n2_; have BKn := n3_; clear n0_ n1_ n2_ n3_ hb))
        go_ret2
        exact ⟨rfl, by repeat (first | (with_reducible first | exact HB.out | apply below_alloc | apply pw_below_drewN | apply below_drew1) | exact HB.out)⟩

theorem black_Class.sz (A0_0 : Option Addr) (c0_0 : Nat) (l0_0 : List (S56)) (a0_1 : Int) (a0_2 : Int) (a0_3 : Bool) (a0_4 : Int) (a0_5 : Int) (a0_6 : Int) (a0_7 : Int) (a0_8 : Int) (a0_9 : Int) (a0_10 : Int) (a0_11 : Int) (a0_12 : Int) (a0_13 : Int) (a0_14 : Int) (a0_15 : Int) (a0_16 : Bool) (a0_17 : Int) (A0_18 : Option Addr) (c0_18 : Nat) (l0_18 : List (S75)) (A0_19 : Option Addr) (c0_19 : Nat) (l0_19 : List (S77)) : (Try.prog.info? 37).map (·.size) = some (#[.slice A0_0 l0_0.length c0_0, .int .u8 a0_1, .int .i64 a0_2, .bool a0_3, .int .i64 a0_4, .int .i64 a0_5, .int .i64 a0_6, .int .i64 a0_7, .int .i64 a0_8, .int .i64 a0_9, .int .u64 a0_10, .int .u64 a0_11, .int .u64 a0_12, .int .u64 a0_13, .int .u64 a0_14, .int .u64 a0_15, .bool a0_16, .int .i64 a0_17, .slice A0_18 l0_18.length c0_18, .slice A0_19 l0_19.length c0_19] : Array Value).size := by
  have h : (Try.prog.info? 37).map (·.size) = some 20 := by kernel_rfl
  rw [h]; rfl
def black_Class.f (l0_0 : List (S56)) (a0_1 : Int) (a0_2 : Int) (a0_3 : Bool) (a0_4 : Int) (a0_5 : Int) (a0_6 : Int) (a0_7 : Int) (a0_8 : Int) (a0_9 : Int) (a0_10 : Int) (a0_11 : Int) (a0_12 : Int) (a0_13 : Int) (a0_14 : Int) (a0_15 : Int) (a0_16 : Bool) (a0_17 : Int) (l0_18 : List (S75)) (l0_19 : List (S77)) (l1 : List S31) (a2 : Bool) (a3 : Int) : Option (Bool × Bool) := if l1.length < 17592186044416 then some (black_class l0_0 l1 a0_3 a2 a3) else none
theorem black_Class.calls (A0_0 : Option Addr) (c0_0 : Nat) (l0_0 : List (S56)) (a0_1 : Int) (a0_2 : Int) (a0_3 : Bool) (a0_4 : Int) (a0_5 : Int) (a0_6 : Int) (a0_7 : Int) (a0_8 : Int) (a0_9 : Int) (a0_10 : Int) (a0_11 : Int) (a0_12 : Int) (a0_13 : Int) (a0_14 : Int) (a0_15 : Int) (a0_16 : Bool) (a0_17 : Int) (A0_18 : Option Addr) (c0_18 : Nat) (l0_18 : List (S75)) (A0_19 : Option Addr) (c0_19 : Nat) (l0_19 : List (S77)) (A1 : Option Addr) (c1 : Nat) (l1 : List S31) (a2 : Bool) (a3 : Int) (r1 : Bool) (r2 : Bool) (w : World) (hr0_0 : Kd.C k56 w A0_0 l0_0.length l0_0) (hc0_0 : l0_0.length ≤ c0_0) (hr0_18 : Kd.C k75 w A0_18 l0_18.length l0_18) (hc0_18 : l0_18.length ≤ c0_18) (hr0_19 : Kd.C k77 w A0_19 l0_19.length l0_19) (hc0_19 : l0_19.length ≤ c0_19) (hr1 : Kd.C k31 w A1 l1.length l1) (hc1 : l1.length ≤ c1) (h : black_Class.f l0_0 a0_1 a0_2 a0_3 a0_4 a0_5 a0_6 a0_7 a0_8 a0_9 a0_10 a0_11 a0_12 a0_13 a0_14 a0_15 a0_16 a0_17 l0_18 l0_19 l1 a2 a3 = some (r1, r2)) :
    Calls Try.prog 14 #[.agg #[.slice A0_0 l0_0.length c0_0, .int .u8 a0_1, .int .i64 a0_2, .bool a0_3, .int .i64 a0_4, .int .i64 a0_5, .int .i64 a0_6, .int .i64 a0_7, .int .i64 a0_8, .int .i64 a0_9, .int .u64 a0_10, .int .u64 a0_11, .int .u64 a0_12, .int .u64 a0_13, .int .u64 a0_14, .int .u64 a0_15, .bool a0_16, .int .i64 a0_17, .slice A0_18 l0_18.length c0_18, .slice A0_19 l0_19.length c0_19], .slice A1 l1.length c1, .bool a2, .int .u64 a3] w fun e w' => e = .returned (.tuple #[.bool r1, .bool r2]) ∧ Below w.heap.size w w' := by
  unfold black_Class.f at h
  by_cases hl : l1.length < 17592186044416
  · rw [if_pos hl] at h
    have h2 := Option.some.inj h
    have e1 : r1 = (black_class l0_0 l1 a0_3 a2 a3).1 := by rw [h2]
    have e2 : r2 = (black_class l0_0 l1 a0_3 a2 a3).2 := by rw [h2]
    rw [e1, e2]
    exact black_Class2.calls #[.slice A0_0 l0_0.length c0_0, .int .u8 a0_1, .int .i64 a0_2, .bool a0_3, .int .i64 a0_4, .int .i64 a0_5, .int .i64 a0_6, .int .i64 a0_7, .int .i64 a0_8, .int .i64 a0_9, .int .u64 a0_10, .int .u64 a0_11, .int .u64 a0_12, .int .u64 a0_13, .int .u64 a0_14, .int .u64 a0_15, .bool a0_16, .int .i64 a0_17, .slice A0_18 l0_18.length c0_18, .slice A0_19 l0_19.length c0_19] (black_Class.sz A0_0 c0_0 l0_0 a0_1 a0_2 a0_3 a0_4 a0_5 a0_6 a0_7 a0_8 a0_9 a0_10 a0_11 a0_12 a0_13 a0_14 a0_15 a0_16 a0_17 A0_18 c0_18 l0_18 A0_19 c0_19 l0_19) a0_3 A0_0 c0_0 l0_0 A1 c1 l1 a2 a3 w rfl rfl hr0_0 hc0_0 hr1 hc1 hl
  · rw [if_neg hl] at h; cases h

-- NOT PRINTED: function 28 (black_those)

/-! ### black_Opens: function 19 -/

theorem black_Opens.sz (A0_0 : Option Addr) (c0_0 : Nat) (l0_0 : List (S56)) (a0_1 : Int) (a0_2 : Int) (a0_3 : Bool) (a0_4 : Int) (a0_5 : Int) (a0_6 : Int) (a0_7 : Int) (a0_8 : Int) (a0_9 : Int) (a0_10 : Int) (a0_11 : Int) (a0_12 : Int) (a0_13 : Int) (a0_14 : Int) (a0_15 : Int) (a0_16 : Bool) (a0_17 : Int) (A0_18 : Option Addr) (c0_18 : Nat) (l0_18 : List (S75)) (A0_19 : Option Addr) (c0_19 : Nat) (l0_19 : List (S77)) : (Try.prog.info? 37).map (·.size) = some (#[.slice A0_0 l0_0.length c0_0, .int .u8 a0_1, .int .i64 a0_2, .bool a0_3, .int .i64 a0_4, .int .i64 a0_5, .int .i64 a0_6, .int .i64 a0_7, .int .i64 a0_8, .int .i64 a0_9, .int .u64 a0_10, .int .u64 a0_11, .int .u64 a0_12, .int .u64 a0_13, .int .u64 a0_14, .int .u64 a0_15, .bool a0_16, .int .i64 a0_17, .slice A0_18 l0_18.length c0_18, .slice A0_19 l0_19.length c0_19] : Array Value).size := by
  have h : (Try.prog.info? 37).map (·.size) = some 20 := by kernel_rfl
  rw [h]; rfl
def black_Opens.f (l0_0 : List (S56)) (a0_1 : Int) (a0_2 : Int) (a0_3 : Bool) (a0_4 : Int) (a0_5 : Int) (a0_6 : Int) (a0_7 : Int) (a0_8 : Int) (a0_9 : Int) (a0_10 : Int) (a0_11 : Int) (a0_12 : Int) (a0_13 : Int) (a0_14 : Int) (a0_15 : Int) (a0_16 : Bool) (a0_17 : Int) (l0_18 : List (S75)) (l0_19 : List (S77)) (l1 : List S31) (a2 : Bool) (a3 : Int) : Option (List Int) := if l1.length < 17592186044416 then some (black_places l0_0 l1 a2 a3) else none
theorem black_Opens.calls (A0_0 : Option Addr) (c0_0 : Nat) (l0_0 : List (S56)) (a0_1 : Int) (a0_2 : Int) (a0_3 : Bool) (a0_4 : Int) (a0_5 : Int) (a0_6 : Int) (a0_7 : Int) (a0_8 : Int) (a0_9 : Int) (a0_10 : Int) (a0_11 : Int) (a0_12 : Int) (a0_13 : Int) (a0_14 : Int) (a0_15 : Int) (a0_16 : Bool) (a0_17 : Int) (A0_18 : Option Addr) (c0_18 : Nat) (l0_18 : List (S75)) (A0_19 : Option Addr) (c0_19 : Nat) (l0_19 : List (S77)) (A1 : Option Addr) (c1 : Nat) (l1 : List S31) (a2 : Bool) (a3 : Int) (r : List Int) (w : World) (hr0_0 : Kd.C k56 w A0_0 l0_0.length l0_0) (hc0_0 : l0_0.length ≤ c0_0) (hr0_18 : Kd.C k75 w A0_18 l0_18.length l0_18) (hc0_18 : l0_18.length ≤ c0_18) (hr0_19 : Kd.C k77 w A0_19 l0_19.length l0_19) (hc0_19 : l0_19.length ≤ c0_19) (hr1 : Kd.C k31 w A1 l1.length l1) (hc1 : l1.length ≤ c1) (h : black_Opens.f l0_0 a0_1 a0_2 a0_3 a0_4 a0_5 a0_6 a0_7 a0_8 a0_9 a0_10 a0_11 a0_12 a0_13 a0_14 a0_15 a0_16 a0_17 l0_18 l0_19 l1 a2 a3 = some r) :
    Calls Try.prog 19 #[.agg #[.slice A0_0 l0_0.length c0_0, .int .u8 a0_1, .int .i64 a0_2, .bool a0_3, .int .i64 a0_4, .int .i64 a0_5, .int .i64 a0_6, .int .i64 a0_7, .int .i64 a0_8, .int .i64 a0_9, .int .u64 a0_10, .int .u64 a0_11, .int .u64 a0_12, .int .u64 a0_13, .int .u64 a0_14, .int .u64 a0_15, .bool a0_16, .int .i64 a0_17, .slice A0_18 l0_18.length c0_18, .slice A0_19 l0_19.length c0_19], .slice A1 l1.length c1, .bool a2, .int .u64 a3] w fun e w' => ∃ v0_ : Value, e = .returned (v0_) ∧ Kd.R (Kd.int .i64) 3 w' w.heap.size (fun k_ => True) v0_ r ∧ Below w.heap.size w w' := by
  unfold black_Opens.f at h
  by_cases hl : l1.length < 17592186044416
  · rw [if_pos hl] at h
    cases h
    exact black_Opens2.calls #[.slice A0_0 l0_0.length c0_0, .int .u8 a0_1, .int .i64 a0_2, .bool a0_3, .int .i64 a0_4, .int .i64 a0_5, .int .i64 a0_6, .int .i64 a0_7, .int .i64 a0_8, .int .i64 a0_9, .int .u64 a0_10, .int .u64 a0_11, .int .u64 a0_12, .int .u64 a0_13, .int .u64 a0_14, .int .u64 a0_15, .bool a0_16, .int .i64 a0_17, .slice A0_18 l0_18.length c0_18, .slice A0_19 l0_19.length c0_19] (black_Opens.sz A0_0 c0_0 l0_0 a0_1 a0_2 a0_3 a0_4 a0_5 a0_6 a0_7 a0_8 a0_9 a0_10 a0_11 a0_12 a0_13 a0_14 a0_15 a0_16 a0_17 A0_18 c0_18 l0_18 A0_19 c0_19 l0_19) A0_0 c0_0 l0_0 A1 c1 l1 a2 a3 w rfl hr0_0 hc0_0 hr1 hc1 hl
  · rw [if_neg hl] at h; cases h

/-! ### cohortlaw14_two: function 21 -/
def cohortlaw14_two.L : List S56 := [⟨⟨#[97]⟩, false, 1, 0⟩, ⟨⟨#[98]⟩, true, 1, 0⟩]
def cohortlaw14_two.Q : List S31 := [⟨5, 5, 0⟩, ⟨5, 5, 0⟩]
def cohortlaw14_two.R : List S31 := [⟨5, 5, 0⟩, ⟨5, 5, 19⟩]
def cohortlaw14_two.Z : Array Value := #[.slice none 0 0, .int .u8 0, .int .i64 0, .bool false, .int .i64 0, .int .i64 0, .int .i64 0, .int .i64 0, .int .i64 0, .int .i64 0, .int .u64 0, .int .u64 0, .int .u64 0, .int .u64 0, .int .u64 0, .int .u64 0, .bool false, .int .i64 0, .slice none 0 0, .slice none 0 0]
def cohortlaw14_two.V (Al : Option Addr) (cl : Nat) (A1 : Option Addr) (c1 : Nat) (A2 : Option Addr) (c2 : Nat) : Array Value := #[.slice Al 2 cl, .int .u8 0, .int .i64 0, .bool true, .int .i64 0, .int .i64 0, .int .i64 0, .int .i64 0, .int .i64 0, .int .i64 0, .int .u64 0, .int .u64 0, .int .u64 0, .int .u64 0, .int .u64 0, .int .u64 0, .bool false, .int .i64 0, .slice A1 0 c1, .slice A2 0 c2]
theorem cohortlaw14_two.info (Al : Option Addr) (cl : Nat) (A1 : Option Addr) (c1 : Nat) (A2 : Option Addr) (c2 : Nat) : (Try.prog.info? 37).map (·.size) = some (cohortlaw14_two.V Al cl A1 c1 A2 c2).size := by
  have h : (Try.prog.info? 37).map (·.size) = some 20 := by kernel_rfl
  rw [h]; rfl
theorem cohortlaw14_two.setRow {n : Nat} {w W : World} (h : Below n w W) (g : Nat) (hg : n ≤ g) (cs : Array Value) : Below n w (W.setRow g cs) :=
  ⟨h.os, h.tape, h.output, by rw [setRow_size]; exact h.size, fun k hk => (setRow_other W g k cs (by omega)).trans (h.block k hk)⟩
set_option maxHeartbeats 8000000 in
set_option maxRecDepth 100000 in
theorem cohortlaw14_two.calls (w : World) : Calls Try.prog 21 #[] w fun e w' => ∃ (Al : Option Addr) (cl : Nat) (A1 : Option Addr) (c1 : Nat) (A2 : Option Addr) (c2 : Nat) (Aq : Option Addr) (cq : Nat), e = .returned (.tuple #[.agg (cohortlaw14_two.V Al cl A1 c1 A2 c2), .slice Aq cohortlaw14_two.Q.length cq]) ∧ Kd.C k56 w' Al cohortlaw14_two.L.length cohortlaw14_two.L ∧ cohortlaw14_two.L.length ≤ cl ∧ Kd.C k31 w' Aq cohortlaw14_two.Q.length cohortlaw14_two.Q ∧ cohortlaw14_two.Q.length ≤ cq ∧ Below w.heap.size w w' := by
  have HB := Aside0.mk (Below.refl w.heap.size w)
  go_enter Try.func21, Try.ntmps21
  go_wp2_with (first
    | ((with_reducible refine gate_dst (N := 0) rfl ?_); refine box_event ?hg (N := 0) ?hd (cs := cohortlaw14_two.Z) (t := 37) ?hr ?_; (case hd => rfl); (case hg => rfl); (case hr => first | (go_simp; done) | (go_simp; rfl)); intro gc hg w1_c hbox hb; have GGc := Aside0.mk (show w.heap.size ≤ gc from by rw [hg]; exact below_size (by repeat (first | (with_reducible first | exact HB.out | apply below_alloc | apply pw_below_drewN | apply below_drew1) | exact HB.out))); have BKc := Aside0.mk hbox; clear hbox hg; have n0_ := Aside0.mk (below_step (by repeat (first | (with_reducible first | exact HB.out | apply below_alloc | apply pw_below_drewN | apply below_drew1) | exact HB.out)) hb); clear HB; have HB := n0_; clear n0_ hb)
    | ((with_reducible refine gate_dst (N := 4) rfl ?_); refine Kd.R_lit k56 w.heap.size 56 ?hg (N := 4) ?hd (xs := cohortlaw14_two.L) (inner := [.string (⟨#[97]⟩ : ByteArray), .bool false, .int .i64 1, .int .i64 0, .string (⟨#[98]⟩ : ByteArray), .bool true, .int .i64 1, .int .i64 0]) (ok := fun _ => True) (okp := fun _ => True) ?hr ?hp (fun _ hk => hk) trivial HB.out (below_size HB.out) (by decide) ?_; (case hd => rfl); (case hg => rfl); (case hr => first | (go_simp; done) | (go_simp; rfl)); (case hp => exact (Reps.c4 (show Kd.M k56 _ _ _ (⟨(⟨#[97]⟩ : ByteArray), false, 1, 0⟩ : S56) [.string (⟨#[97]⟩ : ByteArray), .bool false, .int .i64 1, .int .i64 0] from (k56_mkM _ _ _ (⟨(⟨#[97]⟩ : ByteArray), false, 1, 0⟩ : S56) )) (Reps.c4 (show Kd.M k56 _ _ _ (⟨(⟨#[98]⟩ : ByteArray), true, 1, 0⟩ : S56) [.string (⟨#[98]⟩ : ByteArray), .bool true, .int .i64 1, .int .i64 0] from (k56_mkM _ _ _ (⟨(⟨#[98]⟩ : ByteArray), true, 1, 0⟩ : S56) )) (Reps.none _ _)))); intro v1 w2 ho hb hg_ hnew_; clear hnew_; obtain ⟨Al, cl, eA⟩ := Kd.R_slice ho; subst eA; have HL := Aside0.mk ho; have n0 := Aside0.mk hb; have n1 := Aside0.mk (blk_grown BKc.out hg_ (by simp)); clear HB BKc ho hb hg_; have HB := n0; have BKc := n1; clear n0 n1)
    | ((with_reducible refine gate_dst (N := 5) rfl ?_); refine wpList_build rfl 37 _ rfl (by kernel_rfl) ?_)
    | ((with_reducible refine gate_dst (N := 8) rfl ?_); refine Kd.R_lit k31 w.heap.size 31 ?hg (N := 8) ?hd (xs := cohortlaw14_two.Q) (inner := [.int .i64 5, .int .i64 5, .int .u64 0, .int .i64 5, .int .i64 5, .int .u64 0]) (ok := fun _ => True) (okp := fun _ => True) ?hr ?hp (fun _ hk => hk) trivial HB.out (below_size HB.out) (by decide) ?_; (case hd => rfl); (case hg => rfl); (case hr => first | (go_simp; done) | (go_simp; rfl)); (case hp => exact (Reps.c3 (show Kd.M k31 _ _ _ (⟨5, 5, 0⟩ : S31) [.int .i64 5, .int .i64 5, .int .u64 0] from (k31_mkM _ _ _ (⟨5, 5, 0⟩ : S31) )) (Reps.c3 (show Kd.M k31 _ _ _ (⟨5, 5, 0⟩ : S31) [.int .i64 5, .int .i64 5, .int .u64 0] from (k31_mkM _ _ _ (⟨5, 5, 0⟩ : S31) )) (Reps.none _ _)))); intro v1 w2 ho hb hg_ hnew_; clear hnew_; obtain ⟨Aq, cq, eA⟩ := Kd.R_slice ho; subst eA; have HQ := Aside0.mk ho; have n0 := Aside0.mk hb; have n1 := Aside0.mk (blk_grown BKc.out hg_ (by simp)); have n2 := Aside0.mk (Kd.R_grown HL.out hg_ (fun _ _ => by simp)); clear HB BKc HL ho hb hg_; have HB := n0; have BKc := n1; have HL := n2; clear n0 n1 n2)
    | (refine wpList_store_row rfl 37 (.tmp 0) (.tmp 5) rfl gc (cohortlaw14_two.V Al cl none 0 none 0) rfl (by kernel_rfl) 37 cohortlaw14_two.Z BKc.out (cohortlaw14_two.info _ _ _ _ _ _) (by kernel_rfl) (by kernel_rfl) ?_; have n0 := Aside0.mk (cohortlaw14_two.setRow HB.out gc GGc.out (cohortlaw14_two.V Al cl none 0 none 0)); have n1 := setRow_heap _ _ _ (cohortlaw14_two.V Al cl none 0 none 0) _ _ BKc.out; have n2 := Aside0.mk (Kd.R_step (Kd.R_types HL.out BKc.out (by decide)) (fun k hk _ => setRow_other _ gc k (cohortlaw14_two.V Al cl none 0 none 0) hk.2)); have n3 := Aside0.mk (Kd.R_step (Kd.R_types HQ.out BKc.out (by decide)) (fun k hk _ => setRow_other _ gc k (cohortlaw14_two.V Al cl none 0 none 0) hk.2)); generalize World.setRow _ _ _ = w3 at n0 n1 n2 n3; clear HB BKc HL HQ; have HB := n0; have BKc := Aside0.mk n1; have HL := n2; have HQ := n3; clear n0 n1 n2 n3))
  refine bodyPost_ret (results_ct rfl _ _ gc 37 (cohortlaw14_two.V Al cl none 0 none 0) (0, 0) _ rfl BKc.out Try.underlying37 rfl (cohortlaw14_two.info _ _ _ _ _ _)) rfl ?_
  exact ⟨Al, cl, none, 0, none, 0, Aq, cq, rfl, (Kd.R_reads' HL.out).2.2, (Kd.R_reads' HL.out).2.1, (Kd.R_reads' HQ.out).2.2, (Kd.R_reads' HQ.out).2.1, HB.out⟩

/-! ### cohortlaw14_lives: function 6 -/
theorem cohortlaw14_lives.e1 : black_Refuse.f cohortlaw14_two.Q 1 9 10 = some cohortlaw14_two.R := by rfl
theorem cohortlaw14_lives.e2 : black_class cohortlaw14_two.L cohortlaw14_two.R true true 9 = (false, true) := by decide +kernel
theorem cohortlaw14_lives.e3 : black_Next.f 16 cohortlaw14_two.R 9 = some (19, true) := by decide +kernel
theorem cohortlaw14_lives.e4 : black_IsOpen.f cohortlaw14_two.Q 1 9 = some true := by decide +kernel
theorem cohortlaw14_lives.e5 : black_IsOpen.f cohortlaw14_two.R 1 18 = some false := by decide +kernel
theorem cohortlaw14_lives.e6 : black_IsOpen.f cohortlaw14_two.R 1 19 = some true := by decide +kernel
theorem cohortlaw14_lives.e7 : black_IsOpen.f cohortlaw14_two.Q 7 9 = some false := by decide +kernel
theorem cohortlaw14_lives.e8 : black_places cohortlaw14_two.L cohortlaw14_two.R true 9 = [] := by decide +kernel
theorem cohortlaw14_lives.until_ (A : Option Addr) (w2 : World) (h : Kd.C k31 w2 A cohortlaw14_two.R.length cohortlaw14_two.R) : ∃ ad, A = some ad ∧ ∀ W : World, Below w2.heap.size w2 W → W.cell? ⟨ad.block, ad.off + 3 + 2, none⟩ = some (.int .u64 19) := by
  obtain ⟨ad, rfl, _, _, h2⟩ := at_T31 h 1 (by decide) (by decide)
  refine ⟨ad, rfl, fun W hW => ?_⟩
  obtain ⟨ad2, e, _, _, h3⟩ := at_T31 (Kd.C_below h hW) 1 (by decide) (by decide)
  cases e
  exact h3
def cohortlaw14_lives.f : Option Bool := some true

set_option maxHeartbeats 8000000 in
set_option maxRecDepth 100000 in
theorem cohortlaw14_lives.calls (r : Bool) (w : World) (h : cohortlaw14_lives.f = some r) :
    Calls Try.prog 6 #[] w fun e w' => e = .returned (.bool r) ∧ Below w.heap.size w w' := by
  cases h
  have HB := Aside0.mk (Below.refl w.heap.size w)
  have hrl : ((cohortlaw14_two.R.length : Nat) : Int) = 2 := rfl
  have hex : (Kd.bool.sz = 1) := rfl
  clear hex
  go_enter Try.func6, Try.ntmps6
  go_wp2_with (first
    | (go_at_call 21; with_reducible refine (cohortlaw14_two.calls _).mono ?_; rintro e w1 ⟨Al, cl, A1, c1, A2, c2, Aq, cq, rfl, hl, hcl, hq, hcq, hb⟩; have HL := Aside0.mk hl; have HCL := Aside0.mk hcl; have HQ := Aside0.mk hq; have HCQ := Aside0.mk hcq; have WW := Aside0.mk (Below.refl w1.heap.size w1); clear hl hcl hq hcq; have n0_ := Aside0.mk (below_step (by repeat (first | (with_reducible first | exact HB.out | apply below_alloc | apply pw_below_drewN | apply below_drew1) | exact HB.out)) hb); clear HB; have HB := n0_; clear n0_ hb)
    | ((with_reducible refine gate_dst (N := 1) rfl ?_); refine box_event ?hg (N := 1) ?hd (cs := cohortlaw14_two.Z) (t := 37) ?hr ?_; (case hd => rfl); (case hg => rfl); (case hr => first | (go_simp; done) | (go_simp; rfl)); intro gc hg w1_c hbox hb; have GGc := Aside0.mk (show w.heap.size ≤ gc from by rw [hg]; exact below_size (by repeat (first | (with_reducible first | exact HB.out | apply below_alloc | apply pw_below_drewN | apply below_drew1) | exact HB.out))); have GWc := Aside0.mk (show w1.heap.size ≤ gc from by rw [hg]; exact below_size (by repeat (first | (with_reducible first | exact WW.out | apply below_alloc | apply pw_below_drewN | apply below_drew1) | exact WW.out))); have BKc := Aside0.mk hbox; clear hbox hg; have n0_ := Aside0.mk (below_step (by repeat (first | (with_reducible first | exact HB.out | apply below_alloc | apply pw_below_drewN | apply below_drew1) | exact HB.out)) hb); have n1_ := Aside0.mk (below_step (by repeat (first | (with_reducible first | exact WW.out | apply below_alloc | apply pw_below_drewN | apply below_drew1) | exact WW.out)) hb); clear HB WW; have HB := n0_; have WW := n1_; clear n0_ n1_ hb)
    | (refine wpList_store_row rfl 37 (.tmp 1) (.tmp 10) rfl gc (cohortlaw14_two.V Al cl A1 c1 A2 c2) rfl (by kernel_rfl) 37 cohortlaw14_two.Z BKc.out (cohortlaw14_two.info _ _ _ _ _ _) (by kernel_rfl) (by kernel_rfl) ?_; have n0 := Aside0.mk (cohortlaw14_two.setRow HB.out gc GGc.out (cohortlaw14_two.V Al cl A1 c1 A2 c2)); have n1 := setRow_heap _ _ _ (cohortlaw14_two.V Al cl A1 c1 A2 c2) _ _ BKc.out; have n2 := Aside0.mk (cohortlaw14_two.setRow WW.out gc GWc.out (cohortlaw14_two.V Al cl A1 c1 A2 c2)); generalize World.setRow _ _ _ = w3 at n0 n1 n2; clear HB BKc WW; have HB := n0; have BKc := Aside0.mk n1; have WW := n2; clear n0 n1 n2)
    | (go_at_call 7; with_reducible refine (black_Refuse.calls Aq cq cohortlaw14_two.Q 1 9 10 cohortlaw14_two.R _ (Kd.C_below HQ.out (by repeat (first | (with_reducible first | exact WW.out | apply below_alloc | apply pw_below_drewN | apply below_drew1) | exact WW.out))) HCQ.out cohortlaw14_lives.e1).mono ?_; rintro e w2 ⟨v, rfl, ho, hb⟩; obtain ⟨Ar, cr, rfl, hrc, hr⟩ := Kd.R_reads ho; obtain ⟨ad, hAr, hun⟩ := cohortlaw14_lives.until_ Ar w2 hr; subst hAr; have HU := Aside0.mk hun; have HR := Aside0.mk hr; have HRC := Aside0.mk hrc; have W2 := Aside0.mk (Below.refl w2.heap.size w2); clear ho hrc hr hun; have n0_ := Aside0.mk (below_step (by repeat (first | (with_reducible first | exact HB.out | apply below_alloc | apply pw_below_drewN | apply below_drew1) | exact HB.out)) hb); have n1_ := Aside0.mk (below_step (by repeat (first | (with_reducible first | exact WW.out | apply below_alloc | apply pw_below_drewN | apply below_drew1) | exact WW.out)) hb); have n2_ := Aside0.mk (blk_below (by (with_reducible repeat (first | refine blk_drewN ?_ _ | refine blk_drew ?_ | refine blk_alloc ?_ _)); exact BKc.out) hb); clear HB WW BKc; have HB := n0_; have WW := n1_; have BKc := n2_; clear n0_ n1_ n2_ hb)
    | ((with_reducible refine gate_dst (N := 15) rfl ?_); refine wpList_load_row rfl 37 (.tmp 1) rfl gc rfl 37 (cohortlaw14_two.V Al cl A1 c1 A2 c2) (0, 0) _ (by (with_reducible repeat (first | refine blk_drewN ?_ _ | refine blk_drew ?_ | refine blk_alloc ?_ _)); exact BKc.out) Try.underlying37 rfl (cohortlaw14_two.info _ _ _ _ _ _) ?_)
    | (go_at_call 14; with_reducible refine (black_Class2.calls (cohortlaw14_two.V Al cl A1 c1 A2 c2) (cohortlaw14_two.info _ _ _ _ _ _) true Al cl cohortlaw14_two.L (some ad) cr cohortlaw14_two.R true 9 _ rfl rfl (Kd.C_below HL.out (by repeat (first | (with_reducible first | exact WW.out | apply below_alloc | apply pw_below_drewN | apply below_drew1) | exact WW.out))) HCL.out (Kd.C_below HR.out (by repeat (first | (with_reducible first | exact W2.out | apply below_alloc | apply pw_below_drewN | apply below_drew1) | exact W2.out))) HRC.out (by decide)).mono ?_; rw [cohortlaw14_lives.e2]; rintro e w' ⟨rfl, hb⟩; have n0_ := Aside0.mk (below_step (by repeat (first | (with_reducible first | exact HB.out | apply below_alloc | apply pw_below_drewN | apply below_drew1) | exact HB.out)) hb); have n1_ := Aside0.mk (below_step (by repeat (first | (with_reducible first | exact WW.out | apply below_alloc | apply pw_below_drewN | apply below_drew1) | exact WW.out)) hb); have n2_ := Aside0.mk (below_step (by repeat (first | (with_reducible first | exact W2.out | apply below_alloc | apply pw_below_drewN | apply below_drew1) | exact W2.out)) hb); have n3_ := Aside0.mk (blk_below (by (with_reducible repeat (first | refine blk_drewN ?_ _ | refine blk_drew ?_ | refine blk_alloc ?_ _)); exact BKc.out) hb); clear HB WW W2 BKc; have HB := n0_; have WW := n1_; have W2 := n2_; have BKc := n3_; clear n0_ n1_ n2_ n3_ hb)
    | (go_at_call 9; with_reducible refine (black_Next.calls 16 (some ad) cr cohortlaw14_two.R 9 19 true _ (Kd.C_below HR.out (by repeat (first | (with_reducible first | exact W2.out | apply below_alloc | apply pw_below_drewN | apply below_drew1) | exact W2.out))) HRC.out cohortlaw14_lives.e3).mono ?_; rintro e w' ⟨rfl, hb⟩; have n0_ := Aside0.mk (below_step (by repeat (first | (with_reducible first | exact HB.out | apply below_alloc | apply pw_below_drewN | apply below_drew1) | exact HB.out)) hb); have n1_ := Aside0.mk (below_step (by repeat (first | (with_reducible first | exact WW.out | apply below_alloc | apply pw_below_drewN | apply below_drew1) | exact WW.out)) hb); have n2_ := Aside0.mk (below_step (by repeat (first | (with_reducible first | exact W2.out | apply below_alloc | apply pw_below_drewN | apply below_drew1) | exact W2.out)) hb); have n3_ := Aside0.mk (blk_below (by (with_reducible repeat (first | refine blk_drewN ?_ _ | refine blk_drew ?_ | refine blk_alloc ?_ _)); exact BKc.out) hb); clear HB WW W2 BKc; have HB := n0_; have WW := n1_; have W2 := n2_; have BKc := n3_; clear n0_ n1_ n2_ n3_ hb)
    | (go_at_call 8; with_reducible refine (black_IsOpen.calls Aq cq cohortlaw14_two.Q 1 9 true _ (Kd.C_below HQ.out (by repeat (first | (with_reducible first | exact WW.out | apply below_alloc | apply pw_below_drewN | apply below_drew1) | exact WW.out))) HCQ.out cohortlaw14_lives.e4).mono ?_; rintro e w' ⟨rfl, hb⟩; have n0_ := Aside0.mk (below_step (by repeat (first | (with_reducible first | exact HB.out | apply below_alloc | apply pw_below_drewN | apply below_drew1) | exact HB.out)) hb); have n1_ := Aside0.mk (below_step (by repeat (first | (with_reducible first | exact WW.out | apply below_alloc | apply pw_below_drewN | apply below_drew1) | exact WW.out)) hb); have n2_ := Aside0.mk (below_step (by repeat (first | (with_reducible first | exact W2.out | apply below_alloc | apply pw_below_drewN | apply below_drew1) | exact W2.out)) hb); have n3_ := Aside0.mk (blk_below (by (with_reducible repeat (first | refine blk_drewN ?_ _ | refine blk_drew ?_ | refine blk_alloc ?_ _)); exact BKc.out) hb); clear HB WW W2 BKc; have HB := n0_; have WW := n1_; have W2 := n2_; have BKc := n3_; clear n0_ n1_ n2_ n3_ hb; have hun := HU.out _ W2.out)
    | (go_at_call 8; with_reducible refine (black_IsOpen.calls (some ad) cr cohortlaw14_two.R 1 18 false _ (Kd.C_below HR.out (by repeat (first | (with_reducible first | exact W2.out | apply below_alloc | apply pw_below_drewN | apply below_drew1) | exact W2.out))) HRC.out cohortlaw14_lives.e5).mono ?_; rintro e w' ⟨rfl, hb⟩; have n0_ := Aside0.mk (below_step (by repeat (first | (with_reducible first | exact HB.out | apply below_alloc | apply pw_below_drewN | apply below_drew1) | exact HB.out)) hb); have n1_ := Aside0.mk (below_step (by repeat (first | (with_reducible first | exact WW.out | apply below_alloc | apply pw_below_drewN | apply below_drew1) | exact WW.out)) hb); have n2_ := Aside0.mk (below_step (by repeat (first | (with_reducible first | exact W2.out | apply below_alloc | apply pw_below_drewN | apply below_drew1) | exact W2.out)) hb); have n3_ := Aside0.mk (blk_below (by (with_reducible repeat (first | refine blk_drewN ?_ _ | refine blk_drew ?_ | refine blk_alloc ?_ _)); exact BKc.out) hb); clear HB WW W2 BKc; have HB := n0_; have WW := n1_; have W2 := n2_; have BKc := n3_; clear n0_ n1_ n2_ n3_ hb)
    | (go_at_call 8; with_reducible refine (black_IsOpen.calls (some ad) cr cohortlaw14_two.R 1 19 true _ (Kd.C_below HR.out (by repeat (first | (with_reducible first | exact W2.out | apply below_alloc | apply pw_below_drewN | apply below_drew1) | exact W2.out))) HRC.out cohortlaw14_lives.e6).mono ?_; rintro e w' ⟨rfl, hb⟩; have n0_ := Aside0.mk (below_step (by repeat (first | (with_reducible first | exact HB.out | apply below_alloc | apply pw_below_drewN | apply below_drew1) | exact HB.out)) hb); have n1_ := Aside0.mk (below_step (by repeat (first | (with_reducible first | exact WW.out | apply below_alloc | apply pw_below_drewN | apply below_drew1) | exact WW.out)) hb); have n2_ := Aside0.mk (below_step (by repeat (first | (with_reducible first | exact W2.out | apply below_alloc | apply pw_below_drewN | apply below_drew1) | exact W2.out)) hb); have n3_ := Aside0.mk (blk_below (by (with_reducible repeat (first | refine blk_drewN ?_ _ | refine blk_drew ?_ | refine blk_alloc ?_ _)); exact BKc.out) hb); clear HB WW W2 BKc; have HB := n0_; have WW := n1_; have W2 := n2_; have BKc := n3_; clear n0_ n1_ n2_ n3_ hb)
    | (go_at_call 8; with_reducible refine (black_IsOpen.calls Aq cq cohortlaw14_two.Q 7 9 false _ (Kd.C_below HQ.out (by repeat (first | (with_reducible first | exact WW.out | apply below_alloc | apply pw_below_drewN | apply below_drew1) | exact WW.out))) HCQ.out cohortlaw14_lives.e7).mono ?_; rintro e w' ⟨rfl, hb⟩; have n0_ := Aside0.mk (below_step (by repeat (first | (with_reducible first | exact HB.out | apply below_alloc | apply pw_below_drewN | apply below_drew1) | exact HB.out)) hb); have n1_ := Aside0.mk (below_step (by repeat (first | (with_reducible first | exact WW.out | apply below_alloc | apply pw_below_drewN | apply below_drew1) | exact WW.out)) hb); have n2_ := Aside0.mk (below_step (by repeat (first | (with_reducible first | exact W2.out | apply below_alloc | apply pw_below_drewN | apply below_drew1) | exact W2.out)) hb); have n3_ := Aside0.mk (blk_below (by (with_reducible repeat (first | refine blk_drewN ?_ _ | refine blk_drew ?_ | refine blk_alloc ?_ _)); exact BKc.out) hb); clear HB WW W2 BKc; have HB := n0_; have WW := n1_; have W2 := n2_; have BKc := n3_; clear n0_ n1_ n2_ n3_ hb)
    | ((with_reducible refine gate_dst (N := 49) rfl ?_); (refine gate_guard (by rfl) ?_; dsimp only); refine wpList_load_row rfl 37 (.tmp 1) rfl gc rfl 37 (cohortlaw14_two.V Al cl A1 c1 A2 c2) (0, 0) _ (by (with_reducible repeat (first | refine blk_drewN ?_ _ | refine blk_drew ?_ | refine blk_alloc ?_ _)); exact BKc.out) Try.underlying37 rfl (cohortlaw14_two.info _ _ _ _ _ _) ?_)
    | (go_at_call 19; with_reducible refine (black_Opens2.calls (cohortlaw14_two.V Al cl A1 c1 A2 c2) (cohortlaw14_two.info _ _ _ _ _ _) Al cl cohortlaw14_two.L (some ad) cr cohortlaw14_two.R true 9 _ rfl (Kd.C_below HL.out (by repeat (first | (with_reducible first | exact WW.out | apply below_alloc | apply pw_below_drewN | apply below_drew1) | exact WW.out))) HCL.out (Kd.C_below HR.out (by repeat (first | (with_reducible first | exact W2.out | apply below_alloc | apply pw_below_drewN | apply below_drew1) | exact W2.out))) HRC.out (by decide)).mono ?_; rw [cohortlaw14_lives.e8]; rintro e w' ⟨v, rfl, ho, hb⟩; obtain ⟨A, c, eA⟩ := Kd.R_slice ho; subst eA; clear ho; have n0_ := Aside0.mk (below_step (by repeat (first | (with_reducible first | exact HB.out | apply below_alloc | apply pw_below_drewN | apply below_drew1) | exact HB.out)) hb); have n1_ := Aside0.mk (below_step (by repeat (first | (with_reducible first | exact WW.out | apply below_alloc | apply pw_below_drewN | apply below_drew1) | exact WW.out)) hb); have n2_ := Aside0.mk (below_step (by repeat (first | (with_reducible first | exact W2.out | apply below_alloc | apply pw_below_drewN | apply below_drew1) | exact W2.out)) hb); have n3_ := Aside0.mk (blk_below (by (with_reducible repeat (first | refine blk_drewN ?_ _ | refine blk_drew ?_ | refine blk_alloc ?_ _)); exact BKc.out) hb); clear HB WW W2 BKc; have HB := n0_; have WW := n1_; have W2 := n2_; have BKc := n3_; clear n0_ n1_ n2_ n3_ hb))
  go_ret
  exact ⟨rfl, by repeat (first | (with_reducible first | exact HB.out | apply below_alloc | apply pw_below_drewN | apply below_drew1) | exact HB.out)⟩

end Go.Proofs.Ytpkobboljdaaeaa.GA
