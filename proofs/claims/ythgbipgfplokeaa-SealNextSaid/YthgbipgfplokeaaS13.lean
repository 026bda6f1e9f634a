import Derived.Test.YthgbipgfplokeaaS12
import Derived.Deep.RegionHeld3
namespace Go.Proofs.Ythgbipgfplokeaa.GA
open Go.RowKit Go.Proofs.YthgbipgfplokeaaW.PrintWords Go.Proofs.YthgbipgfplokeaaW.PrintLast Go.Proofs.YthgbipgfplokeaaW.PrintMore
set_option linter.unusedVariables false
set_option linter.unusedSimpArgs false

/-- what the document says of a sealed block -/
def refGet.f (k : Nat) (x : List Int) : Option (Int × List Int × Int) :=
  (cohortref01_Get.f k x 0 4).bind fun s => (cohortref01_Get.f k x 4 8).bind fun n => (cohortref01_Get.f k x 56 8).bind fun m =>
  if n.1 ≠ m.1 then some (0, [], 5) else if n.1 < 1 then some (0, [], 5) else
  (cohortref03_Of.f k (x.drop 4)).bind fun c => if 0 ≤ c ∧ c < 4294967296 then (if c ≠ s.1 then some (0, [], 6) else some (n.1, (x.drop 12).take 44, 0)) else none
theorem refGet.get (k : Nat) (x : List Int) (hx : x.length = 64) (p i : Int) (r e : Int) (h : cohortref01_Get.f k x p i = some (r, e)) (W : World) (g : Nat) (hg : W.heap[g]? = some (.cells (bcells x) 26 (0, 0))) :
    Calls Try.prog 20 #[.slice (some ⟨g, 0, none⟩) 64 64, .int .i64 p, .int .i64 i] W fun e' w' => e' = .returned (.tuple #[.int .u64 r, .int .i64 e]) ∧ Drawn0 W w' := by
  have hC := C_block hg 0 64 (by omega) (by decide)
  rw [List.drop_zero, List.take_of_length_le (by omega)] at hC
  have hcall := cohortref01_Get.calls k (some ⟨g, 0, none⟩) 64 x p i r e W (by rw [hx]; exact hC) (by omega) h
  rw [hx] at hcall
  exact hcall
set_option maxHeartbeats 8000000 in
set_option maxRecDepth 100000 in
theorem refGet.calls (k : Nat) (x : List Int) (hx : x.length = 64) (r1 : Int) (r2 : List Int) (r3 : Int) (w : World) (h : refGet.f k x = some (r1, r2, r3)) :
    Calls Try.prog 14 #[.agg (bcells x)] w fun e' w' => ∃ v, e' = .returned (.tuple #[.int .u64 r1, v, .int .i64 r3]) ∧ Kd.R (Kd.int .u8) 5 w' w.heap.size (fun _ => True) v r2 ∧ Below w.heap.size w w' := by
  unfold refGet.f at h
  have HB := Aside0.mk (Below.refl w.heap.size w)
  have HX := Aside0.mk hx
  obtain ⟨⟨s, es⟩, f1, h⟩ := Option.bind_eq_some_iff.mp h
  obtain ⟨⟨n, en⟩, f2, h⟩ := Option.bind_eq_some_iff.mp h
  obtain ⟨⟨m, em⟩, f3, h⟩ := Option.bind_eq_some_iff.mp h
  simp only at h
  have C0 := Aside0.mk (refGet.get k x hx 0 4 s es f1)
  have C4 := Aside0.mk (refGet.get k x hx 4 8 n en f2)
  have C56 := Aside0.mk (refGet.get k x hx 56 8 m em f3)
  clear f1 f2 f3
  by_cases c1 : n ≠ m
  · rw [if_pos c1] at h
    cases h
    have d1 : (n == m) = false := by simpa using c1
    have d2 : (n != m) = true := by simpa using c1
    clear c1 hx
    go_enter Try.func14, Try.ntmps14
    go_wp2_with (first
      | ((with_reducible refine gate_dst (N := 1) rfl ?_); refine box_event ?hg (N := 1) ?hd (cs := bcells x) (t := 26) ?hr ?_; (case hd => rfl); (case hg => rfl); (case hr => first | (go_simp; done) | (go_simp; rfl)); intro gx hg w1x hbox hb; have Gx := Aside0.mk (show w.heap.size ≤ gx from by rw [hg]; exact below_size (by repeat (first | (with_reducible first | exact HB.out | apply below_alloc | apply pw_below_drewN | apply below_drew1) | exact HB.out))); have BKx := Aside0.mk hbox; clear hbox hg; have n0_ := Aside0.mk (below_step (by repeat (first | (with_reducible first | exact HB.out | apply below_alloc | apply pw_below_drewN | apply below_drew1) | exact HB.out)) hb); clear HB; have HB := n0_; clear n0_ hb)
      | (go_at_call 20; first | (with_reducible refine (C0.out _ gx (by first | exact BKx.out | exact blk_drewN BKx.out _)).mono ?_; rintro e' w' ⟨rfl, ⟨nd, rfl⟩⟩) | (with_reducible refine (C4.out _ gx (by first | exact BKx.out | exact blk_drewN BKx.out _)).mono ?_; rintro e' w' ⟨rfl, ⟨nd, rfl⟩⟩) | (with_reducible refine (C56.out _ gx (by first | exact BKx.out | exact blk_drewN BKx.out _)).mono ?_; rintro e' w' ⟨rfl, ⟨nd, rfl⟩⟩)))
    refine bodyPost_ret (v := .tuple #[.int .u64 0, .slice none 0 0, .int .i64 5]) (by simp [results, Try.results14, go_sem]) rfl ?_
    exact ⟨_, rfl, Kd.R_nil _ _ _ _ _, by repeat (first | (with_reducible first | exact HB.out | apply below_alloc | apply pw_below_drewN | apply below_drew1) | exact HB.out)⟩
  · rw [if_neg c1] at h
    have c1' : n = m := Decidable.of_not_not c1
    subst c1'
    clear c1
    by_cases c2 : n < 1
    · rw [if_pos c2] at h
      cases h
      clear hx
      go_enter Try.func14, Try.ntmps14
      go_wp2_with (first
        | ((with_reducible refine gate_dst (N := 1) rfl ?_); refine box_event ?hg (N := 1) ?hd (cs := bcells x) (t := 26) ?hr ?_; (case hd => rfl); (case hg => rfl); (case hr => first | (go_simp; done) | (go_simp; rfl)); intro gx hg w1x hbox hb; have Gx := Aside0.mk (show w.heap.size ≤ gx from by rw [hg]; exact below_size (by repeat (first | (with_reducible first | exact HB.out | apply below_alloc | apply pw_below_drewN | apply below_drew1) | exact HB.out))); have BKx := Aside0.mk hbox; clear hbox hg; have n0_ := Aside0.mk (below_step (by repeat (first | (with_reducible first | exact HB.out | apply below_alloc | apply pw_below_drewN | apply below_drew1) | exact HB.out)) hb); clear HB; have HB := n0_; clear n0_ hb)
        | (go_at_call 20; first | (with_reducible refine (C0.out _ gx (by first | exact BKx.out | exact blk_drewN BKx.out _)).mono ?_; rintro e' w' ⟨rfl, ⟨nd, rfl⟩⟩) | (with_reducible refine (C4.out _ gx (by first | exact BKx.out | exact blk_drewN BKx.out _)).mono ?_; rintro e' w' ⟨rfl, ⟨nd, rfl⟩⟩) | (with_reducible refine (C56.out _ gx (by first | exact BKx.out | exact blk_drewN BKx.out _)).mono ?_; rintro e' w' ⟨rfl, ⟨nd, rfl⟩⟩)))
      refine bodyPost_ret (v := .tuple #[.int .u64 0, .slice none 0 0, .int .i64 5]) (by simp [results, Try.results14, go_sem]) rfl ?_
      exact ⟨_, rfl, Kd.R_nil _ _ _ _ _, by repeat (first | (with_reducible first | exact HB.out | apply below_alloc | apply pw_below_drewN | apply below_drew1) | exact HB.out)⟩
    · rw [if_neg c2] at h
      have d1 := decide_eq_false c2
      clear c2
      obtain ⟨c, f4, h⟩ := Option.bind_eq_some_iff.mp h
      by_cases c3 : 0 ≤ c ∧ c < 4294967296
      case neg => rw [if_neg c3] at h; cases h
      rw [if_pos c3] at h
      have q0 := c3.1
      have q1 := c3.2
      clear c3
      have CR := Aside0.mk (show ∀ (W : World) (g : Nat), W.heap[g]? = some (.cells (bcells x) 26 (0, 0)) → Calls Try.prog 21 #[.slice (some ⟨g, 4, none⟩) 60 60] W fun e w' => e = .returned (.int .u32 c) ∧ Drawn0 W w' from fun W g hg => by
        have hC := C_block hg 4 60 (by omega) (by decide)
        rw [take60 x hx] at hC
        have h60 : (60 : Nat) = (x.drop 4).length := by rw [List.length_drop]; omega
        rw [h60] at hC ⊢
        exact cohortref03_Of.calls k _ _ (x.drop 4) c W hC (Nat.le_refl _) f4)
      clear f4 hx
      by_cases c4 : c ≠ s
      · rw [if_pos c4] at h
        cases h
        have d2 : (c == s) = false := by simpa using c4
        have d3 : (c != s) = true := by simpa using c4
        clear c4
        go_enter Try.func14, Try.ntmps14
        go_wp2_with (first
          | ((with_reducible refine gate_dst (N := 1) rfl ?_); refine box_event ?hg (N := 1) ?hd (cs := bcells x) (t := 26) ?hr ?_; (case hd => rfl); (case hg => rfl); (case hr => first | (go_simp; done) | (go_simp; rfl)); intro gx hg w1x hbox hb; have Gx := Aside0.mk (show w.heap.size ≤ gx from by rw [hg]; exact below_size (by repeat (first | (with_reducible first | exact HB.out | apply below_alloc | apply pw_below_drewN | apply below_drew1) | exact HB.out))); have BKx := Aside0.mk hbox; clear hbox hg; have n0_ := Aside0.mk (below_step (by repeat (first | (with_reducible first | exact HB.out | apply below_alloc | apply pw_below_drewN | apply below_drew1) | exact HB.out)) hb); clear HB; have HB := n0_; clear n0_ hb)
          | (go_at_call 20; first | (with_reducible refine (C0.out _ gx (by first | exact BKx.out | exact blk_drewN BKx.out _)).mono ?_; rintro e' w' ⟨rfl, ⟨nd, rfl⟩⟩) | (with_reducible refine (C4.out _ gx (by first | exact BKx.out | exact blk_drewN BKx.out _)).mono ?_; rintro e' w' ⟨rfl, ⟨nd, rfl⟩⟩) | (with_reducible refine (C56.out _ gx (by first | exact BKx.out | exact blk_drewN BKx.out _)).mono ?_; rintro e' w' ⟨rfl, ⟨nd, rfl⟩⟩))
          | (go_at_call 21; with_reducible refine (CR.out _ gx (by first | exact BKx.out | exact blk_drewN BKx.out _)).mono ?_; rintro e' w' ⟨rfl, ⟨nd, rfl⟩⟩))
        refine bodyPost_ret (v := .tuple #[.int .u64 0, .slice none 0 0, .int .i64 6]) (by simp [results, Try.results14, go_sem]) rfl ?_
        exact ⟨_, rfl, Kd.R_nil _ _ _ _ _, by repeat (first | (with_reducible first | exact HB.out | apply below_alloc | apply pw_below_drewN | apply below_drew1) | exact HB.out)⟩
      · rw [if_neg c4] at h
        cases h
        have c4' : c = s := Decidable.of_not_not c4
        subst c4'
        clear c4
        go_enter Try.func14, Try.ntmps14
        go_wp2_with (first
          | ((with_reducible refine gate_dst (N := 1) rfl ?_); refine box_event ?hg (N := 1) ?hd (cs := bcells x) (t := 26) ?hr ?_; (case hd => rfl); (case hg => rfl); (case hr => first | (go_simp; done) | (go_simp; rfl)); intro gx hg w1x hbox hb; have Gx := Aside0.mk (show w.heap.size ≤ gx from by rw [hg]; exact below_size (by repeat (first | (with_reducible first | exact HB.out | apply below_alloc | apply pw_below_drewN | apply below_drew1) | exact HB.out))); have BKx := Aside0.mk hbox; clear hbox hg; have n0_ := Aside0.mk (below_step (by repeat (first | (with_reducible first | exact HB.out | apply below_alloc | apply pw_below_drewN | apply below_drew1) | exact HB.out)) hb); clear HB; have HB := n0_; clear n0_ hb)
          | (go_at_call 20; first | (with_reducible refine (C0.out _ gx (by first | exact BKx.out | exact blk_drewN BKx.out _)).mono ?_; rintro e' w' ⟨rfl, ⟨nd, rfl⟩⟩) | (with_reducible refine (C4.out _ gx (by first | exact BKx.out | exact blk_drewN BKx.out _)).mono ?_; rintro e' w' ⟨rfl, ⟨nd, rfl⟩⟩) | (with_reducible refine (C56.out _ gx (by first | exact BKx.out | exact blk_drewN BKx.out _)).mono ?_; rintro e' w' ⟨rfl, ⟨nd, rfl⟩⟩))
          | (go_at_call 21; with_reducible refine (CR.out _ gx (by first | exact BKx.out | exact blk_drewN BKx.out _)).mono ?_; rintro e' w' ⟨rfl, ⟨nd, rfl⟩⟩)
          | ((with_reducible refine gate_builtin (b := .append) (xs := #[.tmp 40, .tmp 41]) rfl ?_); at_builtin; refine Kd.R_append_rows (Kd.int .u8) (w0 := w) w.heap.size rfl (.tmp 40) (.tmp 41) 23 5 (.int .u8 0) 1 rfl Try.underlying23 info5 rfl (by decide) (by omega) (.slice none 0 0) ([] : List Int) ((x.drop 12).take 44) _ _ _ (fun _ => True) (fun _ => False) rfl rfl ?aO ?aR (fun _ _ h => h) (fun _ h => h.elim) ?aF ?aB ?aS ?aL ?_; (case aR => exact C_block (by (with_reducible repeat (first | refine blk_drewN ?_ _ | refine blk_drew ?_ | refine blk_alloc ?_ _)); exact BKx.out) 12 44 (by rw [HX.out]; decide) (by decide)); (case aB => exact (by repeat (first | (with_reducible first | exact HB.out | apply below_alloc | apply pw_below_drewN | apply below_drew1) | exact HB.out))); (case aF => exact (fun _ _ => trivial)); (case aO => exact ((Kd.R_nil _ _ _ _ (fun _ => True)))); (case aS => exact (below_size (by repeat (first | (with_reducible first | exact HB.out | apply below_alloc | apply pw_below_drewN | apply below_drew1) | exact HB.out)))); (case aL => exact (by decide)); intro v144 w1 ho hb hg hat; rw [List.nil_append] at ho; have HO := Aside0.mk ho; clear HB BKx; have HB := Aside0.mk hb; clear ho hb hg hat))
        refine bodyPost_ret (v := .tuple #[.int .u64 r1, v144, .int .i64 0]) (by simp [results, Try.results14, go_sem]) rfl ?_
        exact ⟨_, rfl, HO.out, by repeat (first | (with_reducible first | exact HB.out | apply below_alloc | apply pw_below_drewN | apply below_drew1) | exact HB.out)⟩
/-- which one is the newest, by the document -/
def refNewest.f (k : Nat) (x y : List Int) : Option (Int × Int) :=
  (refGet.f k x).bind fun p => (refGet.f k y).bind fun q => if p.2.2 = 0 then (if q.2.2 = 0 then (if q.1 > p.1 then some (1, 0) else some (0, 0)) else some (0, 0)) else (if q.2.2 = 0 then some (1, 0) else some (0, 7))
set_option maxHeartbeats 8000000 in
set_option maxRecDepth 100000 in
theorem refNewest.calls (k : Nat) (x y : List Int) (hx : x.length = 64) (hy : y.length = 64) (r1 r2 : Int) (w : World) (h : refNewest.f k x y = some (r1, r2)) :
    Calls Try.prog 17 #[.agg (bcells x), .agg (bcells y)] w fun e' w' => e' = .returned (.tuple #[.int .i64 r1, .int .i64 r2]) ∧ Below w.heap.size w w' := by
  unfold refNewest.f at h
  obtain ⟨⟨n, b1, e1⟩, f1, h⟩ := Option.bind_eq_some_iff.mp h
  obtain ⟨⟨m, b2, e2⟩, f2, h⟩ := Option.bind_eq_some_iff.mp h
  simp only at h
  have HB := Aside0.mk (Below.refl w.heap.size w)
  have HX := Aside0.mk hx
  have HY := Aside0.mk hy
  clear hx hy
  by_cases c1 : e1 = 0
  · subst c1
    rw [if_pos rfl] at h
    have F1 := Aside0.mk f1
    clear f1
    by_cases c2 : e2 = 0
    · subst c2
      rw [if_pos rfl] at h
      have F2 := Aside0.mk f2
      clear f2
      by_cases c3 : m > n
      · rw [if_pos c3] at h
        cases h
        go_enter Try.func17, Try.ntmps17
        go_wp2_with (first
          | ((with_reducible refine gate_dst (N := 2) rfl ?_); refine box_event ?hg (N := 2) ?hd (cs := bcells x) (t := 26) ?hr ?_; (case hd => rfl); (case hg => rfl); (case hr => first | (go_simp; done) | (go_simp; rfl)); intro gx hg w1x hbox hb; have Gx := Aside0.mk (show w.heap.size ≤ gx from by rw [hg]; exact below_size (by repeat (first | (with_reducible first | exact HB.out | apply below_alloc | apply pw_below_drewN | apply below_drew1) | exact HB.out))); have BKx := Aside0.mk hbox; clear hbox hg; have n0_ := Aside0.mk (below_step (by repeat (first | (with_reducible first | exact HB.out | apply below_alloc | apply pw_below_drewN | apply below_drew1) | exact HB.out)) hb); clear HB; have HB := n0_; clear n0_ hb)
          | ((with_reducible refine gate_dst (N := 3) rfl ?_); refine box_event ?hg (N := 3) ?hd (cs := bcells y) (t := 26) ?hr ?_; (case hd => rfl); (case hg => rfl); (case hr => first | (go_simp; done) | (go_simp; rfl)); intro gy hg w1y hbox hb; have Gy := Aside0.mk (show w.heap.size ≤ gy from by rw [hg]; exact below_size (by repeat (first | (with_reducible first | exact HB.out | apply below_alloc | apply pw_below_drewN | apply below_drew1) | exact HB.out))); have BKy := Aside0.mk hbox; clear hbox hg; have n0_ := Aside0.mk (below_step (by repeat (first | (with_reducible first | exact HB.out | apply below_alloc | apply pw_below_drewN | apply below_drew1) | exact HB.out)) hb); (first | have n1_ := Aside0.mk (blk_below BKx.out hb) | have n1_ := Aside0.mk (blk_below (blk_drewN BKx.out _) hb) | have n1_ := Aside0.mk (blk_below (blk_drew BKx.out) hb) | have n1_ := Aside0.mk (blk_below (blk_alloc BKx.out _) hb) | have n1_ := Aside0.mk (blk_below (by (with_reducible repeat (first | refine blk_drewN ?_ _ | refine blk_drew ?_ | refine blk_alloc ?_ _)); exact BKx.out) hb)); clear HB BKx; have HB := n0_; have BKx := n1_; clear n0_ n1_ hb)
          | ((with_reducible refine gate_dst (N := 13) rfl ?_); refine wpList_load_row rfl 26 (.tmp 2) rfl gx rfl 26 (bcells x) (0, 0) _ (by (with_reducible repeat (first | refine blk_drewN ?_ _ | refine blk_drew ?_ | refine blk_alloc ?_ _)); exact BKx.out) Try.underlying26 rfl (seal_size _ HX.out) ?_)
          | (go_at_call 14; with_reducible refine (refGet.calls k x HX.out _ _ 0 _ F1.out).mono ?_; rintro e' w' ⟨vx, rfl, hox, hb⟩; clear hox; have n0_ := Aside0.mk (below_step (by repeat (first | (with_reducible first | exact HB.out | apply below_alloc | apply pw_below_drewN | apply below_drew1) | exact HB.out)) hb); (first | have n1_ := Aside0.mk (blk_below BKx.out hb) | have n1_ := Aside0.mk (blk_below (blk_drewN BKx.out _) hb) | have n1_ := Aside0.mk (blk_below (blk_drew BKx.out) hb) | have n1_ := Aside0.mk (blk_below (blk_alloc BKx.out _) hb) | have n1_ := Aside0.mk (blk_below (by (with_reducible repeat (first | refine blk_drewN ?_ _ | refine blk_drew ?_ | refine blk_alloc ?_ _)); exact BKx.out) hb)); (first | have n2_ := Aside0.mk (blk_below BKy.out hb) | have n2_ := Aside0.mk (blk_below (blk_drewN BKy.out _) hb) | have n2_ := Aside0.mk (blk_below (blk_drew BKy.out) hb) | have n2_ := Aside0.mk (blk_below (blk_alloc BKy.out _) hb) | have n2_ := Aside0.mk (blk_below (by (with_reducible repeat (first | refine blk_drewN ?_ _ | refine blk_drew ?_ | refine blk_alloc ?_ _)); exact BKy.out) hb)); clear HB BKx BKy; have HB := n0_; have BKx := n1_; have BKy := n2_; clear n0_ n1_ n2_ hb)
          | ((with_reducible refine gate_dst (N := 19) rfl ?_); refine wpList_load_row rfl 26 (.tmp 3) rfl gy rfl 26 (bcells y) (0, 0) _ (by (with_reducible repeat (first | refine blk_drewN ?_ _ | refine blk_drew ?_ | refine blk_alloc ?_ _)); exact BKy.out) Try.underlying26 rfl (seal_size _ HY.out) ?_)
          | (go_at_call 14; with_reducible refine (refGet.calls k y HY.out _ _ 0 _ F2.out).mono ?_; rintro e' w' ⟨vy, rfl, hoy, hb⟩; clear hoy; have n0_ := Aside0.mk (below_step (by repeat (first | (with_reducible first | exact HB.out | apply below_alloc | apply pw_below_drewN | apply below_drew1) | exact HB.out)) hb); (first | have n1_ := Aside0.mk (blk_below BKx.out hb) | have n1_ := Aside0.mk (blk_below (blk_drewN BKx.out _) hb) | have n1_ := Aside0.mk (blk_below (blk_drew BKx.out) hb) | have n1_ := Aside0.mk (blk_below (blk_alloc BKx.out _) hb) | have n1_ := Aside0.mk (blk_below (by (with_reducible repeat (first | refine blk_drewN ?_ _ | refine blk_drew ?_ | refine blk_alloc ?_ _)); exact BKx.out) hb)); (first | have n2_ := Aside0.mk (blk_below BKy.out hb) | have n2_ := Aside0.mk (blk_below (blk_drewN BKy.out _) hb) | have n2_ := Aside0.mk (blk_below (blk_drew BKy.out) hb) | have n2_ := Aside0.mk (blk_below (blk_alloc BKy.out _) hb) | have n2_ := Aside0.mk (blk_below (by (with_reducible repeat (first | refine blk_drewN ?_ _ | refine blk_drew ?_ | refine blk_alloc ?_ _)); exact BKy.out) hb)); clear HB BKx BKy; have HB := n0_; have BKx := n1_; have BKy := n2_; clear n0_ n1_ n2_ hb))
        go_ret2
        exact ⟨rfl, by repeat (first | (with_reducible first | exact HB.out | apply below_alloc | apply pw_below_drewN | apply below_drew1) | exact HB.out)⟩
      · rw [if_neg c3] at h
        cases h
        have d3 := decide_eq_false c3
        clear c3
        go_enter Try.func17, Try.ntmps17
        go_wp2_with (first
          | ((with_reducible refine gate_dst (N := 2) rfl ?_); refine box_event ?hg (N := 2) ?hd (cs := bcells x) (t := 26) ?hr ?_; (case hd => rfl); (case hg => rfl); (case hr => first | (go_simp; done) | (go_simp; rfl)); intro gx hg w1x hbox hb; have Gx := Aside0.mk (show w.heap.size ≤ gx from by rw [hg]; exact below_size (by repeat (first | (with_reducible first | exact HB.out | apply below_alloc | apply pw_below_drewN | apply below_drew1) | exact HB.out))); have BKx := Aside0.mk hbox; clear hbox hg; have n0_ := Aside0.mk (below_step (by repeat (first | (with_reducible first | exact HB.out | apply below_alloc | apply pw_below_drewN | apply below_drew1) | exact HB.out)) hb); clear HB; have HB := n0_; clear n0_ hb)
          | ((with_reducible refine gate_dst (N := 3) rfl ?_); refine box_event ?hg (N := 3) ?hd (cs := bcells y) (t := 26) ?hr ?_; (case hd => rfl); (case hg => rfl); (case hr => first | (go_simp; done) | (go_simp; rfl)); intro gy hg w1y hbox hb; have Gy := Aside0.mk (show w.heap.size ≤ gy from by rw [hg]; exact below_size (by repeat (first | (with_reducible first | exact HB.out | apply below_alloc | apply pw_below_drewN | apply below_drew1) | exact HB.out))); have BKy := Aside0.mk hbox; clear hbox hg; have n0_ := Aside0.mk (below_step (by repeat (first | (with_reducible first | exact HB.out | apply below_alloc | apply pw_below_drewN | apply below_drew1) | exact HB.out)) hb); (first | have n1_ := Aside0.mk (blk_below BKx.out hb) | have n1_ := Aside0.mk (blk_below (blk_drewN BKx.out _) hb) | have n1_ := Aside0.mk (blk_below (blk_drew BKx.out) hb) | have n1_ := Aside0.mk (blk_below (blk_alloc BKx.out _) hb) | have n1_ := Aside0.mk (blk_below (by (with_reducible repeat (first | refine blk_drewN ?_ _ | refine blk_drew ?_ | refine blk_alloc ?_ _)); exact BKx.out) hb)); clear HB BKx; have HB := n0_; have BKx := n1_; clear n0_ n1_ hb)
          | ((with_reducible refine gate_dst (N := 13) rfl ?_); refine wpList_load_row rfl 26 (.tmp 2) rfl gx rfl 26 (bcells x) (0, 0) _ (by (with_reducible repeat (first | refine blk_drewN ?_ _ | refine blk_drew ?_ | refine blk_alloc ?_ _)); exact BKx.out) Try.underlying26 rfl (seal_size _ HX.out) ?_)
          | (go_at_call 14; with_reducible refine (refGet.calls k x HX.out _ _ 0 _ F1.out).mono ?_; rintro e' w' ⟨vx, rfl, hox, hb⟩; clear hox; have n0_ := Aside0.mk (below_step (by repeat (first | (with_reducible first | exact HB.out | apply below_alloc | apply pw_below_drewN | apply below_drew1) | exact HB.out)) hb); (first | have n1_ := Aside0.mk (blk_below BKx.out hb) | have n1_ := Aside0.mk (blk_below (blk_drewN BKx.out _) hb) | have n1_ := Aside0.mk (blk_below (blk_drew BKx.out) hb) | have n1_ := Aside0.mk (blk_below (blk_alloc BKx.out _) hb) | have n1_ := Aside0.mk (blk_below (by (with_reducible repeat (first | refine blk_drewN ?_ _ | refine blk_drew ?_ | refine blk_alloc ?_ _)); exact BKx.out) hb)); (first | have n2_ := Aside0.mk (blk_below BKy.out hb) | have n2_ := Aside0.mk (blk_below (blk_drewN BKy.out _) hb) | have n2_ := Aside0.mk (blk_below (blk_drew BKy.out) hb) | have n2_ := Aside0.mk (blk_below (blk_alloc BKy.out _) hb) | have n2_ := Aside0.mk (blk_below (by (with_reducible repeat (first | refine blk_drewN ?_ _ | refine blk_drew ?_ | refine blk_alloc ?_ _)); exact BKy.out) hb)); clear HB BKx BKy; have HB := n0_; have BKx := n1_; have BKy := n2_; clear n0_ n1_ n2_ hb)
          | ((with_reducible refine gate_dst (N := 19) rfl ?_); refine wpList_load_row rfl 26 (.tmp 3) rfl gy rfl 26 (bcells y) (0, 0) _ (by (with_reducible repeat (first | refine blk_drewN ?_ _ | refine blk_drew ?_ | refine blk_alloc ?_ _)); exact BKy.out) Try.underlying26 rfl (seal_size _ HY.out) ?_)
          | (go_at_call 14; with_reducible refine (refGet.calls k y HY.out _ _ 0 _ F2.out).mono ?_; rintro e' w' ⟨vy, rfl, hoy, hb⟩; clear hoy; have n0_ := Aside0.mk (below_step (by repeat (first | (with_reducible first | exact HB.out | apply below_alloc | apply pw_below_drewN | apply below_drew1) | exact HB.out)) hb); (first | have n1_ := Aside0.mk (blk_below BKx.out hb) | have n1_ := Aside0.mk (blk_below (blk_drewN BKx.out _) hb) | have n1_ := Aside0.mk (blk_below (blk_drew BKx.out) hb) | have n1_ := Aside0.mk (blk_below (blk_alloc BKx.out _) hb) | have n1_ := Aside0.mk (blk_below (by (with_reducible repeat (first | refine blk_drewN ?_ _ | refine blk_drew ?_ | refine blk_alloc ?_ _)); exact BKx.out) hb)); (first | have n2_ := Aside0.mk (blk_below BKy.out hb) | have n2_ := Aside0.mk (blk_below (blk_drewN BKy.out _) hb) | have n2_ := Aside0.mk (blk_below (blk_drew BKy.out) hb) | have n2_ := Aside0.mk (blk_below (blk_alloc BKy.out _) hb) | have n2_ := Aside0.mk (blk_below (by (with_reducible repeat (first | refine blk_drewN ?_ _ | refine blk_drew ?_ | refine blk_alloc ?_ _)); exact BKy.out) hb)); clear HB BKx BKy; have HB := n0_; have BKx := n1_; have BKy := n2_; clear n0_ n1_ n2_ hb))
        go_ret2
        exact ⟨rfl, by repeat (first | (with_reducible first | exact HB.out | apply below_alloc | apply pw_below_drewN | apply below_drew1) | exact HB.out)⟩
    · rw [if_neg c2] at h
      cases h
      have F2 := Aside0.mk f2
      have d1 : (e2 == 0) = false := by simpa using c2
      have d2 : (e2 != 0) = true := by simpa using c2
      clear f2 c2
      go_enter Try.func17, Try.ntmps17
      go_wp2_with (first
        | ((with_reducible refine gate_dst (N := 2) rfl ?_); refine box_event ?hg (N := 2) ?hd (cs := bcells x) (t := 26) ?hr ?_; (case hd => rfl); (case hg => rfl); (case hr => first | (go_simp; done) | (go_simp; rfl)); intro gx hg w1x hbox hb; have Gx := Aside0.mk (show w.heap.size ≤ gx from by rw [hg]; exact below_size (by repeat (first | (with_reducible first | exact HB.out | apply below_alloc | apply pw_below_drewN | apply below_drew1) | exact HB.out))); have BKx := Aside0.mk hbox; clear hbox hg; have n0_ := Aside0.mk (below_step (by repeat (first | (with_reducible first | exact HB.out | apply below_alloc | apply pw_below_drewN | apply below_drew1) | exact HB.out)) hb); clear HB; have HB := n0_; clear n0_ hb)
        | ((with_reducible refine gate_dst (N := 3) rfl ?_); refine box_event ?hg (N := 3) ?hd (cs := bcells y) (t := 26) ?hr ?_; (case hd => rfl); (case hg => rfl); (case hr => first | (go_simp; done) | (go_simp; rfl)); intro gy hg w1y hbox hb; have Gy := Aside0.mk (show w.heap.size ≤ gy from by rw [hg]; exact below_size (by repeat (first | (with_reducible first | exact HB.out | apply below_alloc | apply pw_below_drewN | apply below_drew1) | exact HB.out))); have BKy := Aside0.mk hbox; clear hbox hg; have n0_ := Aside0.mk (below_step (by repeat (first | (with_reducible first | exact HB.out | apply below_alloc | apply pw_below_drewN | apply below_drew1) | exact HB.out)) hb); (first | have n1_ := Aside0.mk (blk_below BKx.out hb) | have n1_ := Aside0.mk (blk_below (blk_drewN BKx.out _) hb) | have n1_ := Aside0.mk (blk_below (blk_drew BKx.out) hb) | have n1_ := Aside0.mk (blk_below (blk_alloc BKx.out _) hb) | have n1_ := Aside0.mk (blk_below (by (with_reducible repeat (first | refine blk_drewN ?_ _ | refine blk_drew ?_ | refine blk_alloc ?_ _)); exact BKx.out) hb)); clear HB BKx; have HB := n0_; have BKx := n1_; clear n0_ n1_ hb)
        | ((with_reducible refine gate_dst (N := 13) rfl ?_); refine wpList_load_row rfl 26 (.tmp 2) rfl gx rfl 26 (bcells x) (0, 0) _ (by (with_reducible repeat (first | refine blk_drewN ?_ _ | refine blk_drew ?_ | refine blk_alloc ?_ _)); exact BKx.out) Try.underlying26 rfl (seal_size _ HX.out) ?_)
        | (go_at_call 14; with_reducible refine (refGet.calls k x HX.out _ _ 0 _ F1.out).mono ?_; rintro e' w' ⟨vx, rfl, hox, hb⟩; clear hox; have n0_ := Aside0.mk (below_step (by repeat (first | (with_reducible first | exact HB.out | apply below_alloc | apply pw_below_drewN | apply below_drew1) | exact HB.out)) hb); (first | have n1_ := Aside0.mk (blk_below BKx.out hb) | have n1_ := Aside0.mk (blk_below (blk_drewN BKx.out _) hb) | have n1_ := Aside0.mk (blk_below (blk_drew BKx.out) hb) | have n1_ := Aside0.mk (blk_below (blk_alloc BKx.out _) hb) | have n1_ := Aside0.mk (blk_below (by (with_reducible repeat (first | refine blk_drewN ?_ _ | refine blk_drew ?_ | refine blk_alloc ?_ _)); exact BKx.out) hb)); (first | have n2_ := Aside0.mk (blk_below BKy.out hb) | have n2_ := Aside0.mk (blk_below (blk_drewN BKy.out _) hb) | have n2_ := Aside0.mk (blk_below (blk_drew BKy.out) hb) | have n2_ := Aside0.mk (blk_below (blk_alloc BKy.out _) hb) | have n2_ := Aside0.mk (blk_below (by (with_reducible repeat (first | refine blk_drewN ?_ _ | refine blk_drew ?_ | refine blk_alloc ?_ _)); exact BKy.out) hb)); clear HB BKx BKy; have HB := n0_; have BKx := n1_; have BKy := n2_; clear n0_ n1_ n2_ hb)
        | ((with_reducible refine gate_dst (N := 19) rfl ?_); refine wpList_load_row rfl 26 (.tmp 3) rfl gy rfl 26 (bcells y) (0, 0) _ (by (with_reducible repeat (first | refine blk_drewN ?_ _ | refine blk_drew ?_ | refine blk_alloc ?_ _)); exact BKy.out) Try.underlying26 rfl (seal_size _ HY.out) ?_)
        | (go_at_call 14; with_reducible refine (refGet.calls k y HY.out _ _ e2 _ F2.out).mono ?_; rintro e' w' ⟨vy, rfl, hoy, hb⟩; clear hoy; have n0_ := Aside0.mk (below_step (by repeat (first | (with_reducible first | exact HB.out | apply below_alloc | apply pw_below_drewN | apply below_drew1) | exact HB.out)) hb); (first | have n1_ := Aside0.mk (blk_below BKx.out hb) | have n1_ := Aside0.mk (blk_below (blk_drewN BKx.out _) hb) | have n1_ := Aside0.mk (blk_below (blk_drew BKx.out) hb) | have n1_ := Aside0.mk (blk_below (blk_alloc BKx.out _) hb) | have n1_ := Aside0.mk (blk_below (by (with_reducible repeat (first | refine blk_drewN ?_ _ | refine blk_drew ?_ | refine blk_alloc ?_ _)); exact BKx.out) hb)); (first | have n2_ := Aside0.mk (blk_below BKy.out hb) | have n2_ := Aside0.mk (blk_below (blk_drewN BKy.out _) hb) | have n2_ := Aside0.mk (blk_below (blk_drew BKy.out) hb) | have n2_ := Aside0.mk (blk_below (blk_alloc BKy.out _) hb) | have n2_ := Aside0.mk (blk_below (by (with_reducible repeat (first | refine blk_drewN ?_ _ | refine blk_drew ?_ | refine blk_alloc ?_ _)); exact BKy.out) hb)); clear HB BKx BKy; have HB := n0_; have BKx := n1_; have BKy := n2_; clear n0_ n1_ n2_ hb))
      go_ret2
      exact ⟨rfl, by repeat (first | (with_reducible first | exact HB.out | apply below_alloc | apply pw_below_drewN | apply below_drew1) | exact HB.out)⟩
  · rw [if_neg c1] at h
    have d1 : (e1 == 0) = false := by simpa using c1
    have d2 : (e1 != 0) = true := by simpa using c1
    have F1 := Aside0.mk f1
    clear f1 c1
    by_cases c2 : e2 = 0
    · subst c2
      rw [if_pos rfl] at h
      cases h
      have F2 := Aside0.mk f2
      clear f2
      go_enter Try.func17, Try.ntmps17
      go_wp2_with (first
        | ((with_reducible refine gate_dst (N := 2) rfl ?_); refine box_event ?hg (N := 2) ?hd (cs := bcells x) (t := 26) ?hr ?_; (case hd => rfl); (case hg => rfl); (case hr => first | (go_simp; done) | (go_simp; rfl)); intro gx hg w1x hbox hb; have Gx := Aside0.mk (show w.heap.size ≤ gx from by rw [hg]; exact below_size (by repeat (first | (with_reducible first | exact HB.out | apply below_alloc | apply pw_below_drewN | apply below_drew1) | exact HB.out))); have BKx := Aside0.mk hbox; clear hbox hg; have n0_ := Aside0.mk (below_step (by repeat (first | (with_reducible first | exact HB.out | apply below_alloc | apply pw_below_drewN | apply below_drew1) | exact HB.out)) hb); clear HB; have HB := n0_; clear n0_ hb)
        | ((with_reducible refine gate_dst (N := 3) rfl ?_); refine box_event ?hg (N := 3) ?hd (cs := bcells y) (t := 26) ?hr ?_; (case hd => rfl); (case hg => rfl); (case hr => first | (go_simp; done) | (go_simp; rfl)); intro gy hg w1y hbox hb; have Gy := Aside0.mk (show w.heap.size ≤ gy from by rw [hg]; exact below_size (by repeat (first | (with_reducible first | exact HB.out | apply below_alloc | apply pw_below_drewN | apply below_drew1) | exact HB.out))); have BKy := Aside0.mk hbox; clear hbox hg; have n0_ := Aside0.mk (below_step (by repeat (first | (with_reducible first | exact HB.out | apply below_alloc | apply pw_below_drewN | apply below_drew1) | exact HB.out)) hb); (first | have n1_ := Aside0.mk (blk_below BKx.out hb) | have n1_ := Aside0.mk (blk_below (blk_drewN BKx.out _) hb) | have n1_ := Aside0.mk (blk_below (blk_drew BKx.out) hb) | have n1_ := Aside0.mk (blk_below (blk_alloc BKx.out _) hb) | have n1_ := Aside0.mk (blk_below (by (with_reducible repeat (first | refine blk_drewN ?_ _ | refine blk_drew ?_ | refine blk_alloc ?_ _)); exact BKx.out) hb)); clear HB BKx; have HB := n0_; have BKx := n1_; clear n0_ n1_ hb)
        | ((with_reducible refine gate_dst (N := 13) rfl ?_); refine wpList_load_row rfl 26 (.tmp 2) rfl gx rfl 26 (bcells x) (0, 0) _ (by (with_reducible repeat (first | refine blk_drewN ?_ _ | refine blk_drew ?_ | refine blk_alloc ?_ _)); exact BKx.out) Try.underlying26 rfl (seal_size _ HX.out) ?_)
        | (go_at_call 14; with_reducible refine (refGet.calls k x HX.out _ _ e1 _ F1.out).mono ?_; rintro e' w' ⟨vx, rfl, hox, hb⟩; clear hox; have n0_ := Aside0.mk (below_step (by repeat (first | (with_reducible first | exact HB.out | apply below_alloc | apply pw_below_drewN | apply below_drew1) | exact HB.out)) hb); (first | have n1_ := Aside0.mk (blk_below BKx.out hb) | have n1_ := Aside0.mk (blk_below (blk_drewN BKx.out _) hb) | have n1_ := Aside0.mk (blk_below (blk_drew BKx.out) hb) | have n1_ := Aside0.mk (blk_below (blk_alloc BKx.out _) hb) | have n1_ := Aside0.mk (blk_below (by (with_reducible repeat (first | refine blk_drewN ?_ _ | refine blk_drew ?_ | refine blk_alloc ?_ _)); exact BKx.out) hb)); (first | have n2_ := Aside0.mk (blk_below BKy.out hb) | have n2_ := Aside0.mk (blk_below (blk_drewN BKy.out _) hb) | have n2_ := Aside0.mk (blk_below (blk_drew BKy.out) hb) | have n2_ := Aside0.mk (blk_below (blk_alloc BKy.out _) hb) | have n2_ := Aside0.mk (blk_below (by (with_reducible repeat (first | refine blk_drewN ?_ _ | refine blk_drew ?_ | refine blk_alloc ?_ _)); exact BKy.out) hb)); clear HB BKx BKy; have HB := n0_; have BKx := n1_; have BKy := n2_; clear n0_ n1_ n2_ hb)
        | ((with_reducible refine gate_dst (N := 19) rfl ?_); refine wpList_load_row rfl 26 (.tmp 3) rfl gy rfl 26 (bcells y) (0, 0) _ (by (with_reducible repeat (first | refine blk_drewN ?_ _ | refine blk_drew ?_ | refine blk_alloc ?_ _)); exact BKy.out) Try.underlying26 rfl (seal_size _ HY.out) ?_)
        | (go_at_call 14; with_reducible refine (refGet.calls k y HY.out _ _ 0 _ F2.out).mono ?_; rintro e' w' ⟨vy, rfl, hoy, hb⟩; clear hoy; have n0_ := Aside0.mk (below_step (by repeat (first | (with_reducible first | exact HB.out | apply below_alloc | apply pw_below_drewN | apply below_drew1) | exact HB.out)) hb); (first | have n1_ := Aside0.mk (blk_below BKx.out hb) | have n1_ := Aside0.mk (blk_below (blk_drewN BKx.out _) hb) | have n1_ := Aside0.mk (blk_below (blk_drew BKx.out) hb) | have n1_ := Aside0.mk (blk_below (blk_alloc BKx.out _) hb) | have n1_ := Aside0.mk (blk_below (by (with_reducible repeat (first | refine blk_drewN ?_ _ | refine blk_drew ?_ | refine blk_alloc ?_ _)); exact BKx.out) hb)); (first | have n2_ := Aside0.mk (blk_below BKy.out hb) | have n2_ := Aside0.mk (blk_below (blk_drewN BKy.out _) hb) | have n2_ := Aside0.mk (blk_below (blk_drew BKy.out) hb) | have n2_ := Aside0.mk (blk_below (blk_alloc BKy.out _) hb) | have n2_ := Aside0.mk (blk_below (by (with_reducible repeat (first | refine blk_drewN ?_ _ | refine blk_drew ?_ | refine blk_alloc ?_ _)); exact BKy.out) hb)); clear HB BKx BKy; have HB := n0_; have BKx := n1_; have BKy := n2_; clear n0_ n1_ n2_ hb))
      go_ret2
      exact ⟨rfl, by repeat (first | (with_reducible first | exact HB.out | apply below_alloc | apply pw_below_drewN | apply below_drew1) | exact HB.out)⟩
    · rw [if_neg c2] at h
      cases h
      have F2 := Aside0.mk f2
      have d3 : (e2 == 0) = false := by simpa using c2
      have d4 : (e2 != 0) = true := by simpa using c2
      clear f2 c2
      go_enter Try.func17, Try.ntmps17
      go_wp2_with (first
        | ((with_reducible refine gate_dst (N := 2) rfl ?_); refine box_event ?hg (N := 2) ?hd (cs := bcells x) (t := 26) ?hr ?_; (case hd => rfl); (case hg => rfl); (case hr => first | (go_simp; done) | (go_simp; rfl)); intro gx hg w1x hbox hb; have Gx := Aside0.mk (show w.heap.size ≤ gx from by rw [hg]; exact below_size (by repeat (first | (with_reducible first | exact HB.out | apply below_alloc | apply pw_below_drewN | apply below_drew1) | exact HB.out))); have BKx := Aside0.mk hbox; clear hbox hg; have n0_ := Aside0.mk (below_step (by repeat (first | (with_reducible first | exact HB.out | apply below_alloc | apply pw_below_drewN | apply below_drew1) | exact HB.out)) hb); clear HB; have HB := n0_; clear n0_ hb)
        | ((with_reducible refine gate_dst (N := 3) rfl ?_); refine box_event ?hg (N := 3) ?hd (cs := bcells y) (t := 26) ?hr ?_; (case hd => rfl); (case hg => rfl); (case hr => first | (go_simp; done) | (go_simp; rfl)); intro gy hg w1y hbox hb; have Gy := Aside0.mk (show w.heap.size ≤ gy from by rw [hg]; exact below_size (by repeat (first | (with_reducible first | exact HB.out | apply below_alloc | apply pw_below_drewN | apply below_drew1) | exact HB.out))); have BKy := Aside0.mk hbox; clear hbox hg; have n0_ := Aside0.mk (below_step (by repeat (first | (with_reducible first | exact HB.out | apply below_alloc | apply pw_below_drewN | apply below_drew1) | exact HB.out)) hb); (first | have n1_ := Aside0.mk (blk_below BKx.out hb) | have n1_ := Aside0.mk (blk_below (blk_drewN BKx.out _) hb) | have n1_ := Aside0.mk (blk_below (blk_drew BKx.out) hb) | have n1_ := Aside0.mk (blk_below (blk_alloc BKx.out _) hb) | have n1_ := Aside0.mk (blk_below (by (with_reducible repeat (first | refine blk_drewN ?_ _ | refine blk_drew ?_ | refine blk_alloc ?_ _)); exact BKx.out) hb)); clear HB BKx; have HB := n0_; have BKx := n1_; clear n0_ n1_ hb)
        | ((with_reducible refine gate_dst (N := 13) rfl ?_); refine wpList_load_row rfl 26 (.tmp 2) rfl gx rfl 26 (bcells x) (0, 0) _ (by (with_reducible repeat (first | refine blk_drewN ?_ _ | refine blk_drew ?_ | refine blk_alloc ?_ _)); exact BKx.out) Try.underlying26 rfl (seal_size _ HX.out) ?_)
        | (go_at_call 14; with_reducible refine (refGet.calls k x HX.out _ _ e1 _ F1.out).mono ?_; rintro e' w' ⟨vx, rfl, hox, hb⟩; clear hox; have n0_ := Aside0.mk (below_step (by repeat (first | (with_reducible first | exact HB.out | apply below_alloc | apply pw_below_drewN | apply below_drew1) | exact HB.out)) hb); (first | have n1_ := Aside0.mk (blk_below BKx.out hb) | have n1_ := Aside0.mk (blk_below (blk_drewN BKx.out _) hb) | have n1_ := Aside0.mk (blk_below (blk_drew BKx.out) hb) | have n1_ := Aside0.mk (blk_below (blk_alloc BKx.out _) hb) | have n1_ := Aside0.mk (blk_below (by (with_reducible repeat (first | refine blk_drewN ?_ _ | refine blk_drew ?_ | refine blk_alloc ?_ _)); exact BKx.out) hb)); (first | have n2_ := Aside0.mk (blk_below BKy.out hb) | have n2_ := Aside0.mk (blk_below (blk_drewN BKy.out _) hb) | have n2_ := Aside0.mk (blk_below (blk_drew BKy.out) hb) | have n2_ := Aside0.mk (blk_below (blk_alloc BKy.out _) hb) | have n2_ := Aside0.mk (blk_below (by (with_reducible repeat (first | refine blk_drewN ?_ _ | refine blk_drew ?_ | refine blk_alloc ?_ _)); exact BKy.out) hb)); clear HB BKx BKy; have HB := n0_; have BKx := n1_; have BKy := n2_; clear n0_ n1_ n2_ hb)
        | ((with_reducible refine gate_dst (N := 19) rfl ?_); refine wpList_load_row rfl 26 (.tmp 3) rfl gy rfl 26 (bcells y) (0, 0) _ (by (with_reducible repeat (first | refine blk_drewN ?_ _ | refine blk_drew ?_ | refine blk_alloc ?_ _)); exact BKy.out) Try.underlying26 rfl (seal_size _ HY.out) ?_)
        | (go_at_call 14; with_reducible refine (refGet.calls k y HY.out _ _ e2 _ F2.out).mono ?_; rintro e' w' ⟨vy, rfl, hoy, hb⟩; clear hoy; have n0_ := Aside0.mk (below_step (by repeat (first | (with_reducible first | exact HB.out | apply below_alloc | apply pw_below_drewN | apply below_drew1) | exact HB.out)) hb); (first | have n1_ := Aside0.mk (blk_below BKx.out hb) | have n1_ := Aside0.mk (blk_below (blk_drewN BKx.out _) hb) | have n1_ := Aside0.mk (blk_below (blk_drew BKx.out) hb) | have n1_ := Aside0.mk (blk_below (blk_alloc BKx.out _) hb) | have n1_ := Aside0.mk (blk_below (by (with_reducible repeat (first | refine blk_drewN ?_ _ | refine blk_drew ?_ | refine blk_alloc ?_ _)); exact BKx.out) hb)); (first | have n2_ := Aside0.mk (blk_below BKy.out hb) | have n2_ := Aside0.mk (blk_below (blk_drewN BKy.out _) hb) | have n2_ := Aside0.mk (blk_below (blk_drew BKy.out) hb) | have n2_ := Aside0.mk (blk_below (blk_alloc BKy.out _) hb) | have n2_ := Aside0.mk (blk_below (by (with_reducible repeat (first | refine blk_drewN ?_ _ | refine blk_drew ?_ | refine blk_alloc ?_ _)); exact BKy.out) hb)); clear HB BKx BKy; have HB := n0_; have BKx := n1_; have BKy := n2_; clear n0_ n1_ n2_ hb))
      go_ret2
      exact ⟨rfl, by repeat (first | (with_reducible first | exact HB.out | apply below_alloc | apply pw_below_drewN | apply below_drew1) | exact HB.out)⟩
/-- where the next one belongs, by the document -/
def refNext.f (k : Nat) (x y : List Int) : Option Int := (refNewest.f k x y).bind fun p => if p.2 = 0 then some (wrap64 (1 - p.1)) else some 0
set_option maxHeartbeats 8000000 in
set_option maxRecDepth 100000 in
theorem refNext.calls (k : Nat) (x y : List Int) (hx : x.length = 64) (hy : y.length = 64) (r : Int) (w : World) (h : refNext.f k x y = some r) :
    Calls Try.prog 19 #[.agg (bcells x), .agg (bcells y)] w fun e' w' => e' = .returned (.int .i64 r) ∧ Below w.heap.size w w' := by
  unfold refNext.f at h
  obtain ⟨⟨n, e1⟩, f1, h⟩ := Option.bind_eq_some_iff.mp h
  simp only at h
  have HB := Aside0.mk (Below.refl w.heap.size w)
  have HX := Aside0.mk hx
  have HY := Aside0.mk hy
  have F1 := Aside0.mk f1
  clear hx hy f1
  by_cases c1 : e1 = 0
  · subst c1
    rw [if_pos rfl] at h
    cases h
    go_enter Try.func19, Try.ntmps19
    go_wp2_with (first
      | ((with_reducible refine gate_dst (N := 2) rfl ?_); refine box_event ?hg (N := 2) ?hd (cs := bcells x) (t := 26) ?hr ?_; (case hd => rfl); (case hg => rfl); (case hr => first | (go_simp; done) | (go_simp; rfl)); intro gx hg w1x hbox hb; have Gx := Aside0.mk (show w.heap.size ≤ gx from by rw [hg]; exact below_size (by repeat (first | (with_reducible first | exact HB.out | apply below_alloc | apply pw_below_drewN | apply below_drew1) | exact HB.out))); have BKx := Aside0.mk hbox; clear hbox hg; have n0_ := Aside0.mk (below_step (by repeat (first | (with_reducible first | exact HB.out | apply below_alloc | apply pw_below_drewN | apply below_drew1) | exact HB.out)) hb); clear HB; have HB := n0_; clear n0_ hb)
      | ((with_reducible refine gate_dst (N := 3) rfl ?_); refine box_event ?hg (N := 3) ?hd (cs := bcells y) (t := 26) ?hr ?_; (case hd => rfl); (case hg => rfl); (case hr => first | (go_simp; done) | (go_simp; rfl)); intro gy hg w1y hbox hb; have Gy := Aside0.mk (show w.heap.size ≤ gy from by rw [hg]; exact below_size (by repeat (first | (with_reducible first | exact HB.out | apply below_alloc | apply pw_below_drewN | apply below_drew1) | exact HB.out))); have BKy := Aside0.mk hbox; clear hbox hg; have n0_ := Aside0.mk (below_step (by repeat (first | (with_reducible first | exact HB.out | apply below_alloc | apply pw_below_drewN | apply below_drew1) | exact HB.out)) hb); (first | have n1_ := Aside0.mk (blk_below BKx.out hb) | have n1_ := Aside0.mk (blk_below (blk_drewN BKx.out _) hb) | have n1_ := Aside0.mk (blk_below (blk_drew BKx.out) hb) | have n1_ := Aside0.mk (blk_below (blk_alloc BKx.out _) hb) | have n1_ := Aside0.mk (blk_below (by (with_reducible repeat (first | refine blk_drewN ?_ _ | refine blk_drew ?_ | refine blk_alloc ?_ _)); exact BKx.out) hb)); clear HB BKx; have HB := n0_; have BKx := n1_; clear n0_ n1_ hb)
      | ((with_reducible refine gate_dst (N := 8) rfl ?_); refine wpList_load_row rfl 26 (.tmp 2) rfl gx rfl 26 (bcells x) (0, 0) _ (by (with_reducible repeat (first | refine blk_drewN ?_ _ | refine blk_drew ?_ | refine blk_alloc ?_ _)); exact BKx.out) Try.underlying26 rfl (seal_size _ HX.out) ?_)
      | ((with_reducible refine gate_dst (N := 9) rfl ?_); refine wpList_load_row rfl 26 (.tmp 3) rfl gy rfl 26 (bcells y) (0, 0) _ (by (with_reducible repeat (first | refine blk_drewN ?_ _ | refine blk_drew ?_ | refine blk_alloc ?_ _)); exact BKy.out) Try.underlying26 rfl (seal_size _ HY.out) ?_)
      | (go_at_call 17; with_reducible refine (refNewest.calls k x y HX.out HY.out _ 0 _ F1.out).mono ?_; rintro e' w' ⟨rfl, hb⟩; have n0_ := Aside0.mk (below_step (by repeat (first | (with_reducible first | exact HB.out | apply below_alloc | apply pw_below_drewN | apply below_drew1) | exact HB.out)) hb); (first | have n1_ := Aside0.mk (blk_below BKx.out hb) | have n1_ := Aside0.mk (blk_below (blk_drewN BKx.out _) hb) | have n1_ := Aside0.mk (blk_below (blk_drew BKx.out) hb) | have n1_ := Aside0.mk (blk_below (blk_alloc BKx.out _) hb) | have n1_ := Aside0.mk (blk_below (by (with_reducible repeat (first | refine blk_drewN ?_ _ | refine blk_drew ?_ | refine blk_alloc ?_ _)); exact BKx.out) hb)); (first | have n2_ := Aside0.mk (blk_below BKy.out hb) | have n2_ := Aside0.mk (blk_below (blk_drewN BKy.out _) hb) | have n2_ := Aside0.mk (blk_below (blk_drew BKy.out) hb) | have n2_ := Aside0.mk (blk_below (blk_alloc BKy.out _) hb) | have n2_ := Aside0.mk (blk_below (by (with_reducible repeat (first | refine blk_drewN ?_ _ | refine blk_drew ?_ | refine blk_alloc ?_ _)); exact BKy.out) hb)); clear HB BKx BKy; have HB := n0_; have BKx := n1_; have BKy := n2_; clear n0_ n1_ n2_ hb))
    go_ret
    exact ⟨rfl, by repeat (first | (with_reducible first | exact HB.out | apply below_alloc | apply pw_below_drewN | apply below_drew1) | exact HB.out)⟩
  · rw [if_neg c1] at h
    cases h
    have d1 : (e1 == 0) = false := by simpa using c1
    have d2 : (e1 != 0) = true := by simpa using c1
    clear c1
    go_enter Try.func19, Try.ntmps19
    go_wp2_with (first
      | ((with_reducible refine gate_dst (N := 2) rfl ?_); refine box_event ?hg (N := 2) ?hd (cs := bcells x) (t := 26) ?hr ?_; (case hd => rfl); (case hg => rfl); (case hr => first | (go_simp; done) | (go_simp; rfl)); intro gx hg w1x hbox hb; have Gx := Aside0.mk (show w.heap.size ≤ gx from by rw [hg]; exact below_size (by repeat (first | (with_reducible first | exact HB.out | apply below_alloc | apply pw_below_drewN | apply below_drew1) | exact HB.out))); have BKx := Aside0.mk hbox; clear hbox hg; have n0_ := Aside0.mk (below_step (by repeat (first | (with_reducible first | exact HB.out | apply below_alloc | apply pw_below_drewN | apply below_drew1) | exact HB.out)) hb); clear HB; have HB := n0_; clear n0_ hb)
      | ((with_reducible refine gate_dst (N := 3) rfl ?_); refine box_event ?hg (N := 3) ?hd (cs := bcells y) (t := 26) ?hr ?_; (case hd => rfl); (case hg => rfl); (case hr => first | (go_simp; done) | (go_simp; rfl)); intro gy hg w1y hbox hb; have Gy := Aside0.mk (show w.heap.size ≤ gy from by rw [hg]; exact below_size (by repeat (first | (with_reducible first | exact HB.out | apply below_alloc | apply pw_below_drewN | apply below_drew1) | exact HB.out))); have BKy := Aside0.mk hbox; clear hbox hg; have n0_ := Aside0.mk (below_step (by repeat (first | (with_reducible first | exact HB.out | apply below_alloc | apply pw_below_drewN | apply below_drew1) | exact HB.out)) hb); (first | have n1_ := Aside0.mk (blk_below BKx.out hb) | have n1_ := Aside0.mk (blk_below (blk_drewN BKx.out _) hb) | have n1_ := Aside0.mk (blk_below (blk_drew BKx.out) hb) | have n1_ := Aside0.mk (blk_below (blk_alloc BKx.out _) hb) | have n1_ := Aside0.mk (blk_below (by (with_reducible repeat (first | refine blk_drewN ?_ _ | refine blk_drew ?_ | refine blk_alloc ?_ _)); exact BKx.out) hb)); clear HB BKx; have HB := n0_; have BKx := n1_; clear n0_ n1_ hb)
      | ((with_reducible refine gate_dst (N := 8) rfl ?_); refine wpList_load_row rfl 26 (.tmp 2) rfl gx rfl 26 (bcells x) (0, 0) _ (by (with_reducible repeat (first | refine blk_drewN ?_ _ | refine blk_drew ?_ | refine blk_alloc ?_ _)); exact BKx.out) Try.underlying26 rfl (seal_size _ HX.out) ?_)
      | ((with_reducible refine gate_dst (N := 9) rfl ?_); refine wpList_load_row rfl 26 (.tmp 3) rfl gy rfl 26 (bcells y) (0, 0) _ (by (with_reducible repeat (first | refine blk_drewN ?_ _ | refine blk_drew ?_ | refine blk_alloc ?_ _)); exact BKy.out) Try.underlying26 rfl (seal_size _ HY.out) ?_)
      | (go_at_call 17; with_reducible refine (refNewest.calls k x y HX.out HY.out _ e1 _ F1.out).mono ?_; rintro e' w' ⟨rfl, hb⟩; have n0_ := Aside0.mk (below_step (by repeat (first | (with_reducible first | exact HB.out | apply below_alloc | apply pw_below_drewN | apply below_drew1) | exact HB.out)) hb); (first | have n1_ := Aside0.mk (blk_below BKx.out hb) | have n1_ := Aside0.mk (blk_below (blk_drewN BKx.out _) hb) | have n1_ := Aside0.mk (blk_below (blk_drew BKx.out) hb) | have n1_ := Aside0.mk (blk_below (blk_alloc BKx.out _) hb) | have n1_ := Aside0.mk (blk_below (by (with_reducible repeat (first | refine blk_drewN ?_ _ | refine blk_drew ?_ | refine blk_alloc ?_ _)); exact BKx.out) hb)); (first | have n2_ := Aside0.mk (blk_below BKy.out hb) | have n2_ := Aside0.mk (blk_below (blk_drewN BKy.out _) hb) | have n2_ := Aside0.mk (blk_below (blk_drew BKy.out) hb) | have n2_ := Aside0.mk (blk_below (blk_alloc BKy.out _) hb) | have n2_ := Aside0.mk (blk_below (by (with_reducible repeat (first | refine blk_drewN ?_ _ | refine blk_drew ?_ | refine blk_alloc ?_ _)); exact BKy.out) hb)); clear HB BKx BKy; have HB := n0_; have BKx := n1_; have BKy := n2_; clear n0_ n1_ n2_ hb))
    go_ret
    exact ⟨rfl, by repeat (first | (with_reducible first | exact HB.out | apply below_alloc | apply pw_below_drewN | apply below_drew1) | exact HB.out)⟩
end Go.Proofs.Ythgbipgfplokeaa.GA
