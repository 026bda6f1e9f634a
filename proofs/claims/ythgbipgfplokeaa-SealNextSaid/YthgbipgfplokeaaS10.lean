import Derived.Test.YthgbipgfplokeaaS9
import Derived.Deep.RegionHeld3
namespace Go.Proofs.Ythgbipgfplokeaa.GA
open Go.RowKit Go.Proofs.YthgbipgfplokeaaW.PrintWords Go.Proofs.YthgbipgfplokeaaW.PrintLast Go.Proofs.YthgbipgfplokeaaW.PrintMore
set_option linter.unusedVariables false
set_option linter.unusedSimpArgs false

theorem rp.ne {w w' : World} {A : Option Addr} {n c gx : Nat} {xs : List Int} (h : Kd.R (Kd.int .u8) 5 w' w.heap.size (fun _ => True) (.slice A n c) xs) (hg : gx < w.heap.size) : ∀ ad, A = some ad → 0 < n → ad.block ≠ gx := by
  rintro ad rfl _
  have := ((Kd.R_bound h).1 ad.block (by simp [Value.ownBlock])).2.1
  omega
/-- the first i of y, zeros behind -/
def fillTo (y : List Int) (i : Nat) : List Int := y.take i ++ List.replicate (64 - i) 0
theorem fill_zero (y : List Int) : fillTo y 0 = zero64 := rfl
theorem fill_all (y : List Int) (h : y.length = 64) : fillTo y 64 = y := by
  unfold fillTo
  rw [List.take_of_length_le (by omega)]
  exact List.append_nil _
theorem fill_len (y : List Int) (i : Nat) (h : y.length = 64) (hi : i ≤ 64) : (fillTo y i).length = 64 := by
  unfold fillTo
  rw [List.length_append, List.length_take, List.length_replicate]
  omega
theorem fill_set (y : List Int) (i : Nat) (h : y.length = 64) (hi : i < 64) : (fillTo y i).set i (rd y i) = fillTo y (i + 1) := by
  unfold fillTo rd
  apply List.ext_getElem?
  intro j
  rw [Int.toNat_natCast, List.getElem?_set]
  have l1 : (List.take i y).length = i := by rw [List.length_take]; omega
  have l2 : (List.take (i + 1) y).length = i + 1 := by rw [List.length_take]; omega
  by_cases hj : i = j
  · subst hj
    rw [if_pos rfl, if_pos (by simp [l1]; omega), List.getElem?_append_left (by omega), List.getElem?_take_of_lt (by omega)]
    rw [List.getD_eq_getElem?_getD, List.getElem?_eq_getElem (by omega)]
    rfl
  · rw [if_neg hj]
    by_cases h1 : j < i
    · rw [List.getElem?_append_left (by omega), List.getElem?_append_left (by omega), List.getElem?_take_of_lt h1, List.getElem?_take_of_lt (by omega)]
    · rw [List.getElem?_append_right (by omega), List.getElem?_append_right (by omega), l1, l2]
      simp only [List.getElem?_replicate]
      have : (j - i < 64 - i) ↔ (j - (i + 1) < 64 - (i + 1)) := by omega
      simp only [this]
theorem rd_app1 (a z : List Int) (i : Nat) (h : i < a.length) : rd (a ++ z) i = rd a i := by
  unfold rd
  rw [Int.toNat_natCast, List.getD_eq_getElem?_getD, List.getD_eq_getElem?_getD, List.getElem?_append_left h]
theorem rd_app2 (a z : List Int) (i : Nat) (h : a.length ≤ i) : rd (a ++ z) i = rd z ((i - a.length : Nat) : Int) := by
  unfold rd
  rw [Int.toNat_natCast, Int.toNat_natCast, List.getD_eq_getElem?_getD, List.getD_eq_getElem?_getD, List.getElem?_append_right h]
/-- the document's Put -/
def refPut.f (k : Nat) (n : Int) (b : List Int) : Option (List Int × Int) :=
  if n < 1 then some (zero64, 2) else if 44 < b.length then some (zero64, 3) else
  (cohortref07_behind.f k n b).bind fun z => (cohortref03_Of.f k z).bind fun s => (cohortref01_Put.f k s 4).bind fun p =>
  if z.length = 60 ∧ p.1.length = 4 ∧ 0 ≤ s ∧ s < 4294967296 then some (p.1 ++ z, 0) else none
set_option maxHeartbeats 8000000 in
set_option maxRecDepth 100000 in
theorem refPut.calls (k : Nat) (n : Int) (A : Option Addr) (c : Nat) (b : List Int) (x : List Int) (e : Int) (w : World) (hb : Kd.C (Kd.int .u8) w A b.length b) (hc : b.length ≤ c) (h : refPut.f k n b = some (x, e)) :
    Calls Try.prog 10 #[.int .u64 n, .slice A b.length c] w fun e' w' => e' = .returned (.tuple #[.agg (bcells x), .int .i64 e]) ∧ Below w.heap.size w w' := by
  unfold refPut.f at h
  have HB := Aside0.mk (Below.refl w.heap.size w)
  have HC := Aside0.mk hb
  have HCC := Aside0.mk hc
  have ZL := Aside0.mk (show zero64.length = 64 from rfl)
  clear hb hc
  by_cases h0 : n < 1
  · rw [if_pos h0] at h
    cases h
    go_enter Try.func10, Try.ntmps10
    go_wp2_with (first
      | ((with_reducible refine gate_dst (N := 4) rfl ?_); refine box_event ?hg (N := 4) ?hd (cs := bcells zero64) (t := 26) ?hr ?_; (case hd => rfl); (case hg => rfl); (case hr => first | (go_simp; done) | (go_simp; rfl)); intro gr hg w1r hbox hb; have Gr := Aside0.mk (show w.heap.size ≤ gr from by rw [hg]; exact below_size (by repeat (first | (with_reducible first | exact HB.out | apply below_alloc | apply pw_below_drewN | apply below_drew1) | exact HB.out))); have BKr := Aside0.mk hbox; clear hbox hg; have n0_ := Aside0.mk (below_step (by repeat (first | (with_reducible first | exact HB.out | apply below_alloc | apply pw_below_drewN | apply below_drew1) | exact HB.out)) hb); clear HB; have HB := n0_; clear n0_ hb)
      | ((with_reducible refine gate_dst (N := 6) rfl ?_); refine box_event ?hg (N := 6) ?hd (cs := bcells zero64) (t := 26) ?hr ?_; (case hd => rfl); (case hg => rfl); (case hr => first | (go_simp; done) | (go_simp; rfl)); intro gx hg w1x hbox hb; have Gx := Aside0.mk (show w.heap.size ≤ gx from by rw [hg]; exact below_size (by repeat (first | (with_reducible first | exact HB.out | apply below_alloc | apply pw_below_drewN | apply below_drew1) | exact HB.out))); have NE := Aside0.mk (show gr ≠ gx from by rw [hg]; exact Nat.ne_of_lt (blk_lt (by (with_reducible repeat (first | refine blk_drewN ?_ _ | refine blk_drew ?_ | refine blk_alloc ?_ _)); exact BKr.out))); have BKx := Aside0.mk hbox; clear hbox hg; have n0_ := Aside0.mk (below_step (by repeat (first | (with_reducible first | exact HB.out | apply below_alloc | apply pw_below_drewN | apply below_drew1) | exact HB.out)) hb); (first | have n1_ := Aside0.mk (blk_below BKr.out hb) | have n1_ := Aside0.mk (blk_below (blk_drewN BKr.out _) hb) | have n1_ := Aside0.mk (blk_below (blk_drew BKr.out) hb) | have n1_ := Aside0.mk (blk_below (blk_alloc BKr.out _) hb) | have n1_ := Aside0.mk (blk_below (by (with_reducible repeat (first | refine blk_drewN ?_ _ | refine blk_drew ?_ | refine blk_alloc ?_ _)); exact BKr.out) hb)); clear HB BKr; have HB := n0_; have BKr := n1_; clear n0_ n1_ hb)
      | ((with_reducible refine gate_dst (N := 13) rfl ?_); refine wpList_load_row rfl 26 (.tmp 6) rfl gx rfl 26 (bcells zero64) (0, 0) _ (by (with_reducible repeat (first | refine blk_drewN ?_ _ | refine blk_drew ?_ | refine blk_alloc ?_ _)); exact BKx.out) Try.underlying26 rfl (seal_size _ ZL.out) ?_)
      | (refine wpList_store_row rfl 26 (.tmp 4) (.tmp 13) rfl gr (bcells zero64) rfl (by rfl) 26 (bcells zero64) (by (with_reducible repeat (first | refine blk_drewN ?_ _ | refine blk_drew ?_ | refine blk_alloc ?_ _)); exact BKr.out) (seal_size _ ZL.out) (by first | (simp only [bcells_size]; done) | (simp only [bcells_size]; rfl) | (simp only [bcells_size]; rw [ZL.out]; rfl)) (bcells_all _) ?_; have n0 := Aside0.mk (below_setRow (show Below w.heap.size w _ from by repeat (first | (with_reducible first | exact HB.out | apply below_alloc | apply pw_below_drewN | apply below_drew1) | exact HB.out)) (show w.heap.size ≤ gr from Gr.out) (bcells zero64)); have n1 := Aside0.mk (setRow_heap _ _ _ (bcells zero64) _ _ (by (with_reducible repeat (first | refine blk_drewN ?_ _ | refine blk_drew ?_ | refine blk_alloc ?_ _)); exact BKr.out)); generalize World.setRow _ _ _ = w3 at n0 n1; clear HB BKr; have HB := n0; have BKr := n1; clear n0 n1))
    refine bodyPost_ret (results_ct rfl _ _ gr 26 (bcells zero64) (0, 0) _ rfl BKr.out Try.underlying26 rfl (seal_size _ ZL.out)) rfl ?_
    exact ⟨rfl, HB.out⟩
  · rw [if_neg h0] at h
    have d0 := decide_eq_false h0
    by_cases h1 : 44 < b.length
    · rw [if_pos h1] at h
      cases h
      have h2 : (b.length : Int) > 44 := by omega
      clear h1
      go_enter Try.func10, Try.ntmps10
      go_wp2_with (first
        | ((with_reducible refine gate_dst (N := 4) rfl ?_); refine box_event ?hg (N := 4) ?hd (cs := bcells zero64) (t := 26) ?hr ?_; (case hd => rfl); (case hg => rfl); (case hr => first | (go_simp; done) | (go_simp; rfl)); intro gr hg w1r hbox hb; have Gr := Aside0.mk (show w.heap.size ≤ gr from by rw [hg]; exact below_size (by repeat (first | (with_reducible first | exact HB.out | apply below_alloc | apply pw_below_drewN | apply below_drew1) | exact HB.out))); have BKr := Aside0.mk hbox; clear hbox hg; have n0_ := Aside0.mk (below_step (by repeat (first | (with_reducible first | exact HB.out | apply below_alloc | apply pw_below_drewN | apply below_drew1) | exact HB.out)) hb); clear HB; have HB := n0_; clear n0_ hb)
        | ((with_reducible refine gate_dst (N := 6) rfl ?_); refine box_event ?hg (N := 6) ?hd (cs := bcells zero64) (t := 26) ?hr ?_; (case hd => rfl); (case hg => rfl); (case hr => first | (go_simp; done) | (go_simp; rfl)); intro gx hg w1x hbox hb; have Gx := Aside0.mk (show w.heap.size ≤ gx from by rw [hg]; exact below_size (by repeat (first | (with_reducible first | exact HB.out | apply below_alloc | apply pw_below_drewN | apply below_drew1) | exact HB.out))); have NE := Aside0.mk (show gr ≠ gx from by rw [hg]; exact Nat.ne_of_lt (blk_lt (by (with_reducible repeat (first | refine blk_drewN ?_ _ | refine blk_drew ?_ | refine blk_alloc ?_ _)); exact BKr.out))); have BKx := Aside0.mk hbox; clear hbox hg; have n0_ := Aside0.mk (below_step (by repeat (first | (with_reducible first | exact HB.out | apply below_alloc | apply pw_below_drewN | apply below_drew1) | exact HB.out)) hb); (first | have n1_ := Aside0.mk (blk_below BKr.out hb) | have n1_ := Aside0.mk (blk_below (blk_drewN BKr.out _) hb) | have n1_ := Aside0.mk (blk_below (blk_drew BKr.out) hb) | have n1_ := Aside0.mk (blk_below (blk_alloc BKr.out _) hb) | have n1_ := Aside0.mk (blk_below (by (with_reducible repeat (first | refine blk_drewN ?_ _ | refine blk_drew ?_ | refine blk_alloc ?_ _)); exact BKr.out) hb)); clear HB BKr; have HB := n0_; have BKr := n1_; clear n0_ n1_ hb)
        | ((with_reducible refine gate_dst (N := 17) rfl ?_); refine wpList_load_row rfl 26 (.tmp 6) rfl gx rfl 26 (bcells zero64) (0, 0) _ (by (with_reducible repeat (first | refine blk_drewN ?_ _ | refine blk_drew ?_ | refine blk_alloc ?_ _)); exact BKx.out) Try.underlying26 rfl (seal_size _ ZL.out) ?_)
        | (refine wpList_store_row rfl 26 (.tmp 4) (.tmp 17) rfl gr (bcells zero64) rfl (by rfl) 26 (bcells zero64) (by (with_reducible repeat (first | refine blk_drewN ?_ _ | refine blk_drew ?_ | refine blk_alloc ?_ _)); exact BKr.out) (seal_size _ ZL.out) (by first | (simp only [bcells_size]; done) | (simp only [bcells_size]; rfl) | (simp only [bcells_size]; rw [ZL.out]; rfl)) (bcells_all _) ?_; have n0 := Aside0.mk (below_setRow (show Below w.heap.size w _ from by repeat (first | (with_reducible first | exact HB.out | apply below_alloc | apply pw_below_drewN | apply below_drew1) | exact HB.out)) (show w.heap.size ≤ gr from Gr.out) (bcells zero64)); have n1 := Aside0.mk (setRow_heap _ _ _ (bcells zero64) _ _ (by (with_reducible repeat (first | refine blk_drewN ?_ _ | refine blk_drew ?_ | refine blk_alloc ?_ _)); exact BKr.out)); generalize World.setRow _ _ _ = w3 at n0 n1; clear HB BKr; have HB := n0; have BKr := n1; clear n0 n1))
      refine bodyPost_ret (results_ct rfl _ _ gr 26 (bcells zero64) (0, 0) _ rfl BKr.out Try.underlying26 rfl (seal_size _ ZL.out)) rfl ?_
      exact ⟨rfl, HB.out⟩
    · rw [if_neg h1] at h
      have d1 : decide ((b.length : Int) > 44) = false := decide_eq_false (by omega)
      obtain ⟨z, f1, h⟩ := Option.bind_eq_some_iff.mp h
      obtain ⟨s, f2, h⟩ := Option.bind_eq_some_iff.mp h
      obtain ⟨⟨y4, e4⟩, f3, h⟩ := Option.bind_eq_some_iff.mp h
      simp only at h
      by_cases hh : z.length = 60 ∧ y4.length = 4 ∧ 0 ≤ s ∧ s < 4294967296
      case neg => rw [if_neg hh] at h; cases h
      rw [if_pos hh] at h
      cases h
      have F1 := Aside0.mk f1
      have F2 := Aside0.mk f2
      have F3 := Aside0.mk f3
      have ZE := Aside0.mk hh.1
      have YE := Aside0.mk hh.2.1
      have hs0 := hh.2.2.1
      have hs1 := hh.2.2.2
      have YZ := Aside0.mk (show (y4 ++ z).length = 64 by rw [List.length_append]; omega)
      clear f1 f2 f3 hh h0 h1
      go_enter Try.func10, Try.ntmps10
      go_wp2_with (first
        | ((with_reducible refine gate_dst (N := 4) rfl ?_); refine box_event ?hg (N := 4) ?hd (cs := bcells zero64) (t := 26) ?hr ?_; (case hd => rfl); (case hg => rfl); (case hr => first | (go_simp; done) | (go_simp; rfl)); intro gr hg w1r hbox hb; have Gr := Aside0.mk (show w.heap.size ≤ gr from by rw [hg]; exact below_size (by repeat (first | (with_reducible first | exact HB.out | apply below_alloc | apply pw_below_drewN | apply below_drew1) | exact HB.out))); have BKr := Aside0.mk hbox; clear hbox hg; have n0_ := Aside0.mk (below_step (by repeat (first | (with_reducible first | exact HB.out | apply below_alloc | apply pw_below_drewN | apply below_drew1) | exact HB.out)) hb); clear HB; have HB := n0_; clear n0_ hb)
        | ((with_reducible refine gate_dst (N := 6) rfl ?_); refine box_event ?hg (N := 6) ?hd (cs := bcells zero64) (t := 26) ?hr ?_; (case hd => rfl); (case hg => rfl); (case hr => first | (go_simp; done) | (go_simp; rfl)); intro gx hg w1x hbox hb; have Gx := Aside0.mk (show w.heap.size ≤ gx from by rw [hg]; exact below_size (by repeat (first | (with_reducible first | exact HB.out | apply below_alloc | apply pw_below_drewN | apply below_drew1) | exact HB.out))); have NE := Aside0.mk (show gr ≠ gx from by rw [hg]; exact Nat.ne_of_lt (blk_lt (by (with_reducible repeat (first | refine blk_drewN ?_ _ | refine blk_drew ?_ | refine blk_alloc ?_ _)); exact BKr.out))); have BKx := Aside0.mk hbox; clear hbox hg; have n0_ := Aside0.mk (below_step (by repeat (first | (with_reducible first | exact HB.out | apply below_alloc | apply pw_below_drewN | apply below_drew1) | exact HB.out)) hb); (first | have n1_ := Aside0.mk (blk_below BKr.out hb) | have n1_ := Aside0.mk (blk_below (blk_drewN BKr.out _) hb) | have n1_ := Aside0.mk (blk_below (blk_drew BKr.out) hb) | have n1_ := Aside0.mk (blk_below (blk_alloc BKr.out _) hb) | have n1_ := Aside0.mk (blk_below (by (with_reducible repeat (first | refine blk_drewN ?_ _ | refine blk_drew ?_ | refine blk_alloc ?_ _)); exact BKr.out) hb)); clear HB BKr; have HB := n0_; have BKr := n1_; clear n0_ n1_ hb)
        | (go_at_call 26; with_reducible refine (cohortref07_behind.calls k n A c b z _ (Kd.C_below HC.out (by repeat (first | (with_reducible first | exact HB.out | apply below_alloc | apply pw_below_drewN | apply below_drew1) | exact HB.out))) HCC.out F1.out).mono ?_; rintro e' wz ⟨v, rfl, ho, hb⟩; obtain ⟨Az, cz, eA⟩ := Kd.R_slice ho; subst eA; have HZ := Aside0.mk (Kd.R_reads' ho).2.2; have HZL := Aside0.mk (Kd.R_reads' ho).2.1; have NZ := Aside0.mk (rp.ne ho (blk_lt (by (with_reducible repeat (first | refine blk_drewN ?_ _ | refine blk_drew ?_ | refine blk_alloc ?_ _)); exact BKx.out))); have WZ := Aside0.mk (Below.refl wz.heap.size wz); clear ho; have n0_ := Aside0.mk (below_step (by repeat (first | (with_reducible first | exact HB.out | apply below_alloc | apply pw_below_drewN | apply below_drew1) | exact HB.out)) hb); (first | have n1_ := Aside0.mk (blk_below BKr.out hb) | have n1_ := Aside0.mk (blk_below (blk_drewN BKr.out _) hb) | have n1_ := Aside0.mk (blk_below (blk_drew BKr.out) hb) | have n1_ := Aside0.mk (blk_below (blk_alloc BKr.out _) hb) | have n1_ := Aside0.mk (blk_below (by (with_reducible repeat (first | refine blk_drewN ?_ _ | refine blk_drew ?_ | refine blk_alloc ?_ _)); exact BKr.out) hb)); (first | have n2_ := Aside0.mk (blk_below BKx.out hb) | have n2_ := Aside0.mk (blk_below (blk_drewN BKx.out _) hb) | have n2_ := Aside0.mk (blk_below (blk_drew BKx.out) hb) | have n2_ := Aside0.mk (blk_below (blk_alloc BKx.out _) hb) | have n2_ := Aside0.mk (blk_below (by (with_reducible repeat (first | refine blk_drewN ?_ _ | refine blk_drew ?_ | refine blk_alloc ?_ _)); exact BKx.out) hb)); clear HB BKr BKx; have HB := n0_; have BKr := n1_; have BKx := n2_; clear n0_ n1_ n2_ hb)
        | (go_at_call 21; with_reducible refine (cohortref03_Of.calls k Az cz z s _ (Kd.C_below HZ.out (by repeat (first | (with_reducible first | exact WZ.out | apply below_alloc | apply pw_below_drewN | apply below_drew1) | exact WZ.out))) HZL.out F2.out).mono ?_; rintro e' w' ⟨rfl, ⟨nd, rfl⟩⟩)
        | (go_at_call 27; with_reducible refine (cohortref01_Put.calls k s 4 y4 e4 _ F3.out).mono ?_; rintro e' ws ⟨v, rfl, ho, hb⟩; obtain ⟨As, cs, eA⟩ := Kd.R_slice ho; subst eA; have HS := Aside0.mk (Kd.R_reads' ho).2.2; have HSL := Aside0.mk (Kd.R_reads' ho).2.1; have NS := Aside0.mk (rp.ne ho (show gx < wz.heap.size from blk_lt BKx.out)); clear ho; have n0_ := Aside0.mk (below_step (by repeat (first | (with_reducible first | exact HB.out | apply below_alloc | apply pw_below_drewN | apply below_drew1) | exact HB.out)) hb); have n1_ := Aside0.mk (below_step (by repeat (first | (with_reducible first | exact WZ.out | apply below_alloc | apply pw_below_drewN | apply below_drew1) | exact WZ.out)) hb); (first | have n2_ := Aside0.mk (blk_below BKr.out hb) | have n2_ := Aside0.mk (blk_below (blk_drewN BKr.out _) hb) | have n2_ := Aside0.mk (blk_below (blk_drew BKr.out) hb) | have n2_ := Aside0.mk (blk_below (blk_alloc BKr.out _) hb) | have n2_ := Aside0.mk (blk_below (by (with_reducible repeat (first | refine blk_drewN ?_ _ | refine blk_drew ?_ | refine blk_alloc ?_ _)); exact BKr.out) hb)); (first | have n3_ := Aside0.mk (blk_below BKx.out hb) | have n3_ := Aside0.mk (blk_below (blk_drewN BKx.out _) hb) | have n3_ := Aside0.mk (blk_below (blk_drew BKx.out) hb) | have n3_ := Aside0.mk (blk_below (blk_alloc BKx.out _) hb) | have n3_ := Aside0.mk (blk_below (by (with_reducible repeat (first | refine blk_drewN ?_ _ | refine blk_drew ?_ | refine blk_alloc ?_ _)); exact BKx.out) hb)); clear HB WZ BKr BKx; have HB := n0_; have WZ := n1_; have BKr := n2_; have BKx := n3_; clear n0_ n1_ n2_ n3_ hb))
      have SZ := Aside0.mk (Kd.C_foot_ne (d := Kd.int .u8) (g := gx) (fun h => h) HZ.out NZ.out)
      have KW := Aside0.mk (KeepBut.of_below WZ.out gx none)
      have SS := Aside0.mk (Kd.C_foot_ne (d := Kd.int .u8) (g := gx) (fun h => h) HS.out NS.out)
      clear HZ HS WZ NZ NS
      go_loopw [10] (fun v10 w' => ∃ i : Nat, i ≤ 64 ∧ v10 = .int .i64 i ∧ Aside0 (w'.heap[gx]? = some (.cells (bcells (fillTo (y4 ++ z) i)) 26 (0, 0))) ∧ Aside0 (w'.heap[gr]? = some (.cells (bcells zero64) 26 (0, 0))) ∧ Aside0 (Below w.heap.size w w') ∧ Aside0 (KeepBut ws w' gx none)) (fun v10 _ => 64 - (intOf v10).toNat)
      case atStart => exact ⟨0, Nat.zero_le _, rfl, BKx, BKr, HB, Aside0.mk (KeepBut.refl _ _ _)⟩
      case round =>
        clear BKx BKr HB
        obtain ⟨i, hi, rfl, BKx, BKr, HB, KB⟩ := hrel
        by_cases hlt : i < 64
        · have i1 : (0 : Int) ≤ (i : Int) := Int.natCast_nonneg i
          have i2 : (i : Int) < 64 := by omega
          have i3 : wrap64 ((i : Int) + 1) = (i : Int) + 1 := by unfold wrap64; omega
          have x0 := (blk_cell BKx.out i).trans (bcells_get _ i (by rw [fill_len _ i YZ.out hi]; exact hlt))
          have z0 := blk_frozen BKx.out i
          by_cases h4 : i < 4
          · have h4' : (i : Int) < 4 := by omega
            obtain ⟨ad, rfl, hcell⟩ := Kd.at_int (SS.out _ KB.out) i i1 (by rw [YE.out]; exact h4')
            rw [Int.toNat_natCast] at hcell
            have i4 : (i : Int) < (y4.length : Int) := by rw [YE.out]; exact h4'
            have E1 : (bcells (fillTo (y4 ++ z) i)).setIfInBounds i (.int .u8 (rd y4 i)) = bcells (fillTo (y4 ++ z) (i + 1)) := by rw [← rd_app1 y4 z i (by rw [YE.out]; exact h4), bcells_set, fill_set _ i YZ.out hlt]
            go_wp2
            exact ⟨⟨i + 1, hlt, by first | rfl | (rw [Int.natCast_add]; rfl), Aside0.mk (blk_put BKx.out i _ E1), Aside0.mk ((heap_setCell_other _ _ gr _ (show gr ≠ gx from NE.out)).trans BKr.out), Aside0.mk (HB.out.setCell (show w.heap.size ≤ gx from Gx.out) _), Aside0.mk (KB.out.set_ i _)⟩, by show 64 - (i + 1) < 64 - i; omega⟩
          · have h4' := decide_eq_false (show ¬ (i : Int) < 4 by omega)
            have j1 : (0 : Int) ≤ (i : Int) - 4 := by omega
            have j2 : (i : Int) - 4 < 60 := by omega
            obtain ⟨ad, rfl, hcell⟩ := Kd.at_int (SZ.out _ (KW.out.trans KB.out (.inl rfl))) ((i : Int) - 4) j1 (by rw [ZE.out]; exact j2)
            rw [show ((i : Int) - 4).toNat = i - 4 by omega] at hcell
            have j3 : (i : Int) - 4 < (z.length : Int) := by rw [ZE.out]; exact j2
            have E1 : (bcells (fillTo (y4 ++ z) i)).setIfInBounds i (.int .u8 (rd z ((i : Int) - 4))) = bcells (fillTo (y4 ++ z) (i + 1)) := by
              have e4 : rd (y4 ++ z) (i : Int) = rd z ((i : Int) - 4) := by
                have := rd_app2 y4 z i (by rw [YE.out]; omega)
                rw [YE.out, show ((i - 4 : Nat) : Int) = (i : Int) - 4 by omega] at this
                exact this
              rw [← e4, bcells_set, fill_set _ i YZ.out hlt]
            go_wp2
            exact ⟨⟨i + 1, hlt, by first | rfl | (rw [Int.natCast_add]; rfl), Aside0.mk (blk_put BKx.out i _ E1), Aside0.mk ((heap_setCell_other _ _ gr _ (show gr ≠ gx from NE.out)).trans BKr.out), Aside0.mk (HB.out.setCell (show w.heap.size ≤ gx from Gx.out) _), Aside0.mk (KB.out.set_ i _)⟩, by show 64 - (i + 1) < 64 - i; omega⟩
        · have hin : i = 64 := by omega
          subst hin
          rw [fill_all _ YZ.out] at BKx
          have hd64 : decide (((64 : Nat) : Int) < 64) = false := rfl
          go_wp2_with (first
            | ((with_reducible refine gate_dst (N := 47) rfl ?_); refine wpList_load_row rfl 26 (.tmp 6) rfl gx rfl 26 (bcells (y4 ++ z)) (0, 0) _ (by (with_reducible repeat (first | refine blk_drewN ?_ _ | refine blk_drew ?_ | refine blk_alloc ?_ _)); exact BKx.out) Try.underlying26 rfl (seal_size _ YZ.out) ?_)
            | (refine wpList_store_row rfl 26 (.tmp 4) (.tmp 47) rfl gr (bcells (y4 ++ z)) rfl (by rfl) 26 (bcells zero64) (by (with_reducible repeat (first | refine blk_drewN ?_ _ | refine blk_drew ?_ | refine blk_alloc ?_ _)); exact BKr.out) (seal_size _ YZ.out) (by first | (simp only [bcells_size]; done) | (simp only [bcells_size]; rfl) | (simp only [bcells_size]; rw [YZ.out]; rfl)) (bcells_all _) ?_; have n0 := Aside0.mk (below_setRow (show Below w.heap.size w _ from by repeat (first | (with_reducible first | exact HB.out | apply below_alloc | apply pw_below_drewN | apply below_drew1) | exact HB.out)) (show w.heap.size ≤ gr from Gr.out) (bcells (y4 ++ z))); have n1 := Aside0.mk (setRow_heap _ _ _ (bcells (y4 ++ z)) _ _ (by (with_reducible repeat (first | refine blk_drewN ?_ _ | refine blk_drew ?_ | refine blk_alloc ?_ _)); exact BKr.out)); generalize World.setRow _ _ _ = w3 at n0 n1; clear HB BKr; have HB := n0; have BKr := n1; clear n0 n1))
          refine bodyPost_ret (results_ct rfl _ _ gr 26 (bcells _) (0, 0) _ rfl BKr.out Try.underlying26 rfl (seal_size _ YZ.out)) rfl ?_
          exact ⟨rfl, HB.out⟩
end Go.Proofs.Ythgbipgfplokeaa.GA
