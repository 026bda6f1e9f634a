import Derived.Test.YthgbipgfplokeaaS3
namespace Go.Proofs.Ythgbipgfplokeaa.GA
open Go.RowKit Go.Proofs.YthgbipgfplokeaaW.PrintWords Go.Proofs.YthgbipgfplokeaaW.PrintLast Go.Proofs.YthgbipgfplokeaaW.PrintMore
set_option linter.unusedVariables false
set_option linter.unusedSimpArgs false

theorem seal_size (X : List Int) (h : X.length = 64) : (Try.prog.info? 26).map (·.size) = some (bcells X).size := by rw [seal_info, bcells_size, h]
theorem bcells_all (X : List Int) : (bcells X).all (·.oneCell') = true := by
  rw [Array.all_eq_true]
  intro i hi
  have := bcells_one X ((bcells X)[i]) (by simp)
  exact this
theorem rep52 (n : Int) : (List.replicate 4 0 ++ (bytesOf8 n ++ List.replicate 52 0) : List Int).length = 64 := rfl
theorem len_x2 (n : Int) (b : List Int) (h : b.length ≤ 44) : (List.replicate 4 0 ++ (bytesOf8 n ++ (b ++ (List.replicate (44 - b.length) 0 ++ List.replicate 8 0))) : List Int).length = 64 := by simp [bytesOf8]; omega
theorem len_x3 (n : Int) (b : List Int) (h : b.length ≤ 44) : (List.replicate 4 0 ++ sealZ n b : List Int).length = 64 := by rw [List.length_append, sealZ_len n b h]; rfl
theorem len_x4 (n s : Int) (b : List Int) (h : b.length ≤ 44) : (bytesOf4 s ++ sealZ n b : List Int).length = 64 := by rw [List.length_append, sealZ_len n b h]; rfl
theorem drop_x3 (Z : List Int) (h : Z.length = 60) : ((List.replicate 4 0 ++ Z).drop 4).take 60 = Z := by
  show Z.take 60 = Z
  rw [List.take_of_length_le (by omega)]

set_option maxHeartbeats 8000000 in
set_option maxRecDepth 100000 in
theorem seal_Put.calls (k : Nat) (n : Int) (A : Option Addr) (c : Nat) (b : List Int) (x : List Int) (e : Int) (w : World) (hb : Kd.C (Kd.int .u8) w A b.length b) (hc : b.length ≤ c) (h : seal_Put.f k n b = some (x, e)) :
    Calls Try.prog 9 #[.int .u64 n, .slice A b.length c] w fun e' w' => e' = .returned (.tuple #[.agg (bcells x), .int .i64 e]) ∧ Below w.heap.size w w' := by
  unfold seal_Put.f at h
  have HB := Aside0.mk (Below.refl w.heap.size w)
  have HBY := Aside0.mk hb
  clear hb
  by_cases h0 : n = 0
  · rw [if_pos h0] at h
    cases h
    subst h0
    go_enter Try.func9, Try.ntmps9
    go_wp2_with (first
      | ((with_reducible refine gate_dst (N := 4) rfl ?_); refine box_event ?hg (N := 4) ?hd (cs := bcells zero64) (t := 26) ?hr ?_; (case hd => rfl); (case hg => rfl); (case hr => first | (go_simp; done) | (go_simp; rfl)); intro g hg w1 hbox hb; have GG := Aside0.mk (show w.heap.size ≤ g from by rw [hg]; exact below_size (by repeat (first | (with_reducible first | exact HB.out | apply below_alloc | apply pw_below_drewN | apply below_drew1) | exact HB.out))); have BKx := Aside0.mk hbox; have XL := Aside0.mk (show zero64.length = 64 from rfl); clear hbox hg; have n0_ := Aside0.mk (below_step (by repeat (first | (with_reducible first | exact HB.out | apply below_alloc | apply pw_below_drewN | apply below_drew1) | exact HB.out)) hb); clear HB; have HB := n0_; clear n0_ hb)
      | ((with_reducible refine gate_dst (N := 12) rfl ?_); refine wpList_load_row rfl 26 (.tmp 4) rfl g rfl 26 (bcells _) (0, 0) _ BKx.out Try.underlying26 rfl (seal_size _ XL.out) ?_)
      | (refine wpList_store_row rfl 26 (.tmp 4) (.tmp 12) rfl g (bcells zero64) rfl (by rfl) 26 (bcells zero64) BKx.out (seal_size _ XL.out) rfl (bcells_all _) ?_; have n0 := Aside0.mk (below_setRow HB.out GG.out (bcells zero64)); have n1 := Aside0.mk (setRow_heap _ _ _ (bcells zero64) _ _ BKx.out); generalize World.setRow _ _ _ = w3 at n0 n1; clear HB BKx; have HB := n0; have BKx := n1; clear n0 n1))
    refine bodyPost_ret (results_ct rfl _ _ g 26 (bcells zero64) (0, 0) _ rfl BKx.out Try.underlying26 rfl (seal_size _ XL.out)) rfl ?_
    exact ⟨rfl, HB.out⟩
  · rw [if_neg h0] at h
    have hn0 : (n == 0) = false := by simpa using h0
    clear h0
    by_cases h1 : 44 < b.length
    · rw [if_pos h1] at h
      cases h
      have h2 : (b.length : Int) > 44 := by omega
      clear h1
      go_enter Try.func9, Try.ntmps9
      go_wp2_with (first
      | ((with_reducible refine gate_dst (N := 4) rfl ?_); refine box_event ?hg (N := 4) ?hd (cs := bcells zero64) (t := 26) ?hr ?_; (case hd => rfl); (case hg => rfl); (case hr => first | (go_simp; done) | (go_simp; rfl)); intro g hg w1 hbox hb; have GG := Aside0.mk (show w.heap.size ≤ g from by rw [hg]; exact below_size (by repeat (first | (with_reducible first | exact HB.out | apply below_alloc | apply pw_below_drewN | apply below_drew1) | exact HB.out))); have BKx := Aside0.mk hbox; have XL := Aside0.mk (show zero64.length = 64 from rfl); clear hbox hg; have n0_ := Aside0.mk (below_step (by repeat (first | (with_reducible first | exact HB.out | apply below_alloc | apply pw_below_drewN | apply below_drew1) | exact HB.out)) hb); clear HB; have HB := n0_; clear n0_ hb)
      | ((with_reducible refine gate_dst (N := 16) rfl ?_); refine wpList_load_row rfl 26 (.tmp 4) rfl g rfl 26 (bcells _) (0, 0) _ BKx.out Try.underlying26 rfl (seal_size _ XL.out) ?_)
      | (refine wpList_store_row rfl 26 (.tmp 4) (.tmp 16) rfl g (bcells zero64) rfl (by rfl) 26 (bcells zero64) BKx.out (seal_size _ XL.out) rfl (bcells_all _) ?_; have n0 := Aside0.mk (below_setRow HB.out GG.out (bcells zero64)); have n1 := Aside0.mk (setRow_heap _ _ _ (bcells zero64) _ _ BKx.out); generalize World.setRow _ _ _ = w3 at n0 n1; clear HB BKx; have HB := n0; have BKx := n1; clear n0 n1))
      refine bodyPost_ret (results_ct rfl _ _ g 26 (bcells zero64) (0, 0) _ rfl BKx.out Try.underlying26 rfl (seal_size _ XL.out)) rfl ?_
      exact ⟨rfl, HB.out⟩
    · rw [if_neg h1] at h
      have hle : b.length ≤ 44 := by omega
      have hd : decide ((b.length : Int) > 44) = false := decide_eq_false (by omega)
      obtain ⟨L1, f1, h⟩ := Option.bind_eq_some_iff.mp h
      obtain ⟨s, f2, h⟩ := Option.bind_eq_some_iff.mp h
      obtain ⟨L2, f3, h⟩ := Option.bind_eq_some_iff.mp h
      by_cases hh : L1 ≤ 64 ∧ L2 ≤ 32 ∧ 0 ≤ s ∧ s < 4294967296
      case neg => rw [if_neg hh] at h; cases h
      rw [if_pos hh] at h
      cases h
      have F1 := Aside0.mk f1
      have F1L := Aside0.mk hh.1
      have F2 := Aside0.mk f2
      have F3 := Aside0.mk f3
      have F3L := Aside0.mk hh.2.1
      have hs0 : 0 ≤ s := hh.2.2.1
      have hs1 : s < 4294967296 := hh.2.2.2
      have LE := Aside0.mk hle
      have HC := Aside0.mk hc
      have C60 := Aside0.mk (show ∀ (W : World) (g : Nat), W.heap[g]? = some (.cells (bcells (List.replicate 4 0 ++ sealZ n b)) 26 (0, 0)) → Calls Try.prog 25 #[.slice (some ⟨g, 4, none⟩) 60 60] W fun e w' => e = .returned (.int .u32 s) ∧ Below W.heap.size W w' from fun W g hg => by
        have hC := C_block hg 4 60 (by rw [len_x3 n b hle]; decide) (by decide)
        rw [drop_x3 _ (sealZ_len n b hle)] at hC
        have h60 : (60 : Nat) = (sealZ n b).length := (sealZ_len n b hle).symm
        rw [h60] at hC ⊢
        exact crc_Of.calls k _ _ (sealZ n b) s W hC (Nat.le_refl _) f2)
      clear f1 f2 f3 hh hle h1 hc
      go_enter Try.func9, Try.ntmps9
      go_wp2_with (first
      | ((with_reducible refine gate_dst (N := 4) rfl ?_); refine box_event ?hg (N := 4) ?hd (cs := bcells zero64) (t := 26) ?hr ?_; (case hd => rfl); (case hg => rfl); (case hr => first | (go_simp; done) | (go_simp; rfl)); intro g hg w1 hbox hb; have GG := Aside0.mk (show w.heap.size ≤ g from by rw [hg]; exact below_size (by repeat (first | (with_reducible first | exact HB.out | apply below_alloc | apply pw_below_drewN | apply below_drew1) | exact HB.out))); have BKx := Aside0.mk hbox; have XL := Aside0.mk (show zero64.length = 64 from rfl); clear hbox hg; have n0_ := Aside0.mk (below_step (by repeat (first | (with_reducible first | exact HB.out | apply below_alloc | apply pw_below_drewN | apply below_drew1) | exact HB.out)) hb); clear HB; have HB := n0_; clear n0_ hb)
      | (go_at_call 24; with_reducible refine (numPut8.calls k n L1 _ F1.out F1L.out).mono ?_; rintro e w' ⟨gi, rfl, hi, hge, hb⟩; have BKi := Aside0.mk hi; have GI := Aside0.mk (Nat.ne_of_gt (Nat.lt_of_lt_of_le (blk_lt BKx.out) hge)); clear hi hge; have n0_ := Aside0.mk (below_step (by repeat (first | (with_reducible first | exact HB.out | apply below_alloc | apply pw_below_drewN | apply below_drew1) | exact HB.out)) hb); (first | have n1_ := Aside0.mk (blk_below BKx.out hb) | have n1_ := Aside0.mk (blk_below (blk_drewN BKx.out _) hb) | have n1_ := Aside0.mk (blk_below (blk_drew BKx.out) hb) | have n1_ := Aside0.mk (blk_below (blk_alloc BKx.out _) hb) | have n1_ := Aside0.mk (blk_below (by (with_reducible repeat (first | refine blk_drewN ?_ _ | refine blk_drew ?_ | refine blk_alloc ?_ _)); exact BKx.out) hb)); clear HB BKx; have HB := n0_; have BKx := n1_; clear n0_ n1_ hb)
      | ((with_reducible refine gate_dst (N := 24) rfl ?_); refine wpList_bcopy rfl (.tmp 22) (.tmp 23) rfl g 4 8 zero64 (bytesOf8 n) (some ⟨gi, 0, none⟩) 8 8 26 rfl rfl BKx.out (show Kd.C (Kd.int .u8) _ (some ⟨gi, 0, none⟩) 8 (bytesOf8 n) from C_block BKi.out 0 8 (Nat.le_refl 8) (by decide)) (Nat.le_refl _) (by decide) w.heap.size HB.out GG.out ?_; intro w1 h1 h2 h3; have n0 := h1.out; rw [put_x1] at n0; have BKn := Aside0.mk n0; clear n0; have n2 := Aside0.mk ((h2.out gi GI.out).trans BKi.out); clear BKi; have BKi := n2; clear n2; clear BKx HB h1 h2; have BKx := BKn; have HB := Aside0.mk h3; clear BKn h3)
      | ((with_reducible refine gate_dst (N := 27) rfl ?_); refine wpList_bcopy rfl (.tmp 25) (.tmp 26) rfl g 12 44 _ b A b.length c 26 rfl rfl BKx.out (Kd.C_below HBY.out HB.out) LE.out (by rw [rep52]; have := LE.out; omega) w.heap.size HB.out GG.out ?_; intro w1 h1 h2 h3; have n0 := h1.out; rw [put_x2 n b LE.out] at n0; have BKn := Aside0.mk n0; clear n0; have n2 := Aside0.mk ((h2.out gi GI.out).trans BKi.out); clear BKi; have BKi := n2; clear n2; clear BKx HB h1 h2; have BKx := BKn; have HB := Aside0.mk h3; clear BKn h3)
      | ((with_reducible refine gate_dst (N := 30) rfl ?_); refine wpList_bcopy rfl (.tmp 28) (.tmp 29) rfl g 56 8 _ (bytesOf8 n) (some ⟨gi, 0, none⟩) 8 8 26 rfl rfl BKx.out (show Kd.C (Kd.int .u8) _ (some ⟨gi, 0, none⟩) 8 (bytesOf8 n) from C_block BKi.out 0 8 (Nat.le_refl 8) (by decide)) (Nat.le_refl _) (by rw [len_x2 n b LE.out]; decide) w.heap.size HB.out GG.out ?_; intro w1 h1 h2 h3; have n0 := h1.out; rw [put_x3 n b LE.out] at n0; have BKn := Aside0.mk n0; clear n0; clear BKx HB h1 h2; have BKx := BKn; have HB := Aside0.mk h3; clear BKn h3)
      | (go_at_call 25; with_reducible refine (C60.out _ _ BKx.out).mono ?_; rintro e w' ⟨rfl, hb⟩; have n0_ := Aside0.mk (below_step (by repeat (first | (with_reducible first | exact HB.out | apply below_alloc | apply pw_below_drewN | apply below_drew1) | exact HB.out)) hb); (first | have n1_ := Aside0.mk (blk_below BKx.out hb) | have n1_ := Aside0.mk (blk_below (blk_drewN BKx.out _) hb) | have n1_ := Aside0.mk (blk_below (blk_drew BKx.out) hb) | have n1_ := Aside0.mk (blk_below (blk_alloc BKx.out _) hb) | have n1_ := Aside0.mk (blk_below (by (with_reducible repeat (first | refine blk_drewN ?_ _ | refine blk_drew ?_ | refine blk_alloc ?_ _)); exact BKx.out) hb)); clear HB BKx; have HB := n0_; have BKx := n1_; clear n0_ n1_ hb)
      | (go_at_call 24; with_reducible refine (numPut4.calls k s L2 _ F3.out F3L.out).mono ?_; rintro e w' ⟨gj, rfl, hi, hge, hb⟩; have BKj := Aside0.mk hi; clear hi hge; have n0_ := Aside0.mk (below_step (by repeat (first | (with_reducible first | exact HB.out | apply below_alloc | apply pw_below_drewN | apply below_drew1) | exact HB.out)) hb); (first | have n1_ := Aside0.mk (blk_below BKx.out hb) | have n1_ := Aside0.mk (blk_below (blk_drewN BKx.out _) hb) | have n1_ := Aside0.mk (blk_below (blk_drew BKx.out) hb) | have n1_ := Aside0.mk (blk_below (blk_alloc BKx.out _) hb) | have n1_ := Aside0.mk (blk_below (by (with_reducible repeat (first | refine blk_drewN ?_ _ | refine blk_drew ?_ | refine blk_alloc ?_ _)); exact BKx.out) hb)); clear HB BKx; have HB := n0_; have BKx := n1_; clear n0_ n1_ hb)
      | ((with_reducible refine gate_dst (N := 40) rfl ?_); refine wpList_bcopy rfl (.tmp 38) (.tmp 39) rfl g 0 4 _ (bytesOf4 s) (some ⟨gj, 0, none⟩) 4 4 26 rfl rfl BKx.out (show Kd.C (Kd.int .u8) _ (some ⟨gj, 0, none⟩) 4 (bytesOf4 s) from C_block BKj.out 0 4 (Nat.le_refl 4) (by decide)) (Nat.le_refl _) (by rw [len_x3 n b LE.out]; decide) w.heap.size HB.out GG.out ?_; intro w1 h1 h2 h3; have n0 := h1.out; rw [put_x4 s _] at n0; have BKn := Aside0.mk n0; clear n0; clear BKx HB h1 h2; have BKx := BKn; have HB := Aside0.mk h3; clear BKn h3; have XM := Aside0.mk (len_x4 n s b LE.out))
      | ((with_reducible refine gate_dst (N := 41) rfl ?_); refine wpList_load_row rfl 26 (.tmp 4) rfl g rfl 26 (bcells _) (0, 0) _ BKx.out Try.underlying26 rfl (seal_size _ XM.out) ?_)
      | (refine wpList_store_row rfl 26 (.tmp 4) (.tmp 41) rfl g (bcells (bytesOf4 s ++ sealZ n b)) rfl (by rfl) 26 (bcells (bytesOf4 s ++ sealZ n b)) BKx.out (seal_size _ XM.out) rfl (bcells_all _) ?_; have n0 := Aside0.mk (below_setRow HB.out GG.out (bcells (bytesOf4 s ++ sealZ n b))); have n1 := Aside0.mk (setRow_heap _ _ _ (bcells (bytesOf4 s ++ sealZ n b)) _ _ BKx.out); generalize World.setRow _ _ _ = w3 at n0 n1; clear HB BKx; have HB := n0; have BKx := n1; clear n0 n1))
      refine bodyPost_ret (results_ct rfl _ _ g 26 (bcells _) (0, 0) _ rfl BKx.out Try.underlying26 rfl (seal_size _ XM.out)) rfl ?_
      exact ⟨rfl, HB.out⟩
end Go.Proofs.Ythgbipgfplokeaa.GA
