/- Blocks in memory: loads, stores and copies of 64 bytes. Blocks in memory: loads, stores and copies of 64 bytes. Blocks in memory: loads, stores and copies of 64 bytes. No condition. -/
import Derived.Test.YtlnfdhcpnbhkdaaF7
import Derived.Laws.CopyOwn
import Derived.ChangeKeysEq
import Derived.Deep.RegionHeld3
import Derived.Deep.MidRow
import Derived.Great.Walk
import Derived.Deep.LoopGhost
import Derived.Deep.DeepCutAuto
namespace Go.Proofs.Ytlnfdhcpnbhkdaa.GA.F
section
open Go.RowKit Go.Proofs.YtlnfdhcpnbhkdaaW.PrintWords Go.Proofs.YtlnfdhcpnbhkdaaW.PrintLast Go.Proofs.YtlnfdhcpnbhkdaaW.PrintMore
set_option linter.unusedVariables false
set_option linter.unusedSimpArgs false

theorem ZRow.notnew {w : World} {B : Nat} {v : Value} {i : Nat} (h : ZRow w B v i) {g : Nat} (hg : g = w.heap.size) : v.ownBlock ≠ some g := fun e => by
  have := (h.own e).1
  omega
theorem ZRow.ne73 {w : World} {B : Nat} {v : Value} {i : Nat} (h : ZRow w B v i) {g : Nat} {cs : Array Value} (hg : w.heap[g]? = some (.cells cs 73 (0, 0))) : v.ownBlock ≠ some g := fun e => by
  obtain ⟨_, cur, hc⟩ := h.own e
  rw [hg] at hc
  injection hc with hc
  injection hc with _ h2 _
  exact absurd h2 (by decide)

set_option maxHeartbeats 8000000 in
set_option maxRecDepth 100000 in
theorem New.bad (w : World) (bl : Int) (hbl : bl < 64 ∨ 16384 < bl) : Calls Try.prog 21 #[.int .i64 bl] w fun e' w' => e' = .returned (.tuple #[.pointer none, .int .i64 2]) ∧ Below w.heap.size w w' := by
  have HC := Aside0.mk hbl
  clear hbl
  have HB := Aside0.mk (Below.refl w.heap.size w)
  go_enter Try.func21, Try.ntmps21
  go_wp2_with ((with_reducible refine gate_dst (N := 7) rfl ?_); refine box_event ?hg (N := 7) ?hd (cs := #[.slice none 0 0, .slice none 0 0, .int .i64 0, .int .i64 0, .bool false]) (t := 73) ?hr ?_; (case hd => rfl); (case hg => rfl); (case hr => first | (go_simp; done) | (go_simp; rfl)); intro gr hg w1r hbox hb; have Gr := Aside0.mk (show w.heap.size ≤ gr from by rw [hg]; exact below_size (by repeat (first | (with_reducible first | exact HB.out | apply below_alloc | apply pw_below_drewN | apply below_drew1) | exact HB.out))); have BKr := Aside0.mk hbox; clear hbox hg; have n0_ := Aside0.mk (below_step (by repeat (first | (with_reducible first | exact HB.out | apply below_alloc | apply pw_below_drewN | apply below_drew1) | exact HB.out)) hb); clear HB; have HB := n0_; clear n0_ hb)
  go_loopw [5] (fun v5 w' => ∃ i : Nat, i ≤ 16385 ∧ v5 = .int .i64 i ∧ (i = 0 ∨ (i : Int) ≤ bl) ∧ ∃ v, Aside0 (w'.heap[gr]? = some (.cells #[v, .slice none 0 0, .int .i64 0, .int .i64 0, .bool false] 73 (0, 0))) ∧ Aside0 (ZRow w' w.heap.size v i) ∧ Aside0 (Below w.heap.size w w')) (fun v5 _ => 16385 - (intOf v5).toNat)
  case atStart => exact ⟨0, by omega, rfl, .inl rfl, .slice none 0 0, BKr, ⟨.inl ⟨rfl, rfl⟩⟩, HB⟩
  case round =>
    clear HB BKr
    obtain ⟨i, h16, rfl, hib, v, BK, HZ, HB⟩ := hrel
    obtain ⟨A, c, ev⟩ := HZ.out.slice
    subst ev
    have x0 : wr.cell? ⟨gr, 0, none⟩ = some (.slice A i c) := (blk_cell BK.out 0).trans rfl
    by_cases hlt : (i : Int) < bl ∧ i ≤ 16384
    · have d1 : decide ((i : Int) < bl) = true := decide_eq_true hlt.1
      have d2 : decide ((i : Int) ≤ 16384) = true := decide_eq_true (by omega)
      have k3 : wrap64 ((i : Int) + 1) = (i : Int) + 1 := wrap_ok (by omega) (by omega)
      have HI : Aside0 (i ≤ 16384) := ⟨hlt.2⟩
      go_wp2_with (first
        | ((with_reducible refine gate_dst (N := 23) rfl ?_); refine mk_event rfl (N := 23) rfl (cs := bcells zero64) (t := 29) (n := 1) (zS_run rfl rfl _) ?_; intro gx hg w5 hbox hb; have GX := Aside0.mk hg; have BX5 := Aside0.mk hbox; have HZ5 := Aside0.mk (HZ.out.below hb); have BK5 := Aside0.mk (blk_below BK.out hb); have HB5 := Aside0.mk (below_step HB.out hb); have NX := Aside0.mk (ZRow.notnew HZ.out hg); clear hg hbox hb)
        | ((with_reducible refine gate_builtin (b := .append) (xs := #[.tmp 21, .tmp 23]) rfl ?_); at_builtin; refine appZ_event (w0 := w) rfl (.tmp 21) (.tmp 23) rfl w.heap.size (below_size HB5.out) (.slice A i c) i rfl gx rfl HZ5.out HI.out BX5.out NX.out HB5.out ?_; intro v6 w6 h1 h2 h3; obtain ⟨A6, c6, e6⟩ := h1.slice; subst e6; have HZ6 := Aside0.mk h1; have HB6 := Aside0.mk h2; have BK6 := Aside0.mk (h3 gr _ BK5.out (ZRow.ne73 HZ5.out BK5.out)); have x6 : w6.cell? ⟨gr, 0, none⟩ = some (.slice A i c) := (blk_cell BK6.out 0).trans rfl; have z6 := blk_frozen BK6.out 0; clear h1 h2 h3))
      exact ⟨⟨i + 1, by omega, by first | rfl | (rw [Int.natCast_add]; rfl) | (rw [k3, Int.natCast_add]; rfl), .inr (by omega), .slice A6 (i + 1) c6, ⟨blk_put BK6.out 0 _ rfl⟩, ⟨HZ6.out.move fun k hk => heap_setCell_other _ _ k _ (fun e => ZRow.ne73 HZ6.out BK6.out (by rw [hk]; exact congrArg some e))⟩, ⟨HB6.out.setCell (show w.heap.size ≤ gr from Gr.out) _⟩⟩, by (try rw [k3]); show 16385 - ((i : Int) + 1).toNat < 16385 - ((i : Int)).toNat; omega⟩
    · by_cases q : (i : Int) < bl
      · have d1 : decide ((i : Int) < bl) = true := decide_eq_true q
        have d2 : decide ((i : Int) ≤ 16384) = false := decide_eq_false (by omega)
        by_cases e0 : (i : Int) = bl
        · have d5 : ((i : Int) != bl) = false := by simp [e0]
          rcases HC.out with h | h
          · have d6 : decide (bl < 64) = true := decide_eq_true h
            clear hlt q e0 h hib
            go_wp2
            go_ret2
            exact ⟨rfl, HB.out⟩
          · have d6 : decide (bl < 64) = false := decide_eq_false (by omega)
            have d7 : decide (bl > 16384) = true := decide_eq_true h
            have d8 : decide (16384 < bl) = true := decide_eq_true h
            clear hlt q e0 h hib
            go_wp2
            go_ret2
            exact ⟨rfl, HB.out⟩
        · have d5 : ((i : Int) != bl) = true := by simp [e0]
          clear hlt q e0 hib
          go_wp2
          go_ret2
          exact ⟨rfl, HB.out⟩
      · have d1 : decide ((i : Int) < bl) = false := decide_eq_false q
        by_cases e0 : (i : Int) = bl
        · have d5 : ((i : Int) != bl) = false := by simp [e0]
          rcases HC.out with h | h
          · have d6 : decide (bl < 64) = true := decide_eq_true h
            clear hlt q e0 h hib
            go_wp2
            go_ret2
            exact ⟨rfl, HB.out⟩
          · have d6 : decide (bl < 64) = false := decide_eq_false (by omega)
            have d7 : decide (bl > 16384) = true := decide_eq_true h
            have d8 : decide (16384 < bl) = true := decide_eq_true h
            clear hlt q e0 h hib
            go_wp2
            go_ret2
            exact ⟨rfl, HB.out⟩
        · have d5 : ((i : Int) != bl) = true := by simp [e0]
          clear hlt q e0 hib
          go_wp2
          go_ret2
          exact ⟨rfl, HB.out⟩

/-- what New makes -/
def NewOk (e' : Ending) (w w' : World) (bl : Int) : Prop := ∃ gr gH cH, e' = .returned (.tuple #[.pointer (some ⟨gr, 0, none⟩), .int .i64 0]) ∧ RRep w.heap.size w' gr gH cH bl.toNat (.slice none 0 0) ⟨zerosN cH, [], 0, 0, false⟩ ∧ Below w.heap.size w w'
theorem NewOk.of {w w' : World} {bl : Int} {i gr c : Nat} {A : Option Addr} (h0 : (i : Int) = bl) (h1 : 64 ≤ bl ∧ bl ≤ 16384) (hd : w'.heap[gr]? = some (.cells #[.slice A i c, .slice none 0 0, .int .i64 0, .int .i64 0, .bool false] 73 (0, 0))) (hz : ZRow w' w.heap.size (.slice A i c) i) (hg : w.heap.size ≤ gr) (hb : Below w.heap.size w w') : NewOk (.returned (.tuple #[.pointer (some ⟨gr, 0, none⟩), .int .i64 0])) w w' bl := by
  subst h0
  rcases hz with ⟨h, h2⟩ | ⟨g, c', e, hBg, hh, hic⟩
  · omega
  · injection e with e1 _ e3
    subst e1 e3
    refine ⟨gr, g, c, rfl, ⟨by rw [Int.toNat_natCast]; exact hd, hh, Kd.R_nil _ _ _ _ _, hg, hBg, ?_, fun x hx => (by cases hx), Int.le_refl 0, (show (0 : Int) < 9223372036854775808 by decide), Int.le_refl 0, by omega⟩, hb⟩
    show (i : Int).toNat * 64 ≤ (zerosN c).length
    rw [Int.toNat_natCast, zN_len]
    exact Nat.mul_le_mul_right 64 hic

set_option maxHeartbeats 8000000 in
set_option maxRecDepth 100000 in
theorem New.ok (w : World) (bl : Int) (hbl : 64 ≤ bl ∧ bl ≤ 16384) : Calls Try.prog 21 #[.int .i64 bl] w fun e' w' => NewOk e' w w' bl := by
  have HC := Aside0.mk hbl
  clear hbl
  have HB := Aside0.mk (Below.refl w.heap.size w)
  go_enter Try.func21, Try.ntmps21
  go_wp2_with ((with_reducible refine gate_dst (N := 7) rfl ?_); refine box_event ?hg (N := 7) ?hd (cs := #[.slice none 0 0, .slice none 0 0, .int .i64 0, .int .i64 0, .bool false]) (t := 73) ?hr ?_; (case hd => rfl); (case hg => rfl); (case hr => first | (go_simp; done) | (go_simp; rfl)); intro gr hg w1r hbox hb; have Gr := Aside0.mk (show w.heap.size ≤ gr from by rw [hg]; exact below_size (by repeat (first | (with_reducible first | exact HB.out | apply below_alloc | apply pw_below_drewN | apply below_drew1) | exact HB.out))); have BKr := Aside0.mk hbox; clear hbox hg; have n0_ := Aside0.mk (below_step (by repeat (first | (with_reducible first | exact HB.out | apply below_alloc | apply pw_below_drewN | apply below_drew1) | exact HB.out)) hb); clear HB; have HB := n0_; clear n0_ hb)
  go_loopw [5] (fun v5 w' => ∃ i : Nat, i ≤ 16385 ∧ v5 = .int .i64 i ∧ (i = 0 ∨ (i : Int) ≤ bl) ∧ ∃ v, Aside0 (w'.heap[gr]? = some (.cells #[v, .slice none 0 0, .int .i64 0, .int .i64 0, .bool false] 73 (0, 0))) ∧ Aside0 (ZRow w' w.heap.size v i) ∧ Aside0 (Below w.heap.size w w')) (fun v5 _ => 16385 - (intOf v5).toNat)
  case atStart => exact ⟨0, by omega, rfl, .inl rfl, .slice none 0 0, BKr, ⟨.inl ⟨rfl, rfl⟩⟩, HB⟩
  case round =>
    clear HB BKr
    obtain ⟨i, h16, rfl, hib, v, BK, HZ, HB⟩ := hrel
    obtain ⟨A, c, ev⟩ := HZ.out.slice
    subst ev
    have x0 : wr.cell? ⟨gr, 0, none⟩ = some (.slice A i c) := (blk_cell BK.out 0).trans rfl
    by_cases hlt : (i : Int) < bl ∧ i ≤ 16384
    · have d1 : decide ((i : Int) < bl) = true := decide_eq_true hlt.1
      have d2 : decide ((i : Int) ≤ 16384) = true := decide_eq_true (by omega)
      have k3 : wrap64 ((i : Int) + 1) = (i : Int) + 1 := wrap_ok (by omega) (by omega)
      have HI : Aside0 (i ≤ 16384) := ⟨hlt.2⟩
      go_wp2_with (first
        | ((with_reducible refine gate_dst (N := 23) rfl ?_); refine mk_event rfl (N := 23) rfl (cs := bcells zero64) (t := 29) (n := 1) (zS_run rfl rfl _) ?_; intro gx hg w5 hbox hb; have GX := Aside0.mk hg; have BX5 := Aside0.mk hbox; have HZ5 := Aside0.mk (HZ.out.below hb); have BK5 := Aside0.mk (blk_below BK.out hb); have HB5 := Aside0.mk (below_step HB.out hb); have NX := Aside0.mk (ZRow.notnew HZ.out hg); clear hg hbox hb)
        | ((with_reducible refine gate_builtin (b := .append) (xs := #[.tmp 21, .tmp 23]) rfl ?_); at_builtin; refine appZ_event (w0 := w) rfl (.tmp 21) (.tmp 23) rfl w.heap.size (below_size HB5.out) (.slice A i c) i rfl gx rfl HZ5.out HI.out BX5.out NX.out HB5.out ?_; intro v6 w6 h1 h2 h3; obtain ⟨A6, c6, e6⟩ := h1.slice; subst e6; have HZ6 := Aside0.mk h1; have HB6 := Aside0.mk h2; have BK6 := Aside0.mk (h3 gr _ BK5.out (ZRow.ne73 HZ5.out BK5.out)); have x6 : w6.cell? ⟨gr, 0, none⟩ = some (.slice A i c) := (blk_cell BK6.out 0).trans rfl; have z6 := blk_frozen BK6.out 0; clear h1 h2 h3))
      exact ⟨⟨i + 1, by omega, by first | rfl | (rw [Int.natCast_add]; rfl) | (rw [k3, Int.natCast_add]; rfl), .inr (by omega), .slice A6 (i + 1) c6, ⟨blk_put BK6.out 0 _ rfl⟩, ⟨HZ6.out.move fun k hk => heap_setCell_other _ _ k _ (fun e => ZRow.ne73 HZ6.out BK6.out (by rw [hk]; exact congrArg some e))⟩, ⟨HB6.out.setCell (show w.heap.size ≤ gr from Gr.out) _⟩⟩, by (try rw [k3]); show 16385 - ((i : Int) + 1).toNat < 16385 - ((i : Int)).toNat; omega⟩
    · by_cases q : (i : Int) < bl
      · have d1 : decide ((i : Int) < bl) = true := decide_eq_true q
        have d2 : decide ((i : Int) ≤ 16384) = false := decide_eq_false (by omega)
        have h64 := HC.out.1
        have h84 := HC.out.2
        have e0 : (i : Int) = bl := by omega
        have d5 : ((i : Int) != bl) = false := by simp [e0]
        have d6 : decide (bl < 64) = false := decide_eq_false (by omega)
        have d7 : decide (bl > 16384) = false := decide_eq_false (by omega)
        have d8 : decide (16384 < bl) = false := decide_eq_false (by omega)
        have HE := Aside0.mk e0
        clear hlt q e0 hib h64 h84
        go_wp2
        go_ret2
        exact NewOk.of HE.out HC.out BK.out HZ.out Gr.out HB.out
      · have d1 : decide ((i : Int) < bl) = false := decide_eq_false q
        have h64 := HC.out.1
        have h84 := HC.out.2
        have e0 : (i : Int) = bl := by omega
        have d5 : ((i : Int) != bl) = false := by simp [e0]
        have d6 : decide (bl < 64) = false := decide_eq_false (by omega)
        have d7 : decide (bl > 16384) = false := decide_eq_false (by omega)
        have d8 : decide (16384 < bl) = false := decide_eq_false (by omega)
        have HE := Aside0.mk e0
        clear hlt q e0 hib h64 h84
        go_wp2
        go_ret2
        exact NewOk.of HE.out HC.out BK.out HZ.out Gr.out HB.out
end
section
open Go.RowKit Go.Proofs.YtlnfdhcpnbhkdaaW.PrintWords Go.Proofs.YtlnfdhcpnbhkdaaW.PrintLast Go.Proofs.YtlnfdhcpnbhkdaaW.PrintMore
set_option linter.unusedVariables false
set_option linter.unusedSimpArgs false

theorem blk_take (F : List Int) (n j : Nat) (hj : j < n) : blkAt (F.take (n * 64)) j = blkAt F j := by
  unfold blkAt
  apply List.ext_getElem?
  intro q
  rw [List.getElem?_take, List.getElem?_take]
  by_cases hq : q < 64
  · rw [if_pos hq, if_pos hq, List.getElem?_drop, List.getElem?_drop, List.getElem?_take_of_lt (by omega)]
  · rw [if_neg hq, if_neg hq]
theorem blk_same {F G : List Int} {n : Nat} (h : F.take (n * 64) = G.take (n * 64)) (j : Nat) (hj : j < n) : blkAt F j = blkAt G j := by rw [← blk_take F n j hj, h, blk_take G n j hj]
theorem blk_spliceE (H : List Int) (n i j : Nat) (f : Nat) (Y : List Int) (hl : n * 64 ≤ H.length) (hi : i < n) (hj : j < n) (hY : f + Y.length ≤ 64) (hne : i ≠ j) : blkAt (splice H (i * 64 + f) Y) j = blkAt H j := by
  unfold blkAt splice
  have e1 : (H.take (i * 64 + f)).length = i * 64 + f := by rw [List.length_take]; omega
  apply List.ext_getElem?
  intro q
  rw [List.getElem?_take, List.getElem?_take]
  by_cases hq : q < 64
  · rw [if_pos hq, if_pos hq, List.getElem?_drop, List.getElem?_drop]
    rcases Nat.lt_or_gt_of_ne hne with h | h
    · rw [List.getElem?_append_right (by omega), e1, List.getElem?_append_right (by omega), List.getElem?_drop]
      congr 1
      omega
    · rw [List.getElem?_append_left (by omega), List.getElem?_take_of_lt (by omega)]
  · rw [if_neg hq, if_neg hq]

theorem blk_in (H : List Int) (n i f : Nat) (Y : List Int) (hl : n * 64 ≤ H.length) (hi : i < n) (hY : f + Y.length ≤ 64) : blkAt (splice H (i * 64 + f) Y) i = splice (blkAt H i) f Y := by
  have e0 : i * 64 + 64 ≤ H.length := by have := Nat.mul_le_mul_right 64 (show i + 1 ≤ n from hi); omega
  have e1 : (H.take (i * 64 + f)).length = i * 64 + f := by rw [List.length_take]; omega
  have e2 : ((blkAt H i).take f).length = f := by rw [List.length_take, E.blkAt_len H i n hl hi]; omega
  have e3 : ((H.drop (i * 64)).take f).length = f := by rw [List.length_take, List.length_drop]; omega
  unfold blkAt splice
  unfold blkAt at e2
  apply List.ext_getElem?
  intro q
  rw [List.getElem?_take]
  by_cases hq : q < 64
  · rw [if_pos hq, List.getElem?_drop]
    by_cases h1 : q < f
    · rw [List.getElem?_append_left (by omega), List.getElem?_append_left (by omega), List.getElem?_take_of_lt (by omega), List.getElem?_take_of_lt h1, List.getElem?_take_of_lt hq, List.getElem?_drop]
    · rw [List.getElem?_append_right (l₁ := H.take (i * 64 + f)) (by omega), e1, List.getElem?_append_right (l₁ := ((H.drop (i * 64)).take 64).take f) (by omega), e2, show i * 64 + q - (i * 64 + f) = q - f by omega]
      by_cases h2 : q - f < Y.length
      · rw [List.getElem?_append_left h2, List.getElem?_append_left h2]
      · rw [List.getElem?_append_right (by omega), List.getElem?_append_right (by omega), List.getElem?_drop, List.getElem?_drop, List.getElem?_take_of_lt (by omega), List.getElem?_drop]
        congr 1
        omega
  · rw [if_neg hq]
    symm
    rw [List.getElem?_eq_none]
    simp only [List.length_append, List.length_drop]
    rw [e2, List.length_take, List.length_drop]
    omega
theorem splice_nil (X : List Int) (f : Nat) : splice X f [] = X := by
  unfold splice
  simp
theorem splice_all (X Y : List Int) (h : X.length = Y.length) : splice X 0 Y = Y := by
  unfold splice
  rw [List.take_zero, List.nil_append, Nat.zero_add, List.drop_eq_nil_of_le (by omega), List.append_nil]
theorem splice_lo (X b : List Int) (hX : X.length = 64) (hb : b.length = 64) : splice X 0 (b.take 32) = halfL X b 0 := by
  have l1 : (b.take 32).length = 32 := by rw [List.length_take, hb]; rfl
  refine List.ext_getElem (by rw [half_len, length_splice _ _ _ (by rw [l1, hX]; decide), hX]) fun j h1 h2 => ?_
  have hj : j < 64 := by rw [half_len] at h2; exact h2
  simp only [halfL, mixAt, List.getElem_map, List.getElem_range, splice, List.take_zero, List.nil_append]
  by_cases h : j < 32
  · rw [if_pos ⟨Nat.zero_le _, by omega⟩, List.getElem_append_left (by omega), List.getElem_take, rd_at b j (by omega)]
  · rw [if_neg (by omega), List.getElem_append_right (by omega), List.getElem_drop, rd_at X j (by omega)]
    congr 1
    omega
theorem splice_hi (X b : List Int) (hX : X.length = 64) (hb : b.length = 64) : splice X 32 (b.drop 32) = halfL X b 32 := by
  have l1 : (b.drop 32).length = 32 := by rw [List.length_drop, hb]
  have l2 : (X.take 32).length = 32 := by rw [List.length_take, hX]; rfl
  refine List.ext_getElem (by rw [half_len, length_splice _ _ _ (by rw [l1, hX]; decide), hX]) fun j h1 h2 => ?_
  have hj : j < 64 := by rw [half_len] at h2; exact h2
  simp only [halfL, mixAt, List.getElem_map, List.getElem_range, splice]
  by_cases h : j < 32
  · rw [if_neg (by omega), List.getElem_append_left (by omega), List.getElem_take, rd_at X j (by omega)]
  · rw [if_pos ⟨by omega, by omega⟩, List.getElem_append_right (by omega), List.getElem_append_left (by omega), List.getElem_drop, rd_at b j (by omega)]
    congr 1
    omega
/-- a write that is held by its pick: the same in both disks -/
theorem part_torn (X b : List Int) (p : Int) (hX : X.length = 64) (hb : b.length = 64) : splice X (partR p).1 ((b.drop (partR p).1).take ((partR p).2 - (partR p).1)) = tornL X b p := by
  unfold partR tornL
  split
  · exact splice_nil X 0
  · split
    · rename_i h
      show splice X 0 ((b.drop 0).take 64) = b
      rw [List.drop_zero, List.take_of_length_le (by omega)]
      exact splice_all X b (by omega)
    · rename_i h
      split
      · show splice X 0 ((b.drop 0).take 32) = _
        rw [List.drop_zero]
        exact splice_lo X b hX hb
      · show splice X 32 ((b.drop 32).take 32) = _
        rw [List.take_of_length_le (by rw [List.length_drop]; omega)]
        exact splice_hi X b hX hb
/-- what block j becomes by k writes -/
def tornTo (l : List (Int × List Int)) (p : List Int) (j : Int) (x : List Int) : Nat → List Int
  | 0 => x
  | k + 1 => if (l.getD k (0, [])).1 = j then tornL (tornTo l p j x k) (l.getD k (0, [])).2 (pickAt p k) else tornTo l p j x k
def Wk (l : List (Int × List Int)) (n : Nat) : Prop := ∀ x ∈ l, 0 ≤ x.1 ∧ x.1 < (n : Int) ∧ x.2.length = 64
theorem Wk.at {l : List (Int × List Int)} {n : Nat} (h : Wk l n) {k : Nat} (hk : k < l.length) : ∃ (i : Nat) (b : List Int), l.getD k (0, []) = ((i : Int), b) ∧ i < n ∧ b.length = 64 := by
  have hx : l.getD k (0, []) ∈ l := by rw [List.getD_eq_getElem?_getD, List.getElem?_eq_getElem hk]; exact List.getElem_mem _
  obtain ⟨h1, h2, h3⟩ := h _ hx
  obtain ⟨i, hi⟩ := Int.eq_ofNat_of_zero_le h1
  refine ⟨i, _, Prod.ext hi rfl, by omega, h3⟩
theorem hold_blk {H : List Int} {l : List (Int × List Int)} {p : List Int} {n : Nat} (hH : n * 64 ≤ H.length) (hl : Wk l n) : ∀ k, k ≤ l.length → ∀ j : Nat, j < n → blkAt (holdTo H l p k) j = tornTo l p j (blkAt H j) k
  | 0, _, j, _ => rfl
  | k + 1, hk, j, hj => by
    obtain ⟨i, b, e, hi, hb⟩ := hl.at (show k < l.length by omega)
    have ih := hold_blk (p := p) hH hl k (by omega)
    have ln := hold_len (p := p) hH hl k (by omega)
    have lb := E.blkAt_len (holdTo H l p k) i n (by rw [ln]; exact hH) hi
    have lt := torn_len _ b (pickAt p k) lb hb
    rw [holdTo, tornTo, e]
    show blkAt (splice (holdTo H l p k) ((i : Int).toNat * 64) (tornL (blkAt (holdTo H l p k) (i : Int).toNat) b (pickAt p k))) j = if (i : Int) = j then _ else _
    rw [Int.toNat_natCast]
    by_cases h : i = j
    · subst h
      rw [if_pos rfl, ← ih i hj]
      have := blk_in (holdTo H l p k) n i 0 (tornL (blkAt (holdTo H l p k) i) b (pickAt p k)) (by rw [ln]; exact hH) hi (by omega)
      rw [Nat.add_zero] at this
      rw [this, splice_all _ _ (by omega)]
    · rw [if_neg (by omega), ← ih j hj]
      have := blk_spliceE (holdTo H l p k) n i j 0 (tornL (blkAt (holdTo H l p k) i) b (pickAt p k)) (by rw [ln]; exact hH) hi hj (by omega) h
      rw [Nat.add_zero] at this
      exact this
theorem crash_lenE {H : List Int} {l : List (Int × List Int)} {p : List Int} {n : Nat} (hH : n * 64 ≤ H.length) (hl : Wk l n) : ∀ k, k ≤ l.length → (crashTo H l p k).length = H.length
  | 0, _ => rfl
  | k + 1, hk => by
    obtain ⟨i, b, e, hi, hb⟩ := hl.at (show k < l.length by omega)
    have ih := crash_lenE (p := p) hH hl k (by omega)
    rw [crashTo, crashAt, e]
    split
    · show (splice (crashTo H l p k) ((i : Int).toNat * 64 + (partR (rd p k)).1) ((b.drop (partR (rd p k)).1).take ((partR (rd p k)).2 - (partR (rd p k)).1))).length = _
      have e0 : i * 64 + 64 ≤ H.length := by have := Nat.mul_le_mul_right 64 (show i + 1 ≤ n from hi); omega
      have hp : (partR (rd p k)).1 + ((b.drop (partR (rd p k)).1).take ((partR (rd p k)).2 - (partR (rd p k)).1)).length ≤ 64 := by
        rw [List.length_take, List.length_drop, hb]
        rcases part_cases (rd p k) with h | h | h | h <;> rw [h] <;> decide
      rw [length_splice _ _ _ (by rw [ih, Int.toNat_natCast]; omega), ih]
    · exact ih
theorem crash_blk {H : List Int} {l : List (Int × List Int)} {p : List Int} {n : Nat} (hH : n * 64 ≤ H.length) (hl : Wk l n) : ∀ k, k ≤ l.length → ∀ j : Nat, j < n → blkAt (crashTo H l p k) j = tornTo l p j (blkAt H j) k
  | 0, _, j, _ => rfl
  | k + 1, hk, j, hj => by
    obtain ⟨i, b, e, hi, hb⟩ := hl.at (show k < l.length by omega)
    have ih := crash_blk (p := p) hH hl k (by omega)
    have ln := crash_lenE (p := p) hH hl k (by omega)
    have lb := E.blkAt_len (crashTo H l p k) i n (by rw [ln]; exact hH) hi
    have hp : (partR (rd p k)).1 + ((b.drop (partR (rd p k)).1).take ((partR (rd p k)).2 - (partR (rd p k)).1)).length ≤ 64 := by
      rw [List.length_take, List.length_drop, hb]
      rcases part_cases (rd p k) with h | h | h | h <;> rw [h] <;> decide
    rw [crashTo, crashAt, tornTo, e]
    by_cases hkp : k < p.length
    · rw [if_pos hkp]
      show blkAt (splice (crashTo H l p k) ((i : Int).toNat * 64 + (partR (rd p k)).1) ((b.drop (partR (rd p k)).1).take ((partR (rd p k)).2 - (partR (rd p k)).1))) j = if (i : Int) = j then _ else _
      rw [Int.toNat_natCast]
      by_cases h : i = j
      · subst h
        rw [if_pos rfl, blk_in _ n i _ _ (by rw [ln]; exact hH) hi hp, ← ih i hj, pickAt, if_pos hkp]
        exact part_torn _ b _ lb hb
      · rw [if_neg (by omega), blk_spliceE _ n i j _ _ (by rw [ln]; exact hH) hi hj hp h]
        exact ih j hj
    · rw [if_neg hkp]
      show blkAt (crashTo H l p k) j = if (i : Int) = j then tornL (tornTo l p j (blkAt H j) k) b (pickAt p k) else _
      rw [pickAt, if_neg hkp, show tornL (tornTo l p j (blkAt H j) k) b 0 = tornTo l p j (blkAt H j) k from rfl, ite_self]
      exact ih j hj
/-- all picks are 64: what was asked for last -/
theorem torn_all (l : List (Int × List Int)) (m : Nat) (j : Int) (x : List Int) : ∀ k, k ≤ m → tornTo l (List.replicate m 64) j x k = lastTo l j x k
  | 0, _ => rfl
  | k + 1, hk => by
    rw [tornTo, lastTo, torn_all l m j x k (by omega)]
    have hp : pickAt (List.replicate m 64) k = 64 := by
      unfold pickAt rd
      rw [if_pos (by rw [List.length_replicate]; omega), Int.toNat_natCast]
      rw [List.getD_eq_getElem?_getD, List.getElem?_replicate_of_lt (by omega)]
      rfl
    rw [hp]
    rfl
/-- what a flush of the real disk holds -/
theorem flush_len {A H : List Int} {l : List (Int × List Int)} {n : Nat} (hA : n * 64 ≤ A.length) (hH : n * 64 ≤ H.length) (hl : Wk l n) : ∀ k, k ≤ l.length → (flushTo A H l k).length = H.length
  | 0, _ => rfl
  | k + 1, hk => by
    obtain ⟨i, b, e, hi, hb⟩ := hl.at (show k < l.length by omega)
    have ih := flush_len hA hH hl k (by omega)
    have e0 : i * 64 + 64 ≤ H.length := by have := Nat.mul_le_mul_right 64 (show i + 1 ≤ n from hi); omega
    rw [flushTo, e]
    show (splice (flushTo A H l k) ((i : Int).toNat * 64) (blkAt A (i : Int).toNat)).length = _
    rw [Int.toNat_natCast, length_splice _ _ _ (by rw [ih, E.blkAt_len A i n hA hi]; exact e0), ih]
theorem flush_blk {A H : List Int} {l : List (Int × List Int)} {n : Nat} (hA : n * 64 ≤ A.length) (hH : n * 64 ≤ H.length) (hl : Wk l n) : ∀ k, k ≤ l.length → ∀ j : Nat, j < n → (blkAt (flushTo A H l k) j = blkAt A j ∨ (blkAt (flushTo A H l k) j = blkAt H j ∧ ∀ x, lastTo l j x k = x))
  | 0, _, j, _ => .inr ⟨rfl, fun _ => rfl⟩
  | k + 1, hk, j, hj => by
    obtain ⟨i, b, e, hi, hb⟩ := hl.at (show k < l.length by omega)
    have ih := flush_blk hA hH hl k (by omega) j hj
    have ln := flush_len hA hH hl k (by omega)
    have lb := E.blkAt_len A i n hA hi
    rw [flushTo, e]
    show (blkAt (splice (flushTo A H l k) ((i : Int).toNat * 64) (blkAt A (i : Int).toNat)) j = _ ∨ (blkAt (splice (flushTo A H l k) ((i : Int).toNat * 64) (blkAt A (i : Int).toNat)) j = _ ∧ _))
    rw [Int.toNat_natCast]
    by_cases h : i = j
    · subst h
      left
      have := blk_in (flushTo A H l k) n i 0 (blkAt A i) (by rw [ln]; exact hH) hi (by omega)
      rw [Nat.add_zero] at this
      rw [this, splice_all _ _ (by rw [E.blkAt_len _ i n (by rw [ln]; exact hH) hi, lb])]
    · have := blk_spliceE (flushTo A H l k) n i j 0 (blkAt A i) (by rw [ln]; exact hH) hi hj (by omega) h
      rw [Nat.add_zero] at this
      rw [this]
      rcases ih with ih | ⟨ih, ih2⟩
      · exact .inl ih
      · refine .inr ⟨ih, fun x => ?_⟩
        rw [lastTo, e, if_neg (show ¬ (i : Int) = j by omega)]
        exact ih2 x
theorem last_app (l m : List (Int × List Int)) (j : Int) (x : List Int) : ∀ k, k ≤ l.length → lastTo (l ++ m) j x k = lastTo l j x k
  | 0, _ => rfl
  | k + 1, hk => by
    have e : (l ++ m).getD k (0, []) = l.getD k (0, []) := by rw [List.getD_eq_getElem?_getD, List.getD_eq_getElem?_getD, List.getElem?_append_left (by omega)]
    rw [lastTo, lastTo, last_app l m j x k (by omega), e]
theorem last_snoc (l : List (Int × List Int)) (y : Int × List Int) (j : Int) (x : List Int) : lastTo (l ++ [y]) j x (l ++ [y]).length = if y.1 = j then y.2 else lastTo l j x l.length := by
  rw [List.length_append, List.length_singleton, lastTo, last_app l [y] j x l.length (Nat.le_refl _)]
  have e : (l ++ [y]).getD l.length (0, []) = y := by simp [List.getD_eq_getElem?_getD]
  rw [e]
end
section
open Go.RowKit Go.Proofs.YtlnfdhcpnbhkdaaW.PrintWords Go.Proofs.YtlnfdhcpnbhkdaaW.PrintLast Go.Proofs.YtlnfdhcpnbhkdaaW.PrintMore
set_option linter.unusedVariables false
set_option linter.unusedSimpArgs false

/-- the two disks are in one state -/
structure Sim (n : Nat) (d : DS) (r : RS) : Prop where
  ni : d.ni = r.ni
  al : r.ni = false → d.al = r.al
  st : d.st = r.st
  btw : d.btw = r.list
  held : ∀ j : Nat, j < n → blkAt d.held j = blkAt r.held j
  asked : ∀ j : Nat, j < n → blkAt d.asked j = lastTo r.list j (blkAt r.held j) r.list.length
/-- what stands of the rows -/
structure Fit (n : Nat) (d : DS) (r : RS) : Prop where
  la : n * 64 ≤ d.asked.length
  lh : n * 64 ≤ d.held.length
  lr : n * 64 ≤ r.held.length
  ok : Wk r.list n
def dW (n : Nat) (s : DS) (i : Int) (b : List Int) : DS × Int := if s.ni = true then (s, 9) else if i < 0 ∨ (n : Int) ≤ i then (s, 2) else if s.al = 1 then ({ s with al := 0, ni := true }, 9) else (s.write i.toNat b (nextAl s.al), 0)
def dF (s : DS) : DS × Int := if s.ni = true then (s, 9) else if s.al = 1 then ({ s with al := 0, ni := true }, 9) else (s.flush (nextAl s.al), 0)
def dA (s : DS) (i : Int) : DS × Int := if s.ni = true then (s, 9) else if i < 0 then (s, 2) else ({ s with al := i }, 0)
def dRd (n : Nat) (s : DS) (i : Int) : List Int × Int := if s.ni = true then (zero64, 9) else if i < 0 ∨ (n : Int) ≤ i then (zero64, 2) else (blkAt s.asked i.toNat, 0)
def dSu (n : Nat) (s : DS) (i : Int) : List Int × Int := if i < 0 ∨ (n : Int) ≤ i then (zero64, 2) else (blkAt s.held i.toNat, 0)
def rW (n : Nat) (s : RS) (i : Int) (b : List Int) : RS × Int := if s.ni = true then (s, 9) else if i < 0 ∨ (n : Int) ≤ i then (s, 2) else if s.al = 1 then ({ s with ni := true }, 9) else ({ held := s.held, list := s.list ++ [(i, b)], al := nextAl s.al, st := s.st + 1, ni := false }, 0)
def rF (s : RS) : RS × Int := if s.ni = true then (s, 9) else if s.al = 1 then ({ s with ni := true }, 9) else ({ held := holdTo s.held s.list (List.replicate s.list.length 64) s.list.length, list := [], al := nextAl s.al, st := s.st + 1, ni := false }, 0)
def rA (s : RS) (i : Int) : RS × Int := if s.ni = true then (s, 9) else if i < 0 then (s, 2) else ({ s with al := i }, 0)
def rC (s : RS) (p : List Int) : RS := { held := holdTo s.held s.list p s.list.length, list := [], al := 0, st := s.st, ni := false }
def rRd (n : Nat) (s : RS) (i : Int) : List Int × Int := if s.ni = true then (zero64, 9) else if i < 0 ∨ (n : Int) ≤ i then (zero64, 2) else (lastTo s.list i (blkAt s.held i.toNat) s.list.length, 0)
def rSu (n : Nat) (s : RS) (i : Int) : List Int × Int := if i < 0 ∨ (n : Int) ≤ i then (zero64, 2) else (blkAt s.held i.toNat, 0)
theorem sim_read {n : Nat} {d : DS} {r : RS} (h : Sim n d r) (i : Int) : dRd n d i = rRd n r i := by
  unfold dRd rRd
  rw [h.ni]
  split
  · rfl
  · split
    · rfl
    · rename_i h2
      obtain ⟨k, rfl⟩ : ∃ k : Nat, i = k := ⟨i.toNat, by omega⟩
      rw [Int.toNat_natCast, h.asked k (by omega)]
theorem sim_sure {n : Nat} {d : DS} {r : RS} (h : Sim n d r) (i : Int) : dSu n d i = rSu n r i := by
  unfold dSu rSu
  split
  · rfl
  · rename_i h2
    rw [h.held i.toNat (by omega)]
theorem sim_arm {n : Nat} {d : DS} {r : RS} (h : Sim n d r) (i : Int) : (dA d i).2 = (rA r i).2 ∧ Sim n (dA d i).1 (rA r i).1 := by
  unfold dA rA
  rw [h.ni]
  split
  · exact ⟨rfl, h⟩
  · split
    · exact ⟨rfl, h⟩
    · exact ⟨rfl, rfl, fun _ => rfl, h.st, h.btw, h.held, h.asked⟩
theorem sim_ring {n : Nat} {d : DS} {r : RS} (h : Sim n d r) : Sim n { d with al := 0, ni := true } { r with ni := true } := ⟨rfl, fun e => absurd e (by simp), h.st, h.btw, h.held, h.asked⟩
theorem sim_write {n : Nat} {d : DS} {r : RS} (h : Sim n d r) (f : Fit n d r) (i : Int) (b : List Int) (hb : b.length = 64) : (dW n d i b).2 = (rW n r i b).2 ∧ Sim n (dW n d i b).1 (rW n r i b).1 := by
  unfold dW rW
  rw [h.ni]
  split
  · exact ⟨rfl, h⟩
  · rename_i hn
    have hnf : r.ni = false := by cases e : r.ni with | false => rfl | true => exact absurd e hn
    rw [h.al hnf]
    split
    · exact ⟨rfl, h⟩
    · rename_i hi
      split
      · exact ⟨rfl, sim_ring h⟩
      · obtain ⟨k, rfl⟩ : ∃ k : Nat, i = k := ⟨i.toNat, by omega⟩
        have hk : k < n := by omega
        refine ⟨rfl, rfl, fun _ => rfl, by show d.st + 1 = r.st + 1; rw [h.st], by show d.btw ++ _ = r.list ++ _; rw [h.btw, Int.toNat_natCast], h.held, fun j hj => ?_⟩
        show blkAt (splice d.asked ((k : Int).toNat * 64) b) j = lastTo (r.list ++ [((k : Int), b)]) j (blkAt r.held j) (r.list ++ [((k : Int), b)]).length
        rw [last_snoc, Int.toNat_natCast]
        by_cases e : k = j
        · subst e
          rw [if_pos rfl]
          have := blk_in d.asked n k 0 b f.la hk (by omega)
          rw [Nat.add_zero] at this
          rw [this, splice_all _ _ (by rw [E.blkAt_len _ k n f.la hk, hb])]
        · rw [if_neg (show ¬ (k : Int) = j by omega), ← h.asked j hj]
          have := blk_spliceE d.asked n k j 0 b f.la hk hj (by omega) e
          rw [Nat.add_zero] at this
          exact this
theorem sim_flush {n : Nat} {d : DS} {r : RS} (h : Sim n d r) (f : Fit n d r) : (dF d).2 = (rF r).2 ∧ Sim n (dF d).1 (rF r).1 := by
  unfold dF rF
  rw [h.ni]
  split
  · exact ⟨rfl, h⟩
  · rename_i hn
    have hnf : r.ni = false := by cases e : r.ni with | false => rfl | true => exact absurd e hn
    rw [h.al hnf]
    split
    · exact ⟨rfl, sim_ring h⟩
    · have okd : Wk d.btw n := by rw [h.btw]; exact f.ok
      have e1 : ∀ j : Nat, j < n → blkAt (holdTo r.held r.list (List.replicate r.list.length 64) r.list.length) j = lastTo r.list j (blkAt r.held j) r.list.length := fun j hj => by
        rw [hold_blk f.lr f.ok _ (Nat.le_refl _) j hj, torn_all _ _ _ _ _ (Nat.le_refl _)]
      refine ⟨rfl, rfl, fun _ => rfl, by show d.st + 1 = r.st + 1; rw [h.st], rfl, fun j hj => ?_, fun j hj => ?_⟩
      · show blkAt (flushTo d.asked d.held d.btw d.btw.length) j = blkAt (holdTo r.held r.list (List.replicate r.list.length 64) r.list.length) j
        rw [e1 j hj]
        rcases flush_blk f.la f.lh okd _ (Nat.le_refl _) j hj with q | ⟨q, q2⟩
        · rw [q]; exact h.asked j hj
        · rw [q, h.held j hj]
          have := q2 (blkAt r.held j)
          rw [h.btw] at this
          exact this.symm
      · show blkAt d.asked j = blkAt (holdTo r.held r.list (List.replicate r.list.length 64) r.list.length) j
        rw [e1 j hj]
        exact h.asked j hj
theorem blk_copyE (n : Nat) (A H : List Int) (la : n * 64 ≤ A.length) (lh : n * 64 ≤ H.length) (j : Nat) (hj : j < n) : blkAt (splice A 0 (H.take (n * 64))) j = blkAt H j := by
  have lt : (H.take (n * 64)).length = n * 64 := by rw [List.length_take]; omega
  have h64 := Nat.mul_le_mul_right 64 (show j + 1 ≤ n from hj)
  rw [← blk_take H n j hj]
  unfold splice blkAt
  rw [List.take_zero, List.nil_append]
  apply List.ext_getElem?
  intro q
  rw [List.getElem?_take, List.getElem?_take]
  by_cases hq : q < 64
  · rw [if_pos hq, if_pos hq, List.getElem?_drop, List.getElem?_drop, List.getElem?_append_left (by omega)]
  · rw [if_neg hq, if_neg hq]
theorem sim_crash {n : Nat} {d : DS} {r : RS} (h : Sim n d r) (f : Fit n d r) (p : List Int) : Sim n (d.crashE n p) (rC r p) := by
  have okd : Wk d.btw n := by rw [h.btw]; exact f.ok
  have e1 : ∀ j : Nat, j < n → blkAt (crashTo d.held d.btw p d.btw.length) j = blkAt (holdTo r.held r.list p r.list.length) j := fun j hj => by
    rw [crash_blk f.lh okd _ (Nat.le_refl _) j hj, hold_blk f.lr f.ok _ (Nat.le_refl _) j hj, h.btw, h.held j hj]
  refine ⟨rfl, fun _ => rfl, h.st, rfl, e1, fun j hj => ?_⟩
  show blkAt (splice d.asked 0 ((crashTo d.held d.btw p d.btw.length).take (n * 64))) j = blkAt (holdTo r.held r.list p r.list.length) j
  rw [blk_copyE n _ _ f.la (by rw [crash_lenE f.lh okd _ (Nat.le_refl _)]; exact f.lh) j hj]
  exact e1 j hj
theorem sim_same {n : Nat} {d d2 : DS} {r : RS} (h : Sim n d r) (s : E.Same n d d2) : Sim n d2 r :=
  ⟨s.ni.trans h.ni, fun e => s.al.trans (h.al e), s.st.trans h.st, s.btw.trans h.btw, fun j hj => (blk_same s.held j hj).trans (h.held j hj), fun j hj => (blk_same s.asked j hj).trans (h.asked j hj)⟩
theorem blk_zero (c j : Nat) (h : j < c) : blkAt (zerosN c) j = zero64 := by
  have e : (zerosN c).length = c * 64 := zN_len c
  have h64 := Nat.mul_le_mul_right 64 (show j + 1 ≤ c from h)
  unfold blkAt zerosN zero64
  rw [List.drop_replicate, List.take_replicate]
  congr 1
  omega
theorem sim_start (n c : Nat) (h : n ≤ c) : Sim n ⟨zerosN n, zerosN n, [], 0, 0, false⟩ ⟨zerosN c, [], 0, 0, false⟩ :=
  ⟨rfl, fun _ => rfl, rfl, rfl, fun j hj => by rw [blk_zero n j hj, blk_zero c j (by omega)], fun j hj => by rw [blk_zero n j hj, show lastTo [] (j : Int) (blkAt (zerosN c) j) ([] : List (Int × List Int)).length = blkAt (zerosN c) j from rfl, blk_zero c j (by omega)]⟩
end
end Go.Proofs.Ytlnfdhcpnbhkdaa.GA.F
