/- The table, read. No condition. -/
import Derived.Test.YtghgadfcnggapaaU5
import Derived.Laws.CopyOwn
import Derived.Laws.CopyRow
import Derived.ChangeKeysEq
import Derived.Deep.RegionHeld3
import Derived.Deep.MidRow
import Derived.Shelf.Abstract
import Derived.Lib.Overlaps
import Derived.Lib.AppendZerosOnto
import Derived.Shelf.Spec.SlicesInsertGrow
namespace Go.Proofs.Ytghgadfcnggapaa.GA.U
open Go.RowKit Go.Shelf Go.Proofs.YtghgadfcnggapaaW.PrintWords Go.Proofs.YtghgadfcnggapaaW.PrintLast Go.Proofs.YtghgadfcnggapaaW.PrintMore
set_option linter.unusedVariables false
set_option linter.unusedSimpArgs false

/-- a table in memory: its block, and the row of its things -/
def Tab (w : World) (gt : Nat) (most : Int) (B : Nat) (v : Value) (xs : List S56) : Prop := w.heap[gt]? = some (.cells #[.int .i64 most, v] 53 (0, 0)) ∧ TRow w B v xs ∧ B ≤ gt ∧ 1 ≤ most ∧ most ≤ 1000000 ∧ (xs.length : Int) ≤ most
theorem Tab.below {w w' : World} {gt : Nat} {most : Int} {B : Nat} {v : Value} {xs : List S56} (h : Tab w gt most B v xs) (hb : Below w.heap.size w w') : Tab w' gt most B v xs := by
  obtain ⟨h1, h2, h3⟩ := h
  exact ⟨blk_below h1 hb, TRow.ofR (Kd.R_below h2.toR hb), h3⟩
theorem Tab.lt {w : World} {gt : Nat} {most : Int} {B : Nat} {v : Value} {xs : List S56} (h : Tab w gt most B v xs) : gt < w.heap.size := blk_lt h.1
theorem Tab.base {w : World} {gt : Nat} {most : Int} {B : Nat} {v : Value} {xs : List S56} (h : Tab w gt most B v xs) : B ≤ w.heap.size := Nat.le_trans h.2.2.1 (Nat.le_of_lt h.lt)
theorem Tab.slice {w : World} {gt : Nat} {most : Int} {B : Nat} {v : Value} {xs : List S56} (h : Tab w gt most B v xs) : ∃ A c, v = .slice A xs.length c ∧ xs.length ≤ c ∧ Kd.C k56 w A xs.length xs := Kd.R_reads h.2.1.toR
theorem Tab.c0 {w : World} {gt : Nat} {most : Int} {B : Nat} {v : Value} {xs : List S56} (h : Tab w gt most B v xs) : w.cell? ⟨gt, 0, none⟩ = some (.int .i64 most) := (blk_cell h.1 0).trans rfl
theorem Tab.c1 {w : World} {gt : Nat} {most : Int} {B : Nat} {v : Value} {xs : List S56} (h : Tab w gt most B v xs) : w.cell? ⟨gt, 1, none⟩ = some v := (blk_cell h.1 1).trans rfl
theorem Tab.f1 {w : World} {gt : Nat} {most : Int} {B : Nat} {v : Value} {xs : List S56} (h : Tab w gt most B v xs) : w.frozen? ⟨gt, 1, none⟩ = false := blk_frozen h.1 1
theorem Tab.small {w : World} {gt : Nat} {most : Int} {B : Nat} {v : Value} {xs : List S56} (h : Tab w gt most B v xs) : xs.length ≤ 1000000 := by
  obtain ⟨_, _, _, _, h1, h2⟩ := h
  omega
theorem Tab.most0 {w : World} {gt : Nat} {most : Int} {B : Nat} {v : Value} {xs : List S56} (h : Tab w gt most B v xs) : (most == 0) = false := by
  obtain ⟨_, _, _, h0, _, _⟩ := h
  exact beq_false_of_ne (by omega)
/-- what is no table's own stays -/
def FrT (w w' : World) : Prop := ∀ (k : Nat) (cells : Array Value) (q : Nat), q ≠ 53 → q ≠ 56 → w.heap[k]? = some (.cells cells q (0, 0)) → w'.heap[k]? = w.heap[k]?
theorem FrT.refl (w : World) : FrT w w := fun _ _ _ _ _ _ => rfl
theorem FrT.of {w w' : World} (h : Below w.heap.size w w') : FrT w w' := fun k _ _ _ _ hk => h.block k (blk_lt hk)
theorem FrT.trans {a b c : World} (h : FrT a b) (k : FrT b c) : FrT a c := fun i cells q h1 h2 hi => by
  have e := h i cells q h1 h2 hi
  exact (k i cells q h1 h2 (e.trans hi)).trans e
theorem R_frame {α : Type} {d : Kd α} {e : Nat} {w w' : World} {base : Nat} {v : Value} {xs : List α} (h : d.R e w base (fun _ => True) v xs) (hf : FrT w w') (he : e ≠ 53 ∧ e ≠ 56) (hE : ∀ q ∈ d.E, q ≠ 53 ∧ q ≠ 56) : d.R e w' base (fun _ => True) v xs := by
  obtain ⟨h0, inner, ho, hr⟩ := h
  refine ⟨h0, inner, own_move ho (fun k hk => ?_), hr.imp_ (fun _ _ hp => d.M_mono (fun k hk => hk.1) (d.M_move (fun k hk => ?_) (d.M_bound hp)))⟩
  · obtain ⟨cells, hc⟩ := own_typed ho k hk
    exact hf k cells e he.1 he.2 hc
  · obtain ⟨_, _, _, q, hq, cells, hc⟩ := hk
    exact hf k cells q (hE q hq).1 (hE q hq).2 hc
theorem bsF_lt {α : Type} (lt : α → Bool) (z : α) (l : List α) (F i j : Nat) (h : i ≤ j) : bsF lt z l F i j ≤ j := bsF_le lt z l F i j h
theorem ix_le (xs : List S56) (k : ByteArray) : ix xs k ≤ xs.length := bsF_le _ _ _ _ _ _ (Nat.zero_le _)
theorem hit_lt {xs : List S56} {k : ByteArray} (h : hit xs k = true) : ix xs k < xs.length := by
  unfold hit at h
  rw [Bool.and_eq_true] at h
  exact of_decide_eq_true h.1

set_option maxHeartbeats 8000000 in
set_option maxRecDepth 100000 in
theorem noneT.calls (gt : Nat) (most : Int) (B : Nat) (v : Value) (xs : List S56) (w : World) (hT : Tab w gt most B v xs) : Calls Try.prog 25 #[.pointer (some ⟨gt, 0, none⟩)] w fun e w' => e = .returned (.bool false) ∧ Below w.heap.size w w' := by
  have HB := Aside0.mk (Below.refl w.heap.size w)
  have c0 := hT.c0
  have m0 := hT.most0
  clear hT
  go_enter Try.func25, Try.ntmps25
  go_wp2
  go_ret
  exact ⟨rfl, by repeat (first | (with_reducible first | exact HB.out | apply below_alloc | apply pw_below_drewN | apply below_drew1) | exact HB.out)⟩
theorem noneZ.calls (gt : Nat) (v : Value) (w : World) (hh : w.heap[gt]? = some (.cells #[.int .i64 0, v] 53 (0, 0))) : Calls Try.prog 25 #[.pointer (some ⟨gt, 0, none⟩)] w fun e w' => e = .returned (.bool true) ∧ Below w.heap.size w w' := by
  have HB := Aside0.mk (Below.refl w.heap.size w)
  have c0 : w.cell? ⟨gt, 0, none⟩ = some (.int .i64 0) := (blk_cell hh 0).trans rfl
  clear hh
  go_enter Try.func25, Try.ntmps25
  go_wp2
  go_ret
  exact ⟨rfl, by repeat (first | (with_reducible first | exact HB.out | apply below_alloc | apply pw_below_drewN | apply below_drew1) | exact HB.out)⟩
theorem noneN.calls (w : World) : Calls Try.prog 25 #[.pointer none] w fun e w' => e = .returned (.bool true) ∧ Below w.heap.size w w' := by
  have HB := Aside0.mk (Below.refl w.heap.size w)
  go_enter Try.func25, Try.ntmps25
  go_wp2
  go_ret
  exact ⟨rfl, by repeat (first | (with_reducible first | exact HB.out | apply below_alloc | apply pw_below_drewN | apply below_drew1) | exact HB.out)⟩

set_option maxHeartbeats 8000000 in
set_option maxRecDepth 100000 in
theorem find.calls (gt : Nat) (most : Int) (B : Nat) (v : Value) (xs : List S56) (k : ByteArray) (w : World) (hT : Tab w gt most B v xs) : Calls Try.prog 24 #[.pointer (some ⟨gt, 0, none⟩), .string k] w fun e w' => e = .returned (.tuple #[.int .i64 (ix xs k), .bool (hit xs k)]) ∧ Below w.heap.size w w' := by
  have HB := Aside0.mk (Below.refl w.heap.size w)
  have HT := Aside0.mk hT
  obtain ⟨A, c, rfl, hc, hC⟩ := hT.slice
  have hlen := hT.small
  clear hC hT
  go_enter Try.func24, Try.ntmps24
  go_upto_region 3 with (first | (go_at_call 25; with_reducible refine (noneT.calls gt most B _ xs _ HT.out).mono ?_; rintro e w' ⟨rfl, hb⟩; have n9_ := Aside0.mk (Tab.below (by with_reducible exact HT.out) hb); have n8_ := Aside0.mk (below_step (by repeat (first | (with_reducible first | exact HB.out | apply below_alloc | apply pw_below_drewN | apply below_drew1) | exact HB.out)) hb); clear HT HB hb; have HT := n9_; have HB := n8_; clear n9_ n8_))
  have c1 := HT.out.c1
  obtain ⟨A', c', e, _, hC⟩ := HT.out.slice
  cases e
  have HC := Aside0.mk hC
  clear hC
  go_wp2_with (go_at_call 36; with_reducible refine (search.calls A c xs k _ HC.out hc (by omega)).mono ?_; rintro e w' ⟨rfl, hb⟩; have n0_ := Aside0.mk (below_step (by repeat (first | (with_reducible first | exact HB.out | apply below_alloc | apply pw_below_drewN | apply below_drew1) | exact HB.out)) hb); clear HB; have HB := n0_; clear n0_ hb)
  go_ret2
  exact ⟨rfl, by repeat (first | (with_reducible first | exact HB.out | apply below_alloc | apply pw_below_drewN | apply below_drew1) | exact HB.out)⟩

set_option maxHeartbeats 8000000 in
set_option maxRecDepth 100000 in
theorem held.yes (gt : Nat) (most : Int) (B : Nat) (v : Value) (xs : List S56) (k : ByteArray) (w : World) (hT : Tab w gt most B v xs) (hk : hit xs k = true) : Calls Try.prog 27 #[.pointer (some ⟨gt, 0, none⟩), .string k] w fun e w' => e = .returned (.tuple #[.int .i64 (ix xs k), .int .i64 0]) ∧ Below w.heap.size w w' := by
  have HB := Aside0.mk (Below.refl w.heap.size w)
  have HT := Aside0.mk hT
  clear hT
  go_enter Try.func27, Try.ntmps27
  go_wp2_with (first
    | (go_at_call 25; with_reducible refine (noneT.calls gt most B v xs _ HT.out).mono ?_; rintro e w' ⟨rfl, hb⟩; have n9_ := Aside0.mk (Tab.below (by with_reducible exact HT.out) hb); have n8_ := Aside0.mk (below_step (by repeat (first | (with_reducible first | exact HB.out | apply below_alloc | apply pw_below_drewN | apply below_drew1) | exact HB.out)) hb); clear HT HB hb; have HT := n9_; have HB := n8_; clear n9_ n8_)
    | (go_at_call 24; with_reducible refine (find.calls gt most B v xs k _ HT.out).mono ?_; rw [hk]; rintro e w' ⟨rfl, hb⟩; have n9_ := Aside0.mk (Tab.below (by with_reducible exact HT.out) hb); have n8_ := Aside0.mk (below_step (by repeat (first | (with_reducible first | exact HB.out | apply below_alloc | apply pw_below_drewN | apply below_drew1) | exact HB.out)) hb); clear HT HB hb; have HT := n9_; have HB := n8_; clear n9_ n8_))
  go_ret2
  exact ⟨rfl, by repeat (first | (with_reducible first | exact HB.out | apply below_alloc | apply pw_below_drewN | apply below_drew1) | exact HB.out)⟩
set_option maxHeartbeats 8000000 in
set_option maxRecDepth 100000 in
theorem held.not (gt : Nat) (most : Int) (B : Nat) (v : Value) (xs : List S56) (k : ByteArray) (w : World) (hT : Tab w gt most B v xs) (hk : hit xs k = false) : Calls Try.prog 27 #[.pointer (some ⟨gt, 0, none⟩), .string k] w fun e w' => e = .returned (.tuple #[.int .i64 0, .int .i64 7]) ∧ Below w.heap.size w w' := by
  have HB := Aside0.mk (Below.refl w.heap.size w)
  have HT := Aside0.mk hT
  clear hT
  go_enter Try.func27, Try.ntmps27
  go_wp2_with (first
    | (go_at_call 25; with_reducible refine (noneT.calls gt most B v xs _ HT.out).mono ?_; rintro e w' ⟨rfl, hb⟩; have n9_ := Aside0.mk (Tab.below (by with_reducible exact HT.out) hb); have n8_ := Aside0.mk (below_step (by repeat (first | (with_reducible first | exact HB.out | apply below_alloc | apply pw_below_drewN | apply below_drew1) | exact HB.out)) hb); clear HT HB hb; have HT := n9_; have HB := n8_; clear n9_ n8_)
    | (go_at_call 24; with_reducible refine (find.calls gt most B v xs k _ HT.out).mono ?_; rw [hk]; rintro e w' ⟨rfl, hb⟩; have n9_ := Aside0.mk (Tab.below (by with_reducible exact HT.out) hb); have n8_ := Aside0.mk (below_step (by repeat (first | (with_reducible first | exact HB.out | apply below_alloc | apply pw_below_drewN | apply below_drew1) | exact HB.out)) hb); clear HT HB hb; have HT := n9_; have HB := n8_; clear n9_ n8_))
  go_ret2
  exact ⟨rfl, by repeat (first | (with_reducible first | exact HB.out | apply below_alloc | apply pw_below_drewN | apply below_drew1) | exact HB.out)⟩

set_option maxHeartbeats 8000000 in
set_option maxRecDepth 100000 in
theorem Get.yes (gt : Nat) (most : Int) (B : Nat) (v : Value) (xs : List S56) (k : ByteArray) (w : World) (hT : Tab w gt most B v xs) (hk : hit xs k = true) : Calls Try.prog 9 #[.pointer (some ⟨gt, 0, none⟩), .string k] w fun e w' => e = .returned (.tuple #[.int .i64 (rd_T56 xs ((ix xs k : Nat) : Int)).f1, .bool true]) ∧ Below w.heap.size w w' := by
  have HB := Aside0.mk (Below.refl w.heap.size w)
  have HT := Aside0.mk hT
  clear hT
  have HK := Aside0.mk hk
  clear hk
  go_enter Try.func9, Try.ntmps9
  go_upto_region 4 with (first | (go_at_call 27; with_reducible refine (held.yes gt most B v xs k _ HT.out HK.out).mono ?_; rintro e w' ⟨rfl, hb⟩; have n9_ := Aside0.mk (Tab.below (by with_reducible exact HT.out) hb); have n8_ := Aside0.mk (below_step (by repeat (first | (with_reducible first | exact HB.out | apply below_alloc | apply pw_below_drewN | apply below_drew1) | exact HB.out)) hb); clear HT HB hb; have HT := n9_; have HB := n8_; clear n9_ n8_))
  obtain ⟨A, c, rfl, hc, hC⟩ := HT.out.slice
  have c1 := HT.out.c1
  have hlt := hit_lt HK.out
  obtain ⟨ad, e, x0, x1⟩ := at_T56 hC ((ix xs k : Nat) : Int) (by omega) (by omega)
  cases e
  simp only [Int.toNat_natCast] at x0 x1
  clear hC
  go_wp2
  go_ret2
  exact ⟨rfl, by repeat (first | (with_reducible first | exact HB.out | apply below_alloc | apply pw_below_drewN | apply below_drew1) | exact HB.out)⟩
set_option maxHeartbeats 8000000 in
set_option maxRecDepth 100000 in
theorem Get.not (gt : Nat) (most : Int) (B : Nat) (v : Value) (xs : List S56) (k : ByteArray) (w : World) (hT : Tab w gt most B v xs) (hk : hit xs k = false) : Calls Try.prog 9 #[.pointer (some ⟨gt, 0, none⟩), .string k] w fun e w' => e = .returned (.tuple #[.int .i64 0, .bool false]) ∧ Below w.heap.size w w' := by
  have HB := Aside0.mk (Below.refl w.heap.size w)
  have HT := Aside0.mk hT
  clear hT
  have HK := Aside0.mk hk
  clear hk
  go_enter Try.func9, Try.ntmps9
  go_wp2_with (first
    | (go_at_call 27; with_reducible refine (held.not gt most B v xs k _ HT.out HK.out).mono ?_; rintro e w' ⟨rfl, hb⟩; have n9_ := Aside0.mk (Tab.below (by with_reducible exact HT.out) hb); have n8_ := Aside0.mk (below_step (by repeat (first | (with_reducible first | exact HB.out | apply below_alloc | apply pw_below_drewN | apply below_drew1) | exact HB.out)) hb); clear HT HB hb; have HT := n9_; have HB := n8_; clear n9_ n8_))
  go_ret2
  exact ⟨rfl, by repeat (first | (with_reducible first | exact HB.out | apply below_alloc | apply pw_below_drewN | apply below_drew1) | exact HB.out)⟩

set_option maxHeartbeats 8000000 in
set_option maxRecDepth 100000 in
theorem Len.calls (gt : Nat) (most : Int) (B : Nat) (v : Value) (xs : List S56) (w : World) (hT : Tab w gt most B v xs) : Calls Try.prog 12 #[.pointer (some ⟨gt, 0, none⟩)] w fun e w' => e = .returned (.int .i64 (xs.length : Nat)) ∧ Below w.heap.size w w' := by
  have HB := Aside0.mk (Below.refl w.heap.size w)
  have HT := Aside0.mk hT
  clear hT
  go_enter Try.func12, Try.ntmps12
  go_upto_region 3 with (first | (go_at_call 25; with_reducible refine (noneT.calls gt most B v xs _ HT.out).mono ?_; rintro e w' ⟨rfl, hb⟩; have n9_ := Aside0.mk (Tab.below (by with_reducible exact HT.out) hb); have n8_ := Aside0.mk (below_step (by repeat (first | (with_reducible first | exact HB.out | apply below_alloc | apply pw_below_drewN | apply below_drew1) | exact HB.out)) hb); clear HT HB hb; have HT := n9_; have HB := n8_; clear n9_ n8_))
  obtain ⟨A, c, rfl, hc, hC⟩ := HT.out.slice
  have c1 := HT.out.c1
  clear hC
  go_wp2
  go_ret
  exact ⟨rfl, by repeat (first | (with_reducible first | exact HB.out | apply below_alloc | apply pw_below_drewN | apply below_drew1) | exact HB.out)⟩

theorem keys_run (xs : List S56) (hl : xs.length ≤ 1000000) : ∀ d j : Nat, d + j = xs.length → table_keys_string_int.l0 (d + 1) ((xs.take j).map (·.f0)) xs (xs.length : Int) (j : Int) = some (xs.map (·.f0))
  | 0, j, h => by
    rw [table_keys_string_int.l0, if_neg (by omega), List.take_of_length_le (by omega)]
  | d + 1, j, h => by
    rw [table_keys_string_int.l0, if_pos (by omega), if_pos (by omega), if_pos (by omega), if_pos (by rw [List.length_map, List.length_take]; omega)]
    have e1 : wrap64 ((j : Int) + 1) = ((j + 1 : Nat) : Int) := by unfold wrap64; omega
    have hj : j < xs.length := by omega
    have e2 : (xs.take j).map (·.f0) ++ [(rd_T56 xs (j : Int)).f0] = (xs.take (j + 1)).map (·.f0) := by
      rw [List.take_add_one, List.map_append, List.getElem?_eq_getElem hj]
      unfold rd_T56
      rw [Int.toNat_natCast, List.getD_eq_getElem?_getD, List.getElem?_eq_getElem hj]
      rfl
    rw [e1, e2]
    exact keys_run xs hl d (j + 1) (by omega)
theorem keys_eq (xs : List S56) (hl : xs.length ≤ 1000000) : table_keys_string_int.f (xs.length + 1) xs = some (xs.map (·.f0)) := keys_run xs hl xs.length 0 (by omega)

set_option maxHeartbeats 8000000 in
set_option maxRecDepth 100000 in
theorem Keys.calls (gt : Nat) (most : Int) (B : Nat) (v : Value) (xs : List S56) (w : World) (hT : Tab w gt most B v xs) : Calls Try.prog 11 #[.pointer (some ⟨gt, 0, none⟩)] w fun e w' => ∃ u, e = .returned u ∧ Kd.R Kd.string 9 w' w.heap.size (fun _ => True) u (xs.map (·.f0)) ∧ Below w.heap.size w w' := by
  have HB := Aside0.mk (Below.refl w.heap.size w)
  have HT := Aside0.mk hT
  clear hT
  go_enter Try.func11, Try.ntmps11
  go_upto_region 3 with (first | (go_at_call 25; with_reducible refine (noneT.calls gt most B v xs _ HT.out).mono ?_; rintro e w' ⟨rfl, hb⟩; have n9_ := Aside0.mk (Tab.below (by with_reducible exact HT.out) hb); have n8_ := Aside0.mk (below_step (by repeat (first | (with_reducible first | exact HB.out | apply below_alloc | apply pw_below_drewN | apply below_drew1) | exact HB.out)) hb); clear HT HB hb; have HT := n9_; have HB := n8_; clear n9_ n8_))
  obtain ⟨A, c, rfl, hc, hC⟩ := HT.out.slice
  have c1 := HT.out.c1
  have HC := Aside0.mk hC
  have HE := Aside0.mk (keys_eq xs HT.out.small)
  clear hC
  go_wp2_with (go_at_call 29; with_reducible refine (table_keys_string_int.calls _ A c xs _ _ HC.out hc HE.out).mono ?_; rintro e w' ⟨u, rfl, hr, hb⟩; have HR := Aside0.mk (Kd.R_lower hr (below_size HB.out)); have n0_ := Aside0.mk (below_step (by repeat (first | (with_reducible first | exact HB.out | apply below_alloc | apply pw_below_drewN | apply below_drew1) | exact HB.out)) hb); clear HB; have HB := n0_; clear n0_ hb; clear hr)
  go_ret
  exact ⟨u, rfl, HR.out, by repeat (first | (with_reducible first | exact HB.out | apply below_alloc | apply pw_below_drewN | apply below_drew1) | exact HB.out)⟩

theorem cutX (A : Option Addr) (n c i : Nat) (h : i ≤ n) : ∀ W : World, (Instr.slice 51 (.slice A n c) (some (.int .i64 i)) none none).run Try.prog W = .ok (.slice (if c = i then A else A.map (·.add (i * k56.sz))) (n - i) (c - i)) W := by
  obtain ⟨i0, hi, hz⟩ := Option.map_eq_some_iff.1 size56
  intro W
  have := cut_from (P := Try.prog) 51 56 .i64 Try.underlying51 hi 2 hz A n c (i : Int) (by omega) (by omega) W
  rw [Int.toNat_natCast] at this
  exact this

end Go.Proofs.Ytghgadfcnggapaa.GA.U
