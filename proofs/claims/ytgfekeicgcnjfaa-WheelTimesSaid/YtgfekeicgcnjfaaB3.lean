/- slices.Insert, of things: all its roads. No condition. -/
import Derived.Test.YtgfekeicgcnjfaaB2
import Derived.Maps.AppendAt
import Derived.Laws.CopyOwn
import Derived.Laws.CopyRow
import Derived.ChangeKeysEq
import Derived.Deep.RegionHeld3
import Derived.Deep.MidRow
import Derived.Shelf.Abstract
import Derived.Lib.Overlaps
import Derived.Lib.AppendZerosOnto
import Derived.Shelf.Spec.SlicesInsertGrow
namespace Go.Proofs.Ytgfekeicgcnjfaa.GA.I
open Go.RowKit Go.Shelf Go.Proofs.YtgfekeicgcnjfaaW.PrintWords Go.Proofs.YtgfekeicgcnjfaaW.PrintLast Go.Proofs.YtgfekeicgcnjfaaW.PrintMore
set_option linter.unusedVariables false
set_option linter.unusedSimpArgs false

set_option maxHeartbeats 8000000 in
set_option maxRecDepth 100000 in
theorem Insert.end_ (B gx cx : Nat) (A : Option Addr) (c : Nat) (xs : List S63) (x : S63) (w : World) (hR : TRow w B (.slice A xs.length c) xs) (hx : w.heap[gx]? = some (.cells #[.int .i64 x.f0, .int .u64 x.f1, .int .u64 x.f2] 63 (0, 0))) (hB : B ≤ w.heap.size) (hbig : xs.length ≤ 1000000) :
    Calls Try.prog 30 #[.slice A xs.length c, .int .i64 (xs.length : Nat), .slice (some ⟨gx, 0, none⟩) 1 cx] w fun e w' => ∃ v', e = .returned v' ∧ w'.ownsRow B 63 3 v' (xs.length + 1) (flat xs ++ flat [x]) ∧ w.grownBy w' (Value.slice A xs.length c).ownBlock ∧ (v'.ownBlock = (Value.slice A xs.length c).ownBlock ∨ v'.ownBlock = some w.heap.size) := by
  obtain ⟨u, hu⟩ := cutA A xs.length c xs.length (Nat.le_refl _)
  obtain ⟨i0, hi0, hz⟩ := Option.map_eq_some_iff.1 info63
  have hz0 : i0.zero = some (.agg #[.int .i64 0, .int .u64 0, .int .u64 0]) := by injection hz
  have hzs : i0.size = 3 := by injection hz with _ h; injection h
  have hzb : i0.bytes = 24 := by injection hz with _ h; injection h
  have HNEW : Aside0 (∀ j u, (flat [x])[j]? = some u → w.cell? ((⟨gx, 0, none⟩ : Addr).add j) = some u) := ⟨fun j v hj => by
    rw [add_g, blk_cell hx]
    show (flat [x]).toArray[j]? = some v
    rw [List.getElem?_toArray]
    exact hj⟩
  have HR : Aside0 (w.ownsRow B 63 3 (.slice A xs.length c) xs.length (flat xs)) := ⟨hR⟩
  have HM : Aside0 (xs.length + 1 ≤ maxLen) := ⟨by unfold maxLen; omega⟩
  have HBY : Aside0 ((xs.length + 1) * 24 ≤ 140737488355328) := ⟨by omega⟩
  have HBB := Aside0.mk hB
  clear hR hx hB hbig
  go_enter Try.func30, Try.ntmps30
  go_wp2_with (at_builtin; refine wpList_append_own_at _ rfl (.tmp 23) (.tmp 24) 59 rfl B 63 i0 (.agg #[.int .i64 0, .int .u64 0, .int .u64 0]) 3 24 Try.underlying59 hi0 hz0 hzs hzb rfl (by decide) _ xs.length (flat xs) rfl HR.out ⟨gx, 0, none⟩ 1 cx (flat [x]) rfl rfl HNEW.out (flat_one [x]) HM.out HBY.out HBB.out ?_; intro v1 w1 hown hg hnil hloc)
  go_ret
  exact ⟨v1, rfl, hown, hg, hloc⟩

theorem take_all (xs : List S63) (x : S63) : xs.take xs.length ++ x :: xs.drop xs.length = xs ++ [x] := by simp
/-- slices.Insert of one thing into a row of the table's own -/
theorem Insert.calls (B gx cx i : Nat) (v : Value) (xs : List S63) (x : S63) (w : World) (hR : TRow w B v xs) (hi : i ≤ xs.length) (hx : w.heap[gx]? = some (.cells #[.int .i64 x.f0, .int .u64 x.f1, .int .u64 x.f2] 63 (0, 0))) (hne : some gx ≠ v.ownBlock) (hB : B ≤ w.heap.size) (hbig : xs.length ≤ 1000000) :
    Calls Try.prog 30 #[v, .int .i64 i, .slice (some ⟨gx, 0, none⟩) 1 cx] w fun e w' => ∃ v', e = .returned v' ∧ TRow w' B v' (xs.take i ++ x :: xs.drop i) ∧ Below B w w' ∧ (∀ k, k < w.heap.size → some k ≠ v.ownBlock → w'.heap[k]? = w.heap[k]?) ∧ (v'.ownBlock = v.ownBlock ∨ v'.ownBlock = some w.heap.size) := by
  rcases Nat.lt_or_ge i xs.length with hlt | hge
  · obtain ⟨g, cap, cur, rfl, hBg, hh, hn, hm, hs, ht⟩ := hR.form (by omega)
    have hgx : gx ≠ g := fun e => hne (by rw [e]; rfl)
    have hm' : cap ≤ 9223372036854775807 := hm
    rcases Nat.lt_or_ge cap (xs.length + 1) with hc | hc
    · refine (Insert.grow g cap i gx cx cur xs x w hh hs ht hlt hn hc hbig hx).mono ?_
      rintro e w' ⟨G, R, rfl, h1, h2, h3, h4, h5, h6⟩
      have hl : (xs.take i ++ x :: xs.drop i).length = xs.length + 1 := by simp; omega
      refine ⟨_, rfl, ⟨flat_len _, .inr ⟨w.heap.size, G, R, by rw [hl], hB, h1, by omega, h3, h4, by rw [hl]; exact h5⟩⟩, h6.mono hB, fun k hk _ => h6.block k hk, .inr rfl⟩
    · refine (Insert.shift g cap i gx cx cur xs x w hh hs ht hlt hc hm' hx hgx).mono ?_
      rintro e w' ⟨rfl, rfl⟩
      have hl : (xs.take i ++ x :: xs.drop i).length = xs.length + 1 := by simp; omega
      have s1 := row1_size cur i cap xs hs hlt hc
      refine ⟨_, rfl, ⟨flat_len _, .inr ⟨g, cap, row2 (row1 cur i xs) i x, by rw [hl], hBg, setRow_heap _ _ _ _ 63 (0, 0) (setRow_heap w.drew g cur _ 63 (0, 0) hh), by omega, hm, row2_size _ i cap x s1 (by omega), by rw [hl]; exact rows_flat cur i cap xs x hs hlt hc ht⟩⟩,
        below_setRow (below_setRow (below_drew (Below.refl _ _)) hBg _) hBg _, fun k hk hne' => ?_, .inl rfl⟩
      have hkg : k ≠ g := fun e => hne' (by rw [e]; rfl)
      exact (setRow_other _ g k _ hkg).trans (setRow_other w.drew g k _ hkg)
  · obtain rfl : i = xs.length := by omega
    obtain ⟨A, c, rfl⟩ := Kd.R_slice hR.toR
    refine (Insert.end_ B gx cx A c xs x w hR hx hB hbig).mono ?_
    rintro e w' ⟨v', rfl, h1, h2, h3⟩
    refine ⟨v', rfl, ?_, (Below.refl B w).grown h2 hB (fun k e => ?_), fun k hk hne' => h2.block k hk hne', h3⟩
    · rw [take_all]
      show w'.ownsRow B 63 3 v' (xs ++ [x]).length (flat (xs ++ [x]))
      rw [flat_app, List.length_append]
      exact h1
    · exact Kd.R_base hR.toR k e

end Go.Proofs.Ytgfekeicgcnjfaa.GA.I
