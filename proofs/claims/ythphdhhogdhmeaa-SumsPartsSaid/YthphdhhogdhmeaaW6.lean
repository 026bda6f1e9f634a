/- Sums: what is read and written. No condition. -/
import Derived.Test.YthphdhhogdhmeaaW5
import Derived.Laws.CopyOwn
import Derived.ChangeKeysEq
import Derived.Deep.RegionHeld3
import Derived.Deep.MidRow
import Derived.Shelf.Abstract
import Derived.RangeFuncNested
import Derived.RangeFuncBound
import Derived.RangeFuncLeaves
import Derived.OwnWalkIn
import Derived.TacticsInMore
import Derived.LoopNIn
import Derived.LoopIn
namespace Go.Proofs.Ythphdhhogdhmeaa.GA
open Go.RowKit Go.Shelf Go.Proofs.YthphdhhogdhmeaaW.PrintWords Go.Proofs.YthphdhhogdhmeaaW.PrintLast Go.Proofs.YthphdhhogdhmeaaW.PrintMore
set_option linter.unusedVariables false
set_option linter.unusedSimpArgs false

/-- what is there: served, of it on demand; on its way, of it on demand; warm; how many -/
structure Sum where
  a0 : Int
  a1 : Int
  a2 : Int
  a3 : Int
  a4 : Int
  a5 : Int
def zsum : Sum := ⟨0, 0, 0, 0, 0, 0⟩
def sumc (s : Sum) : Array Value := #[.int .i64 s.a0, .int .i64 s.a1, .int .i64 s.a2, .int .i64 s.a3, .int .i64 s.a4, .int .i64 s.a5]
/-- is an instance of that state there, on its way? -/
def comesB (n : Int) : Bool := (n == 1) || ((n == 2) || (n == 9))
/-- behind one instance more -/
def instStep (v : Int) (s : Sum) (x : S29) : Sum :=
  if v ≠ 0 ∧ x.f11 ≠ v then s
  else if x.f5 = 3 then { s with a5 := wrap64 (s.a5 + 1), a0 := wrap64 (s.a0 + x.f3), a1 := if x.f4 = true then s.a1 else wrap64 (s.a1 + x.f3) }
  else if comesB x.f5 = true then { s with a5 := wrap64 (s.a5 + 1), a2 := wrap64 (s.a2 + x.f3), a3 := if x.f4 = true then s.a3 else wrap64 (s.a3 + x.f3) }
  else if x.f5 = 7 ∨ x.f5 = 8 then { s with a5 := wrap64 (s.a5 + 1), a4 := wrap64 (s.a4 + x.f3) }
  else { s with a5 := wrap64 (s.a5 + 1) }
/-- behind one launch more -/
def openStep (v : Int) (s : Sum) (x : S33) : Sum :=
  if v ≠ 0 ∧ x.f4 ≠ v then s
  else if x.f0.f3 = true then { s with a5 := wrap64 (s.a5 + 1), a4 := wrap64 (s.a4 + x.f2) }
  else { s with a5 := wrap64 (s.a5 + 1), a2 := wrap64 (s.a2 + x.f2), a3 := if x.f3 = true then s.a3 else wrap64 (s.a3 + x.f2) }
def instSum (v : Int) (li : List S29) : Sum := li.foldl (instStep v) zsum
def sumOf (li : List S29) (lo : List S33) (v : Int) : Sum := (lset lo).foldl (openStep v) (instSum v li)
theorem instSum_next (v : Int) {l : List S29} {k : Nat} (h : k < l.length) : instSum v (l.take (k + 1)) = instStep v (instSum v (l.take k)) (rd_T29 l (k : Int)) := by
  unfold instSum
  rw [List.take_add_one, List.getElem?_eq_getElem h, List.foldl_append]
  unfold rd_T29
  rw [Int.toNat_natCast, List.getD_eq_getElem?_getD, List.getElem?_eq_getElem h]
  rfl
/-- a world behind 'add' -/
def addW (w : World) (g i j : Nat) (u v : Value) (spot : Bool) : World := if spot = true then w.setCell ⟨g, i, none⟩ u else (w.setCell ⟨g, i, none⟩ u).setCell ⟨g, j, none⟩ v
def addC (cs : Array Value) (i j : Nat) (u v : Value) (spot : Bool) : Array Value := if spot = true then cs.setIfInBounds i u else (cs.setIfInBounds i u).setIfInBounds j v
theorem addW_row {w : World} {g : Nat} {cs : Array Value} {t : TypeId} (h : w.heap[g]? = some (.cells cs t (0, 0))) (i j : Nat) (u v : Value) (spot : Bool) : (addW w g i j u v spot).heap[g]? = some (.cells (addC cs i j u v spot) t (0, 0)) := by
  unfold addW addC
  cases spot
  · exact blk_set (blk_set h i u) j v
  · exact blk_set h i u
theorem addW_other (w : World) (g i j : Nat) (u v : Value) (spot : Bool) {k : Nat} (hk : k ≠ g) : (addW w g i j u v spot).heap[k]? = w.heap[k]? := by
  unfold addW
  cases spot
  · exact (heap_setCell_other _ _ k _ hk).trans (heap_setCell_other _ _ k _ hk)
  · exact heap_setCell_other _ _ k _ hk
theorem addW_below {n₀ : Nat} {w0 w : World} (h : Below n₀ w0 w) {g : Nat} (hg : n₀ ≤ g) (i j : Nat) (u v : Value) (spot : Bool) : Below n₀ w0 (addW w g i j u v spot) := by
  unfold addW
  cases spot
  · exact (h.setCell (p := ⟨g, i, none⟩) hg _).setCell (p := ⟨g, j, none⟩) hg _
  · exact h.setCell (p := ⟨g, i, none⟩) hg _
theorem addW_keeps (w : World) (g i j : Nat) (u v : Value) (spot : Bool) : KeepsOthers w (addW w g i j u v spot) := by
  unfold addW
  cases spot
  · exact (KeepsOthers.setCell _ _ _).trans (KeepsOthers.setCell _ _ _)
  · exact KeepsOthers.setCell _ _ _

set_option maxHeartbeats 8000000 in
set_option maxRecDepth 100000 in
theorem add.calls (g i j : Nat) (cs : Array Value) (a b c : Int) (spot : Bool) (w : World) (hg : w.heap[g]? = some (.cells cs 35 (0, 0))) (hi : cs[i]? = some (.int .i64 a)) (hj : cs[j]? = some (.int .i64 b)) (hij : i ≠ j) :
    Calls Try.prog 14 #[.pointer (some ⟨g, i, none⟩), .pointer (some ⟨g, j, none⟩), .int .i64 c, .bool spot] w fun e w' => (∃ v, e = .returned v) ∧ w' = addW w g i j (.int .i64 (wrap64 (a + c))) (.int .i64 (wrap64 (b + c))) spot := by
  have c1 : w.cell? ⟨g, i, none⟩ = some (.int .i64 a) := (blk_cell hg i).trans hi
  have f1 : w.frozen? ⟨g, i, none⟩ = false := by simp [World.frozen?, hg]
  have hg2 := blk_set hg i (.int .i64 (wrap64 (a + c)))
  have c2 : (w.setCell ⟨g, i, none⟩ (.int .i64 (wrap64 (a + c)))).cell? ⟨g, j, none⟩ = some (.int .i64 b) := (blk_cell hg2 j).trans (by rw [Array.getElem?_setIfInBounds_ne hij]; exact hj)
  have f2 : (w.setCell ⟨g, i, none⟩ (.int .i64 (wrap64 (a + c)))).frozen? ⟨g, j, none⟩ = false := by simp [World.frozen?, hg2]
  cases spot
  · go_enter Try.func14, Try.ntmps14
    go_wp2
    go_end0
    exact ⟨⟨_, rfl⟩, rfl⟩
  · go_enter Try.func14, Try.ntmps14
    go_wp2
    go_end0
    exact ⟨⟨_, rfl⟩, rfl⟩

set_option maxHeartbeats 8000000 in
set_option maxRecDepth 100000 in
theorem launches.calls (A : Option Addr) (n c : Nat) (w : World) : Calls Try.prog 16 #[.slice A n c] w fun e w' => e = .returned (.func (.func 21) #[] #[.pointer (some ⟨w.heap.size, 0, none⟩)]) ∧ w' = w.alloc (.cells #[.slice A n c] 23) := by
  go_enter Try.func16, Try.ntmps16
  go_wp2
  go_ret
  exact ⟨rfl, rfl⟩
theorem launches_stops (F : Fence) (n : Nat) (h34 : F.fn 21) (hro : F.round = none) (hn : 1 ≤ n) (Bs : Nat) (A : Option Addr) (c : Nat) (lo : List S33) (hm : lo.length ≤ 4096) (w0 w : World) (hBs : Bs < w.heap.size) (hb : Below w0.heap.size w0 w) (hc : w.cell? ⟨Bs, 0, none⟩ = some (.slice A lo.length c)) (hl : Kd.C k33 w0 A lo.length lo) :
    SeqStopsK F n Try.prog 21 #[.pointer (some ⟨Bs, 0, none⟩)] (fun x : S33 => #[.agg #[.int .u8 x.f0.f0, .int .u64 x.f0.f1, .int .i64 x.f0.f2, .bool x.f0.f3, .int .u64 x.f0.f4, .int .u64 x.f1, .int .i64 x.f2, .bool x.f3, .int .u32 x.f4]]) (Below w0.heap.size) (fun ys => ys = lset lo) (fun _ => True) lo.length w := fun l J Jx W hW hJ hJx hY h0 =>
  launches1_in F n h34 hro hn l Bs w0.heap.size A c lo hm J Jx hY W ((hW.cell (p := ⟨Bs, 0, none⟩) hBs).trans hc) w0 (hb.trans (hW.mono hb.size)) rfl hl h0 hJ
theorem Serves.calls (x : S29) (w : World) : Calls Try.prog 13 #[.agg #[.int .u64 x.f0, .int .u64 x.f1, .int .i64 x.f2, .int .i64 x.f3, .bool x.f4, .int .u8 x.f5, .int .u64 x.f6, .bool x.f7, .int .u64 x.f8, .bool x.f9, .bool x.f10, .int .u32 x.f11]] w fun e w' => e = .returned (.bool (x.f5 == 3)) ∧ Below w.heap.size w w' := inst_Serves.calls _ _ _ _ _ _ _ _ _ _ _ _ _ w rfl
theorem Comes.calls (x : S29) (w : World) : Calls Try.prog 15 #[.agg #[.int .u64 x.f0, .int .u64 x.f1, .int .i64 x.f2, .int .i64 x.f3, .bool x.f4, .int .u8 x.f5, .int .u64 x.f6, .bool x.f7, .int .u64 x.f8, .bool x.f9, .bool x.f10, .int .u32 x.f11]] w fun e w' => e = .returned (.bool (comesB x.f5)) ∧ Below w.heap.size w w' := inst_Comes.calls _ _ _ _ _ _ _ _ _ _ _ _ _ w (by
  unfold inst_Comes.f comesB
  by_cases h1 : x.f5 = 1
  · rw [if_pos h1, h1]; rfl
  · rw [if_neg h1]
    by_cases h2 : x.f5 = 2
    · rw [if_pos h2, h2]; rfl
    · rw [if_neg h2, show (x.f5 == 1) = false by simpa using h1, show (x.f5 == 2) = false by simpa using h2]; rfl)

end Go.Proofs.Ythphdhhogdhmeaa.GA
