/- What the law of one token needs. No condition. -/
import Derived.Test.YtfhopjigdkjnoaaK32
import Derived.Laws.CopyOwn
import Derived.Laws.CopyRow
import Derived.ChangeKeysEq
import Derived.Deep.RegionHeld3
import Derived.Deep.MidRow
import Derived.Shelf.Abstract
import Derived.Maps.OwnSet
import Derived.Maps.AppendAt
import Derived.WalkSpells
namespace Go.Proofs.Ytfhopjigdkjnoaa.GA
open Go.RowKit Go.Shelf Go.Proofs.YtfhopjigdkjnoaaW.PrintWords Go.Proofs.YtfhopjigdkjnoaaW.PrintLast Go.Proofs.YtfhopjigdkjnoaaW.PrintMore
set_option linter.unusedVariables false
set_option linter.unusedSimpArgs false

/-- the row of instances of the deed ahead: in a block that is not the cloud's -/
def Was (w : World) (B : Nat) (v : Value) (L : List S50) (vl : Value) : Prop := Row50 w B v L ∧ ∀ k, v.ownBlock = some k → some k ≠ vl.ownBlock
theorem Was.next {w w' : World} {gc mb B B' : Nat} {v vl vw vl' : Value} {s : CS} {L : List S50} (h : Was w B' v L vl) (hC : Cl w gc mb B vl vw s) (f : Fr w w' gc mb vl vw) (hn : Nw w vl vl') : Was w' B' v L vl' := by
  have ow : ∀ k, v.ownBlock = some k → ∃ cur, w.heap[k]? = some (.cells cur 50 (0, 0)) := fun k hk => by
    obtain ⟨cur, h1, _⟩ := h.1.owned hk
    exact ⟨cur, h1⟩
  refine ⟨h.1.moved fun k hk => ?_, fun k hk => ?_⟩
  · obtain ⟨cur, h1⟩ := ow k hk
    refine f k (blk_lt h1) (fun e => ?_) (fun e => ?_) (h.2 k hk) (hC.rowW.ne h1 (by decide))
    · have h4 := hC.1
      rw [← e, h1] at h4
      injection h4 with h4
      injection h4 with _ h4
      cases h4
    · obtain ⟨es, c, h4, _⟩ := hC.mapIs
      rw [← e, h1] at h4
      injection h4 with h4
      cases h4
  · obtain ⟨cur, h1⟩ := ow k hk
    exact hn.ne (blk_lt h1) (h.2 k hk)
theorem Was.below {w w' : World} {B : Nat} {v vl : Value} {L : List S50} (h : Was w B v L vl) (hb : Below w.heap.size w w') : Was w' B v L vl := ⟨h.1.below hb, h.2⟩
theorem Was.nil_ (w : World) (B : Nat) (vl : Value) : Was w B (.slice none 0 0) [] vl := ⟨⟨rfl, .inl ⟨rfl, rfl⟩⟩, fun k hk => by simp [Value.ownBlock] at hk⟩
theorem Was.slice {w : World} {B : Nat} {v vl : Value} {L : List S50} (h : Was w B v L vl) : ∃ A c, v = .slice A L.length c ∧ L.length ≤ c ∧ Kd.C k50 w A L.length L := h.1.slice
/-- the row that Grants told, new at w -/
theorem Was.of {w w' : World} {gc mb B : Nat} {v vl vw : Value} {s : CS} {L : List S50} (hC : Cl w gc mb B vl vw s) (h : Row50 w' w.heap.size v L) : Was w' B v L vl := by
  refine ⟨h.base hC.base, fun k hk e => ?_⟩
  obtain ⟨_, _, h1⟩ := h.owned hk
  obtain ⟨cur, h2, _⟩ := hC.rowL.owned e.symm
  have := blk_lt h2
  omega
theorem rd50 (L : List S50) (k : Nat) : rd_T50 L (k : Int) = at50 L k := by unfold rd_T50 at50; rw [Int.toNat_natCast]
theorem rd27 (W : List S27) (k : Nat) : rd_T27 W (k : Int) = at27 W k := by unfold rd_T27 at27; rw [Int.toNat_natCast]
/-- the first i deeds, and the next one: what is known of them -/
theorem once_step {l : List S34} (hl : ∀ d ∈ l, deedOk d) {i : Nat} (h : i < l.length) : Ok (runS emp (l.take i)) ∧ Stp (runS emp (l.take i)) (doS (runS emp (l.take i)) (rd_T34 l (i : Int))) ∧ Ok (doS (runS emp (l.take i)) (rd_T34 l (i : Int))) ∧ (runS emp (l.take i)).L.length ≤ i ∧ (runS emp (l.take i)).W.length ≤ i := by
  have h0 := runS_ok emp_ok _ (deeds_take hl i)
  have h1 := doS_ok h0 _ (deed_at hl h)
  have h2 := runS_len emp_ok _ (deeds_take hl i)
  have h3 : (l.take i).length ≤ i := by rw [List.length_take]; omega
  have e1 : emp.L.length = 0 := rfl
  have e2 : emp.W.length = 0 := rfl
  exact ⟨h0, h1.2, h1.1, by omega, by omega⟩
theorem DoAsk.calls (w : World) (gc mb B : Nat) (vl vw : Value) (s : CS) (d : S34) (hC : Cl w gc mb B vl vw s) (hk : Ok s) (hd : deedOk d) (hn : s.W.length ≤ 1000000) (hn2 : s.L.length < 8192) (ha : d.ask = true) : Calls Try.prog 7 #[.pointer (some ⟨gc, 0, none⟩), .agg #[.int .u8 d.r.f0, .int .u64 d.r.f1, .int .i64 d.r.f2, .bool d.r.f3, .int .u64 d.r.f4]] w fun e' w' => ∃ v, e' = .returned v ∧ Post w w' gc mb B vl vw (doS s d) := by
  refine (AskS.calls w gc mb B vl vw s hC hk hn (by omega) d.r hd.1 (wf_nonneg hd.2.1)).mono ?_
  rintro e w' ⟨v, h1, _, h3⟩
  rw [doS, if_pos ha]
  exact ⟨v, h1, h3⟩
theorem DoAct.calls (w : World) (gc mb B : Nat) (vl vw : Value) (s : CS) (d : S34) (hC : Cl w gc mb B vl vw s) (hk : Ok s) (hd : deedOk d) (hn : s.W.length ≤ 1000000) (hn2 : s.L.length < 8192) (ha : d.ask = false) : Calls Try.prog 8 #[.pointer (some ⟨gc, 0, none⟩), .agg #[.int .u8 d.a.f0, .int .i64 d.a.f1, .int .i64 d.a.f2, .int .i64 d.a.f3, .int .u64 d.a.f4]] w fun e' w' => ∃ v, e' = .returned v ∧ Post w w' gc mb B vl vw (doS s d) := by
  refine (ActS.calls w gc mb B vl vw s hC hk hn hn2 d.a.f0 d.a.f1 d.a.f2 d.a.f3 d.a.f4 hd.2.2).mono ?_
  rintro e w' ⟨v, h1, _, h3⟩
  rw [doS, if_neg (by rw [ha]; decide)]
  exact ⟨v, h1, h3⟩
theorem wrap_u (n : Int) (h0 : 0 ≤ n) (h1 : n < 1000000000) : IntKind.u64.wrap n = n := by
  have e : ∀ x : Int, IntKind.u64.wrap x = x % 18446744073709551616 := fun x => by first | rfl | (simp [IntKind.wrap]; done) | (unfold IntKind.wrap; simp; done)
  rw [e]
  omega

end Go.Proofs.Ytfhopjigdkjnoaa.GA
