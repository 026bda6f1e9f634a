/- Rows of things. No condition. -/
import Derived.Test.YtgfekeicgcnjfaaGAx2
import Derived.Laws.CopyOwn
import Derived.Laws.CopyRow
import Derived.ChangeKeysEq
import Derived.Deep.RegionHeld3
import Derived.Deep.MidRow
import Derived.Shelf.Abstract
import Derived.Lib.Overlaps
import Derived.Lib.AppendZerosOnto
import Derived.Shelf.Spec.SlicesInsertGrow
namespace Go.Proofs.Ytgfekeicgcnjfaa.GA
open Go.RowKit Go.Shelf Go.Proofs.YtgfekeicgcnjfaaW.PrintWords Go.Proofs.YtgfekeicgcnjfaaW.PrintLast Go.Proofs.YtgfekeicgcnjfaaW.PrintMore
set_option linter.unusedVariables false
set_option linter.unusedSimpArgs false

/-- copy between rows whose elements have sz cells -/
theorem run_copy_rows {P : Program} (w : World) (dT sT ty elem : TypeId) (g o dLen dCap : Nat) (a : Addr) (sLen sCap : Nat) (cur : Array Value) (t : TypeId) (cs : List Value) (sz : Nat)
    (hu : P.underlying dT = some (.slice elem)) (hs : (P.info? elem).map (·.size) = some sz)
    (hg : w.heap[g]? = some (.cells cur t (0, 0))) (hn : cs.length = Nat.min sLen dLen * sz)
    (hsrc : ∀ j v, cs[j]? = some v → w.cell? (a.add j) = some v) (hfit : o + cs.length ≤ cur.size) (h1 : ∀ v ∈ cs, v.oneCell' = true) :
    (Builtin.copy_ #[dT, sT] ty #[.slice (some ⟨g, o, none⟩) dLen dCap, .slice (some a) sLen sCap]).run P w =
      .ok (goInt (Nat.min sLen dLen)) (w.setRow g (cur.toList.take o ++ cs ++ cur.toList.drop (o + cs.length)).toArray) := by
  have hl := run_loadCells_list (P := P) w a cs hsrc
  have hst := run_storeCells_at P g o t cs 0 cur w hg (by simpa using hfit) h1
  cases hq : P.info? elem with
  | none => simp [hq] at hs
  | some i =>
    have hi : i.size = sz := by simpa [hq] using hs
    rw [hn] at hl
    simp [Builtin.copy_, run_underlying hu, Builtin.lenOf, Builtin.firstCells, sizeOf, typeInfo, hq, hi, hl, hst]
def flat (xs : List S71) : List Value := xs.flatMap fun x => [.string x.f0, .int .u64 x.f1, .int .u64 x.f2]
theorem flat_nil : flat [] = [] := rfl
theorem flat_cons (x : S71) (xs : List S71) : flat (x :: xs) = .string x.f0 :: .int .u64 x.f1 :: .int .u64 x.f2 :: flat xs := rfl
theorem flat_app (a b : List S71) : flat (a ++ b) = flat a ++ flat b := by simp [flat]
theorem flat_len : ∀ xs : List S71, (flat xs).length = xs.length * 3
  | [] => rfl
  | x :: r => by rw [flat_cons, List.length_cons, List.length_cons, List.length_cons, flat_len r, List.length_cons]; omega
theorem flat_take : ∀ (xs : List S71) (i : Nat), (flat xs).take (i * 3) = flat (xs.take i)
  | [], i => by simp [flat]
  | x :: r, 0 => by simp [flat]
  | x :: r, i + 1 => by rw [flat_cons, show (i + 1) * 3 = i * 3 + 1 + 1 + 1 by omega, List.take_succ_cons, List.take_succ_cons, List.take_succ_cons, flat_take r i, List.take_succ_cons, flat_cons]
theorem flat_drop : ∀ (xs : List S71) (i : Nat), (flat xs).drop (i * 3) = flat (xs.drop i)
  | [], i => by simp [flat]
  | x :: r, 0 => by simp [flat]
  | x :: r, i + 1 => by rw [flat_cons, show (i + 1) * 3 = i * 3 + 1 + 1 + 1 by omega, List.drop_succ_cons, List.drop_succ_cons, List.drop_succ_cons, flat_drop r i, List.drop_succ_cons]
theorem flat_one : ∀ (xs : List S71), ∀ v ∈ flat xs, v.oneCell' = true
  | [], v, h => by cases h
  | x :: r, v, h => by
    rw [flat_cons] at h
    rcases List.mem_cons.1 h with rfl | h
    · rfl
    · rcases List.mem_cons.1 h with rfl | h
      · rfl
      · rcases List.mem_cons.1 h with rfl | h
        · rfl
        · exact flat_one r v h
/-- things in a row of the table's own -/
def TRow (w : World) (B : Nat) (v : Value) (xs : List S71) : Prop := w.ownsRow B 71 3 v xs.length (flat xs)
theorem reps_flat {w : World} {B : Nat} {ok : Nat → Prop} : ∀ {xs : List S71} {cs : List Value}, Reps (k71.M w B ok) 3 xs cs → cs = flat xs
  | [], cs, h => List.eq_nil_of_length_eq_zero (by simpa using h.1)
  | x :: r, cs, h => by
    have h0 := k71_openM (h.2 0 x rfl)
    have hl : cs.length = (r.length + 1) * 3 := h.1
    have hr : Reps (k71.M w B ok) 3 r (cs.drop 3) := ⟨by rw [List.length_drop, hl]; omega, fun j p hj => by
      have := h.2 (j + 1) p hj
      rw [List.drop_drop, show 3 + j * 3 = (j + 1) * 3 by omega]
      exact this⟩
    have e := reps_flat hr
    rw [flat_cons, ← e]
    have h2 : cs.take 3 = [.string x.f0, .int .u64 x.f1, .int .u64 x.f2] := by simpa using h0
    have := List.take_append_drop 3 cs
    rw [h2] at this
    exact this.symm
theorem flat_reps (w : World) (B : Nat) (ok : Nat → Prop) : ∀ xs : List S71, Reps (k71.M w B ok) 3 xs (flat xs)
  | xs => ⟨flat_len xs, fun j p hj => by
    have hlt := (List.getElem?_eq_some_iff.1 hj).1
    rw [flat_drop, List.drop_eq_getElem_cons hlt, flat_cons, (List.getElem?_eq_some_iff.1 hj).2]
    exact k71_mkM w B ok p⟩
theorem TRow.ofR {w : World} {B : Nat} {ok : Nat → Prop} {v : Value} {xs : List S71} (h : Kd.R k71 71 w B ok v xs) : TRow w B v xs := by
  obtain ⟨_, inner, ho, hr⟩ := h
  obtain rfl := reps_flat hr
  exact ho
theorem TRow.toR {w : World} {B : Nat} {v : Value} {xs : List S71} (h : TRow w B v xs) : Kd.R k71 71 w B (fun _ => True) v xs := ⟨fun _ _ => trivial, _, h, flat_reps _ _ _ xs⟩
/-- a row that is not empty: its block -/
theorem TRow.form {w : World} {B : Nat} {v : Value} {xs : List S71} (h : TRow w B v xs) (hp : 0 < xs.length) : ∃ (g cap : Nat) (cur : Array Value), v = .slice (some ⟨g, 0, none⟩) xs.length cap ∧ B ≤ g ∧ w.heap[g]? = some (.cells cur 71 (0, 0)) ∧ xs.length ≤ cap ∧ cap ≤ maxLen ∧ cur.size = cap * 3 ∧ cur.toList.take (xs.length * 3) = flat xs := by
  obtain ⟨_, ⟨_, h0⟩ | ⟨g, cap, cur, h1, h2, h3, h4, h5, h6, h7⟩⟩ := h
  · omega
  · exact ⟨g, cap, cur, h1, h2, h3, h4, h5, h6, h7⟩
theorem TRow.of {w : World} {B g cap : Nat} {cur : Array Value} {xs : List S71} (hB : B ≤ g) (hh : w.heap[g]? = some (.cells cur 71 (0, 0))) (hn : xs.length ≤ cap) (hm : cap ≤ maxLen) (hs : cur.size = cap * 3) (ht : cur.toList.take (xs.length * 3) = flat xs) : TRow w B (.slice (some ⟨g, 0, none⟩) xs.length cap) xs := ⟨flat_len xs, .inr ⟨g, cap, cur, rfl, hB, hh, hn, hm, hs, ht⟩⟩
theorem TRow.moved {w w' : World} {B : Nat} {v : Value} {xs : List S71} (h : TRow w B v xs) (hk : ∀ k, v.ownBlock = some k → w'.heap[k]? = w.heap[k]?) : TRow w' B v xs := by
  refine ⟨h.1, ?_⟩
  rcases h.2 with h0 | ⟨g, cap, cur, h1, h2, h3, h4⟩
  · exact .inl h0
  · exact .inr ⟨g, cap, cur, h1, h2, (hk g (by rw [h1]; rfl)).trans h3, h4⟩
theorem add_g (g k : Nat) : (⟨g, 0, none⟩ : Addr).add k = ⟨g, k, none⟩ := by
  unfold Addr.add
  split
  · rename_i h; subst h; rfl
  · simp
theorem size71 : (Try.prog.info? 71).map (·.size) = some 3 := by kernel_rfl
theorem info71 : (Try.prog.info? 71).map (fun i => (i.zero, i.size, i.bytes)) = some (some (.agg #[.string ⟨#[]⟩, .int .u64 0, .int .u64 0]), 3, 32) := by kernel_rfl
theorem cutF (g n c i : Nat) (h : i ≤ n) (hc : i < c) : ∀ W : World, (Instr.slice 53 (.slice (some ⟨g, 0, none⟩) n c) (some (.int .i64 i)) none none).run Try.prog W = .ok (.slice (some ⟨g, i * 3, none⟩) (n - i) (c - i)) W := by
  obtain ⟨i0, hi, hz⟩ := Option.map_eq_some_iff.1 size71
  intro W
  rw [cut_from (P := Try.prog) 53 71 .i64 Try.underlying53 hi 3 hz (some ⟨g, 0, none⟩) n c (i : Int) (by omega) (by omega) W, Int.toNat_natCast, if_neg (by omega)]
  show Result.ok (Value.slice (some ((⟨g, 0, none⟩ : Addr).add (i * 3))) _ _) W = _
  rw [add_g]
theorem cutA (A : Option Addr) (n c i : Nat) (h : i ≤ n) : ∃ u, ∀ W : World, (Instr.slice 53 (.slice A n c) (some (.int .i64 i)) none none).run Try.prog W = .ok u W := by
  obtain ⟨i0, hi, hz⟩ := Option.map_eq_some_iff.1 size71
  exact ⟨_, fun W => cut_from (P := Try.prog) 53 71 .i64 Try.underlying53 hi 3 hz A n c (i : Int) (by omega) (by omega) W⟩
theorem cutT (g n c i : Nat) (h : i ≤ c) : ∀ W : World, (Instr.slice 53 (.slice (some ⟨g, 0, none⟩) n c) none (some (.int .i64 i)) none).run Try.prog W = .ok (.slice (some ⟨g, 0, none⟩) i c) W := by
  obtain ⟨i0, hi, hz⟩ := Option.map_eq_some_iff.1 size71
  intro W
  have hel : Try.prog.elem 53 = 71 := by simp [Program.elem, Try.underlying53]
  have hu : Try.prog.underlying 53 = some (.slice (Try.prog.elem 53)) := by rw [hel]; exact Try.underlying53
  rw [run_slice_h W 53 (some ⟨g, 0, none⟩) n c hu .i64 (i : Int) (by omega) (by omega), hel]
  simp [sizeOf, typeInfo, hi, sliced, Result.andThen, Addr.add]

end Go.Proofs.Ytgfekeicgcnjfaa.GA
