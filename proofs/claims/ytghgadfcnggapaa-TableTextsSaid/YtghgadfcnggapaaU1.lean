/- Rows of things. No condition. -/
import Derived.Test.YtghgadfcnggapaaGAx1
import Derived.Laws.CopyOwn
import Derived.Laws.CopyRow
import Derived.ChangeKeysEq
import Derived.Deep.RegionHeld3
import Derived.Deep.MidRow
import Derived.Shelf.Abstract
import Derived.Lib.Overlaps
import Derived.Lib.AppendZerosOnto
import Derived.Shelf.Spec.SlicesInsertGrow
namespace Go.Proofs.Ytghgadfcnggapaa.GA.U
open Go.RowKit Go.Shelf Go.Proofs.YtghgadfcnggapaaW.PrintWords Go.Proofs.YtghgadfcnggapaaW.PrintLast Go.Proofs.YtghgadfcnggapaaW.PrintMore
set_option linter.unusedVariables false
set_option linter.unusedSimpArgs false

/-- copy between rows whose elements have sz cells -/
theorem run_copy_rows {P : Program} (w : World) (dT sT ty elem : TypeId) (g o dLen dCap : Nat) (a : Addr) (sLen sCap : Nat) (cur : Array Value) (t : TypeId) (cs : List Value) (sz : Nat)
    (hu : P.underlying dT = some (.slice elem)) (hs : (P.info? elem).map (·.size) = some sz)
    (hg : w.heap[g]? = some (.cells cur t (0, 0))) (hn : cs.length = Nat.min sLen dLen * sz)
    (hsrc : ∀ j v, cs[j]? = some v → w.cell? (a.add j) = some v) (hfit : o + cs.length ≤ cur.size) (h1 : ∀ v ∈ cs, v.oneCell' = true) :
    (Builtin.copy_ #[dT, sT] ty #[.slice (some ⟨g, o, none⟩) dLen dCap, .slice (some a) sLen sCap]).run P w =
      .ok (goInt (Nat.min sLen dLen)) (w.setRow g (cur.toList.take o ++ cs ++ cur.toList.drop (o + cs.length)).toArray) := by
  have hl := run_loadCells_list (P := P) w a cs hsrc
  have hst := run_storeCells_at P g o t cs 0 cur w hg (by simpa using hfit) h1
  cases hq : P.info? elem with
  | none => simp [hq] at hs
  | some i =>
    have hi : i.size = sz := by simpa [hq] using hs
    rw [hn] at hl
    simp [Builtin.copy_, run_underlying hu, Builtin.lenOf, Builtin.firstCells, sizeOf, typeInfo, hq, hi, hl, hst]
def flat (xs : List S56) : List Value := xs.flatMap fun x => [.string x.f0, .int .i64 x.f1]
theorem flat_nil : flat [] = [] := rfl
theorem flat_cons (x : S56) (xs : List S56) : flat (x :: xs) = .string x.f0 :: .int .i64 x.f1 :: flat xs := rfl
theorem flat_app (a b : List S56) : flat (a ++ b) = flat a ++ flat b := by simp [flat]
theorem flat_len : ∀ xs : List S56, (flat xs).length = xs.length * 2
  | [] => rfl
  | x :: r => by rw [flat_cons, List.length_cons, List.length_cons, flat_len r, List.length_cons]; omega
theorem flat_take : ∀ (xs : List S56) (i : Nat), (flat xs).take (i * 2) = flat (xs.take i)
  | [], i => by simp [flat]
  | x :: r, 0 => by simp [flat]
  | x :: r, i + 1 => by rw [flat_cons, show (i + 1) * 2 = i * 2 + 1 + 1 by omega, List.take_succ_cons, List.take_succ_cons, flat_take r i, List.take_succ_cons, flat_cons]
theorem flat_drop : ∀ (xs : List S56) (i : Nat), (flat xs).drop (i * 2) = flat (xs.drop i)
  | [], i => by simp [flat]
  | x :: r, 0 => by simp [flat]
  | x :: r, i + 1 => by rw [flat_cons, show (i + 1) * 2 = i * 2 + 1 + 1 by omega, List.drop_succ_cons, List.drop_succ_cons, flat_drop r i, List.drop_succ_cons]
theorem flat_one : ∀ (xs : List S56), ∀ v ∈ flat xs, v.oneCell' = true
  | [], v, h => by cases h
  | x :: r, v, h => by
    rw [flat_cons] at h
    rcases List.mem_cons.1 h with rfl | h
    · rfl
    · rcases List.mem_cons.1 h with rfl | h
      · rfl
      · exact flat_one r v h
/-- things in a row of the table's own -/
def TRow (w : World) (B : Nat) (v : Value) (xs : List S56) : Prop := w.ownsRow B 56 2 v xs.length (flat xs)
theorem reps_flat {w : World} {B : Nat} {ok : Nat → Prop} : ∀ {xs : List S56} {cs : List Value}, Reps (k56.M w B ok) 2 xs cs → cs = flat xs
  | [], cs, h => List.eq_nil_of_length_eq_zero (by simpa using h.1)
  | x :: r, cs, h => by
    have h0 := k56_openM (h.2 0 x rfl)
    have hl : cs.length = (r.length + 1) * 2 := h.1
    have hr : Reps (k56.M w B ok) 2 r (cs.drop 2) := ⟨by rw [List.length_drop, hl]; omega, fun j p hj => by
      have := h.2 (j + 1) p hj
      rw [List.drop_drop, show 2 + j * 2 = (j + 1) * 2 by omega]
      exact this⟩
    have e := reps_flat hr
    rw [flat_cons, ← e]
    have h2 : cs.take 2 = [.string x.f0, .int .i64 x.f1] := by simpa using h0
    have := List.take_append_drop 2 cs
    rw [h2] at this
    exact this.symm
theorem flat_reps (w : World) (B : Nat) (ok : Nat → Prop) : ∀ xs : List S56, Reps (k56.M w B ok) 2 xs (flat xs)
  | xs => ⟨flat_len xs, fun j p hj => by
    have hlt := (List.getElem?_eq_some_iff.1 hj).1
    rw [flat_drop, List.drop_eq_getElem_cons hlt, flat_cons, (List.getElem?_eq_some_iff.1 hj).2]
    exact k56_mkM w B ok p⟩
theorem TRow.ofR {w : World} {B : Nat} {ok : Nat → Prop} {v : Value} {xs : List S56} (h : Kd.R k56 56 w B ok v xs) : TRow w B v xs := by
  obtain ⟨_, inner, ho, hr⟩ := h
  obtain rfl := reps_flat hr
  exact ho
theorem TRow.toR {w : World} {B : Nat} {v : Value} {xs : List S56} (h : TRow w B v xs) : Kd.R k56 56 w B (fun _ => True) v xs := ⟨fun _ _ => trivial, _, h, flat_reps _ _ _ xs⟩
/-- a row that is not empty: its block -/
theorem TRow.form {w : World} {B : Nat} {v : Value} {xs : List S56} (h : TRow w B v xs) (hp : 0 < xs.length) : ∃ (g cap : Nat) (cur : Array Value), v = .slice (some ⟨g, 0, none⟩) xs.length cap ∧ B ≤ g ∧ w.heap[g]? = some (.cells cur 56 (0, 0)) ∧ xs.length ≤ cap ∧ cap ≤ maxLen ∧ cur.size = cap * 2 ∧ cur.toList.take (xs.length * 2) = flat xs := by
  obtain ⟨_, ⟨_, h0⟩ | ⟨g, cap, cur, h1, h2, h3, h4, h5, h6, h7⟩⟩ := h
  · omega
  · exact ⟨g, cap, cur, h1, h2, h3, h4, h5, h6, h7⟩
theorem TRow.of {w : World} {B g cap : Nat} {cur : Array Value} {xs : List S56} (hB : B ≤ g) (hh : w.heap[g]? = some (.cells cur 56 (0, 0))) (hn : xs.length ≤ cap) (hm : cap ≤ maxLen) (hs : cur.size = cap * 2) (ht : cur.toList.take (xs.length * 2) = flat xs) : TRow w B (.slice (some ⟨g, 0, none⟩) xs.length cap) xs := ⟨flat_len xs, .inr ⟨g, cap, cur, rfl, hB, hh, hn, hm, hs, ht⟩⟩
theorem TRow.moved {w w' : World} {B : Nat} {v : Value} {xs : List S56} (h : TRow w B v xs) (hk : ∀ k, v.ownBlock = some k → w'.heap[k]? = w.heap[k]?) : TRow w' B v xs := by
  refine ⟨h.1, ?_⟩
  rcases h.2 with h0 | ⟨g, cap, cur, h1, h2, h3, h4⟩
  · exact .inl h0
  · exact .inr ⟨g, cap, cur, h1, h2, (hk g (by rw [h1]; rfl)).trans h3, h4⟩
theorem add_g (g k : Nat) : (⟨g, 0, none⟩ : Addr).add k = ⟨g, k, none⟩ := by
  unfold Addr.add
  split
  · rename_i h; subst h; rfl
  · simp
theorem size56 : (Try.prog.info? 56).map (·.size) = some 2 := by kernel_rfl
theorem info56 : (Try.prog.info? 56).map (fun i => (i.zero, i.size, i.bytes)) = some (some (.agg #[.string ⟨#[]⟩, .int .i64 0]), 2, 24) := by kernel_rfl
theorem cutF (g n c i : Nat) (h : i ≤ n) (hc : i < c) : ∀ W : World, (Instr.slice 51 (.slice (some ⟨g, 0, none⟩) n c) (some (.int .i64 i)) none none).run Try.prog W = .ok (.slice (some ⟨g, i * 2, none⟩) (n - i) (c - i)) W := by
  obtain ⟨i0, hi, hz⟩ := Option.map_eq_some_iff.1 size56
  intro W
  rw [cut_from (P := Try.prog) 51 56 .i64 Try.underlying51 hi 2 hz (some ⟨g, 0, none⟩) n c (i : Int) (by omega) (by omega) W, Int.toNat_natCast, if_neg (by omega)]
  show Result.ok (Value.slice (some ((⟨g, 0, none⟩ : Addr).add (i * 2))) _ _) W = _
  rw [add_g]
theorem cutA (A : Option Addr) (n c i : Nat) (h : i ≤ n) : ∃ u, ∀ W : World, (Instr.slice 51 (.slice A n c) (some (.int .i64 i)) none none).run Try.prog W = .ok u W := by
  obtain ⟨i0, hi, hz⟩ := Option.map_eq_some_iff.1 size56
  exact ⟨_, fun W => cut_from (P := Try.prog) 51 56 .i64 Try.underlying51 hi 2 hz A n c (i : Int) (by omega) (by omega) W⟩
theorem cutT (g n c i : Nat) (h : i ≤ c) : ∀ W : World, (Instr.slice 51 (.slice (some ⟨g, 0, none⟩) n c) none (some (.int .i64 i)) none).run Try.prog W = .ok (.slice (some ⟨g, 0, none⟩) i c) W := by
  obtain ⟨i0, hi, hz⟩ := Option.map_eq_some_iff.1 size56
  intro W
  have hel : Try.prog.elem 51 = 56 := by simp [Program.elem, Try.underlying51]
  have hu : Try.prog.underlying 51 = some (.slice (Try.prog.elem 51)) := by rw [hel]; exact Try.underlying51
  rw [run_slice_h W 51 (some ⟨g, 0, none⟩) n c hu .i64 (i : Int) (by omega) (by omega), hel]
  simp [sizeOf, typeInfo, hi, sliced, Result.andThen, Addr.add]

end Go.Proofs.Ytghgadfcnggapaa.GA.U
