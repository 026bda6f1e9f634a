/- Requests and instances, in rows. No condition. -/
import Derived.Test.YtfhopjigdkjnoaaGAx1
import Derived.Laws.CopyOwn
import Derived.Laws.CopyRow
import Derived.ChangeKeysEq
import Derived.Deep.RegionHeld3
import Derived.Deep.MidRow
import Derived.Shelf.Abstract
import Derived.Maps.OwnSet
import Derived.Maps.AppendAt
import Derived.WalkSpells
namespace Go.Proofs.Ytfhopjigdkjnoaa.GA
open Go.RowKit Go.Shelf Go.Proofs.YtfhopjigdkjnoaaW.PrintWords Go.Proofs.YtfhopjigdkjnoaaW.PrintLast Go.Proofs.YtfhopjigdkjnoaaW.PrintMore
set_option linter.unusedVariables false
set_option linter.unusedSimpArgs false

theorem add_g (g k : Nat) : (⟨g, 0, none⟩ : Addr).add k = ⟨g, k, none⟩ := by
  unfold Addr.add
  split
  · rename_i h; subst h; rfl
  · simp

structure S27 where
  f0 : Int
  f1 : Int
  f2 : Int
  f3 : Bool
  f4 : Int
def z27 : S27 := ⟨0, 0, 0, false, 0⟩
def k27 : Kd S27 := Kd.iso (Kd.pair (Kd.int .u8) (Kd.pair (Kd.int .u64) (Kd.pair (Kd.int .i64) (Kd.pair Kd.bool (Kd.int .u64))))) (fun x : S27 => (x.f0, x.f1, x.f2, x.f3, x.f4))
theorem k27_open {w : World} {x : S27} {cs : List Value} (h : k27.K w x cs) : cs = [.int .u8 x.f0, .int .u64 x.f1, .int .i64 x.f2, .bool x.f3, .int .u64 x.f4] := by
  obtain ⟨_, _, rfl, rfl, ⟨_, _, rfl, rfl, ⟨_, _, rfl, rfl, ⟨_, _, rfl, rfl, rfl⟩⟩⟩⟩ := h
  exact rfl
theorem k27_openM {w : World} {base : Nat} {ok : Nat → Prop} {x : S27} {cs : List Value} (h : k27.M w base ok x cs) : cs = [.int .u8 x.f0, .int .u64 x.f1, .int .i64 x.f2, .bool x.f3, .int .u64 x.f4] := by
  obtain ⟨_, _, rfl, rfl, ⟨_, _, rfl, rfl, ⟨_, _, rfl, rfl, ⟨_, _, rfl, rfl, rfl⟩⟩⟩⟩ := h
  exact rfl
theorem k27_mk (w : World) (x : S27) : k27.K w x [.int .u8 x.f0, .int .u64 x.f1, .int .i64 x.f2, .bool x.f3, .int .u64 x.f4] := ⟨[.int .u8 x.f0], [.int .u64 x.f1, .int .i64 x.f2, .bool x.f3, .int .u64 x.f4], rfl, rfl, ⟨[.int .u64 x.f1], [.int .i64 x.f2, .bool x.f3, .int .u64 x.f4], rfl, rfl, ⟨[.int .i64 x.f2], [.bool x.f3, .int .u64 x.f4], rfl, rfl, ⟨[.bool x.f3], [.int .u64 x.f4], rfl, rfl, rfl⟩⟩⟩⟩
theorem k27_mkM (w : World) (base : Nat) (ok : Nat → Prop) (x : S27) : k27.M w base ok x [.int .u8 x.f0, .int .u64 x.f1, .int .i64 x.f2, .bool x.f3, .int .u64 x.f4] := ⟨[.int .u8 x.f0], [.int .u64 x.f1, .int .i64 x.f2, .bool x.f3, .int .u64 x.f4], rfl, rfl, ⟨[.int .u64 x.f1], [.int .i64 x.f2, .bool x.f3, .int .u64 x.f4], rfl, rfl, ⟨[.int .i64 x.f2], [.bool x.f3, .int .u64 x.f4], rfl, rfl, ⟨[.bool x.f3], [.int .u64 x.f4], rfl, rfl, rfl⟩⟩⟩⟩
def rd_T27 (xs : List S27) (i : Int) : S27 := xs.getD i.toNat z27
theorem at_T27 {w : World} {A : Option Addr} {n : Nat} {xs : List S27} (h : Kd.C k27 w A n xs) (i : Int) (h0 : 0 ≤ i) (h1 : i < n) : ∃ ad, A = some ad ∧ w.cell? (ad.add (i.toNat * 5)) = some (.int .u8 (rd_T27 xs i).f0) ∧ w.cell? ⟨(ad.add (i.toNat * 5)).block, (ad.add (i.toNat * 5)).off + 1, none⟩ = some (.int .u64 (rd_T27 xs i).f1) ∧ w.cell? ⟨(ad.add (i.toNat * 5)).block, (ad.add (i.toNat * 5)).off + 2, none⟩ = some (.int .i64 (rd_T27 xs i).f2) ∧ w.cell? ⟨(ad.add (i.toNat * 5)).block, (ad.add (i.toNat * 5)).off + 3, none⟩ = some (.bool (rd_T27 xs i).f3) ∧ w.cell? ⟨(ad.add (i.toNat * 5)).block, (ad.add (i.toNat * 5)).off + 4, none⟩ = some (.int .u64 (rd_T27 xs i).f4) := by
  obtain ⟨ad, c, e, _, hK, hc0⟩ := Kd.C_get h z27 i h0 h1
  have hc : ∀ j u, c[j]? = some u → w.cell? (ad.add (i.toNat * 5 + j)) = some u := hc0
  obtain rfl := k27_open hK
  exact ⟨ad, e, hc 0 _ rfl, by rw [← add_field _ _ 1 (by omega)]; exact hc 1 _ rfl, by rw [← add_field _ _ 2 (by omega)]; exact hc 2 _ rfl, by rw [← add_field _ _ 3 (by omega)]; exact hc 3 _ rfl, by rw [← add_field _ _ 4 (by omega)]; exact hc 4 _ rfl⟩
def flat27 (xs : List S27) : List Value := xs.flatMap fun x => [.int .u8 x.f0, .int .u64 x.f1, .int .i64 x.f2, .bool x.f3, .int .u64 x.f4]
theorem flat27_nil : flat27 [] = [] := rfl
theorem flat27_cons (x : S27) (xs : List S27) : flat27 (x :: xs) = .int .u8 x.f0 :: .int .u64 x.f1 :: .int .i64 x.f2 :: .bool x.f3 :: .int .u64 x.f4 :: flat27 xs := rfl
theorem flat27_app (a b : List S27) : flat27 (a ++ b) = flat27 a ++ flat27 b := by simp [flat27]
theorem flat27_len : ∀ xs : List S27, (flat27 xs).length = xs.length * 5
  | [] => rfl
  | x :: r => by rw [flat27_cons, List.length_cons, List.length_cons, List.length_cons, List.length_cons, List.length_cons, flat27_len r, List.length_cons]; omega
theorem flat27_take : ∀ (xs : List S27) (i : Nat), (flat27 xs).take (i * 5) = flat27 (xs.take i)
  | [], i => by simp [flat27]
  | x :: r, 0 => by simp [flat27]
  | x :: r, i + 1 => by rw [flat27_cons, show (i + 1) * 5 = i * 5 + 1 + 1 + 1 + 1 + 1 by omega, List.take_succ_cons, List.take_succ_cons, List.take_succ_cons, List.take_succ_cons, List.take_succ_cons, flat27_take r i, List.take_succ_cons, flat27_cons]
theorem flat27_drop : ∀ (xs : List S27) (i : Nat), (flat27 xs).drop (i * 5) = flat27 (xs.drop i)
  | [], i => by simp [flat27]
  | x :: r, 0 => by simp [flat27]
  | x :: r, i + 1 => by rw [flat27_cons, show (i + 1) * 5 = i * 5 + 1 + 1 + 1 + 1 + 1 by omega, List.drop_succ_cons, List.drop_succ_cons, List.drop_succ_cons, List.drop_succ_cons, List.drop_succ_cons, flat27_drop r i, List.drop_succ_cons]
theorem flat27_one : ∀ (xs : List S27), ∀ v ∈ flat27 xs, v.oneCell' = true
  | [], v, h => by cases h
  | x :: r, v, h => by
    rw [flat27_cons] at h
    rcases List.mem_cons.1 h with rfl | h
    · rfl
    · rcases List.mem_cons.1 h with rfl | h
      · rfl
      · rcases List.mem_cons.1 h with rfl | h
        · rfl
        · rcases List.mem_cons.1 h with rfl | h
          · rfl
          · rcases List.mem_cons.1 h with rfl | h
            · rfl
            · exact flat27_one r v h
/-- things in a row of the cloud's own -/
def Row27 (w : World) (B : Nat) (v : Value) (xs : List S27) : Prop := w.ownsRow B 27 5 v xs.length (flat27 xs)
theorem reps27_flat {w : World} {B : Nat} {ok : Nat → Prop} : ∀ {xs : List S27} {cs : List Value}, Reps (k27.M w B ok) 5 xs cs → cs = flat27 xs
  | [], cs, h => List.eq_nil_of_length_eq_zero (by simpa using h.1)
  | x :: r, cs, h => by
    have h0 := k27_openM (h.2 0 x rfl)
    have hl : cs.length = (r.length + 1) * 5 := h.1
    have hr : Reps (k27.M w B ok) 5 r (cs.drop 5) := ⟨by rw [List.length_drop, hl]; omega, fun j p hj => by
      have := h.2 (j + 1) p hj
      rw [List.drop_drop, show 5 + j * 5 = (j + 1) * 5 by omega]
      exact this⟩
    have e := reps27_flat hr
    rw [flat27_cons, ← e]
    have h2 : cs.take 5 = [.int .u8 x.f0, .int .u64 x.f1, .int .i64 x.f2, .bool x.f3, .int .u64 x.f4] := by simpa using h0
    have := List.take_append_drop 5 cs
    rw [h2] at this
    exact this.symm
theorem flat27_reps (w : World) (B : Nat) (ok : Nat → Prop) : ∀ xs : List S27, Reps (k27.M w B ok) 5 xs (flat27 xs)
  | xs => ⟨flat27_len xs, fun j p hj => by
    have hlt := (List.getElem?_eq_some_iff.1 hj).1
    rw [flat27_drop, List.drop_eq_getElem_cons hlt, flat27_cons, (List.getElem?_eq_some_iff.1 hj).2]
    exact k27_mkM w B ok p⟩
theorem Row27.ofR {w : World} {B : Nat} {ok : Nat → Prop} {v : Value} {xs : List S27} (h : Kd.R k27 27 w B ok v xs) : Row27 w B v xs := by
  obtain ⟨_, inner, ho, hr⟩ := h
  obtain rfl := reps27_flat hr
  exact ho
theorem Row27.toR {w : World} {B : Nat} {v : Value} {xs : List S27} (h : Row27 w B v xs) : Kd.R k27 27 w B (fun _ => True) v xs := ⟨fun _ _ => trivial, _, h, flat27_reps _ _ _ xs⟩
theorem Row27.form {w : World} {B : Nat} {v : Value} {xs : List S27} (h : Row27 w B v xs) (hp : 0 < xs.length) : ∃ (g cap : Nat) (cur : Array Value), v = .slice (some ⟨g, 0, none⟩) xs.length cap ∧ B ≤ g ∧ w.heap[g]? = some (.cells cur 27 (0, 0)) ∧ xs.length ≤ cap ∧ cap ≤ maxLen ∧ cur.size = cap * 5 ∧ cur.toList.take (xs.length * 5) = flat27 xs := by
  obtain ⟨_, ⟨_, h0⟩ | ⟨g, cap, cur, h1, h2, h3, h4, h5, h6, h7⟩⟩ := h
  · omega
  · exact ⟨g, cap, cur, h1, h2, h3, h4, h5, h6, h7⟩
theorem Row27.of {w : World} {B g cap : Nat} {cur : Array Value} {xs : List S27} (hB : B ≤ g) (hh : w.heap[g]? = some (.cells cur 27 (0, 0))) (hn : xs.length ≤ cap) (hm : cap ≤ maxLen) (hs : cur.size = cap * 5) (ht : cur.toList.take (xs.length * 5) = flat27 xs) : Row27 w B (.slice (some ⟨g, 0, none⟩) xs.length cap) xs := ⟨flat27_len xs, .inr ⟨g, cap, cur, rfl, hB, hh, hn, hm, hs, ht⟩⟩
theorem Row27.moved {w w' : World} {B : Nat} {v : Value} {xs : List S27} (h : Row27 w B v xs) (hk : ∀ k, v.ownBlock = some k → w'.heap[k]? = w.heap[k]?) : Row27 w' B v xs := by
  refine ⟨h.1, ?_⟩
  rcases h.2 with h0 | ⟨g, cap, cur, h1, h2, h3, h4⟩
  · exact .inl h0
  · exact .inr ⟨g, cap, cur, h1, h2, (hk g (by rw [h1]; rfl)).trans h3, h4⟩
theorem Row27.below {w w' : World} {B : Nat} {v : Value} {xs : List S27} (h : Row27 w B v xs) (hb : Below w.heap.size w w') : Row27 w' B v xs := Row27.ofR (Kd.R_below h.toR hb)
theorem Row27.slice {w : World} {B : Nat} {v : Value} {xs : List S27} (h : Row27 w B v xs) : ∃ A c, v = .slice A xs.length c ∧ xs.length ≤ c ∧ Kd.C k27 w A xs.length xs := Kd.R_reads h.toR
theorem size27 : (Try.prog.info? 27).map (·.size) = some 5 := by kernel_rfl
theorem info27 : (Try.prog.info? 27).map (fun i => (i.zero, i.size, i.bytes)) = some (some (.agg #[.int .u8 0, .int .u64 0, .int .i64 0, .bool false, .int .u64 0]), 5, 40) := by kernel_rfl
theorem zval27 (w : World) : (zeroValue 27).run Try.prog w = .ok (.agg #[.int .u8 0, .int .u64 0, .int .i64 0, .bool false, .int .u64 0]) w := by
  obtain ⟨i0, hi, hz⟩ := Option.map_eq_some_iff.1 info27
  have hz0 : i0.zero = some (.agg #[.int .u8 0, .int .u64 0, .int .i64 0, .bool false, .int .u64 0]) := by injection hz
  simp [zeroValue, typeInfo, hi, hz0]

structure S50 where
  f0 : Int
  f1 : Int
  f2 : Int
  f3 : Int
  f4 : Int
def z50 : S50 := ⟨0, 0, 0, 0, 0⟩
def k50 : Kd S50 := Kd.iso (Kd.pair (Kd.int .u64) (Kd.pair (Kd.int .u64) (Kd.pair (Kd.int .i64) (Kd.pair (Kd.int .u8) (Kd.int .u64))))) (fun x : S50 => (x.f0, x.f1, x.f2, x.f3, x.f4))
theorem k50_open {w : World} {x : S50} {cs : List Value} (h : k50.K w x cs) : cs = [.int .u64 x.f0, .int .u64 x.f1, .int .i64 x.f2, .int .u8 x.f3, .int .u64 x.f4] := by
  obtain ⟨_, _, rfl, rfl, ⟨_, _, rfl, rfl, ⟨_, _, rfl, rfl, ⟨_, _, rfl, rfl, rfl⟩⟩⟩⟩ := h
  exact rfl
theorem k50_openM {w : World} {base : Nat} {ok : Nat → Prop} {x : S50} {cs : List Value} (h : k50.M w base ok x cs) : cs = [.int .u64 x.f0, .int .u64 x.f1, .int .i64 x.f2, .int .u8 x.f3, .int .u64 x.f4] := by
  obtain ⟨_, _, rfl, rfl, ⟨_, _, rfl, rfl, ⟨_, _, rfl, rfl, ⟨_, _, rfl, rfl, rfl⟩⟩⟩⟩ := h
  exact rfl
theorem k50_mk (w : World) (x : S50) : k50.K w x [.int .u64 x.f0, .int .u64 x.f1, .int .i64 x.f2, .int .u8 x.f3, .int .u64 x.f4] := ⟨[.int .u64 x.f0], [.int .u64 x.f1, .int .i64 x.f2, .int .u8 x.f3, .int .u64 x.f4], rfl, rfl, ⟨[.int .u64 x.f1], [.int .i64 x.f2, .int .u8 x.f3, .int .u64 x.f4], rfl, rfl, ⟨[.int .i64 x.f2], [.int .u8 x.f3, .int .u64 x.f4], rfl, rfl, ⟨[.int .u8 x.f3], [.int .u64 x.f4], rfl, rfl, rfl⟩⟩⟩⟩
theorem k50_mkM (w : World) (base : Nat) (ok : Nat → Prop) (x : S50) : k50.M w base ok x [.int .u64 x.f0, .int .u64 x.f1, .int .i64 x.f2, .int .u8 x.f3, .int .u64 x.f4] := ⟨[.int .u64 x.f0], [.int .u64 x.f1, .int .i64 x.f2, .int .u8 x.f3, .int .u64 x.f4], rfl, rfl, ⟨[.int .u64 x.f1], [.int .i64 x.f2, .int .u8 x.f3, .int .u64 x.f4], rfl, rfl, ⟨[.int .i64 x.f2], [.int .u8 x.f3, .int .u64 x.f4], rfl, rfl, ⟨[.int .u8 x.f3], [.int .u64 x.f4], rfl, rfl, rfl⟩⟩⟩⟩
def rd_T50 (xs : List S50) (i : Int) : S50 := xs.getD i.toNat z50
theorem at_T50 {w : World} {A : Option Addr} {n : Nat} {xs : List S50} (h : Kd.C k50 w A n xs) (i : Int) (h0 : 0 ≤ i) (h1 : i < n) : ∃ ad, A = some ad ∧ w.cell? (ad.add (i.toNat * 5)) = some (.int .u64 (rd_T50 xs i).f0) ∧ w.cell? ⟨(ad.add (i.toNat * 5)).block, (ad.add (i.toNat * 5)).off + 1, none⟩ = some (.int .u64 (rd_T50 xs i).f1) ∧ w.cell? ⟨(ad.add (i.toNat * 5)).block, (ad.add (i.toNat * 5)).off + 2, none⟩ = some (.int .i64 (rd_T50 xs i).f2) ∧ w.cell? ⟨(ad.add (i.toNat * 5)).block, (ad.add (i.toNat * 5)).off + 3, none⟩ = some (.int .u8 (rd_T50 xs i).f3) ∧ w.cell? ⟨(ad.add (i.toNat * 5)).block, (ad.add (i.toNat * 5)).off + 4, none⟩ = some (.int .u64 (rd_T50 xs i).f4) := by
  obtain ⟨ad, c, e, _, hK, hc0⟩ := Kd.C_get h z50 i h0 h1
  have hc : ∀ j u, c[j]? = some u → w.cell? (ad.add (i.toNat * 5 + j)) = some u := hc0
  obtain rfl := k50_open hK
  exact ⟨ad, e, hc 0 _ rfl, by rw [← add_field _ _ 1 (by omega)]; exact hc 1 _ rfl, by rw [← add_field _ _ 2 (by omega)]; exact hc 2 _ rfl, by rw [← add_field _ _ 3 (by omega)]; exact hc 3 _ rfl, by rw [← add_field _ _ 4 (by omega)]; exact hc 4 _ rfl⟩
def flat50 (xs : List S50) : List Value := xs.flatMap fun x => [.int .u64 x.f0, .int .u64 x.f1, .int .i64 x.f2, .int .u8 x.f3, .int .u64 x.f4]
theorem flat50_nil : flat50 [] = [] := rfl
theorem flat50_cons (x : S50) (xs : List S50) : flat50 (x :: xs) = .int .u64 x.f0 :: .int .u64 x.f1 :: .int .i64 x.f2 :: .int .u8 x.f3 :: .int .u64 x.f4 :: flat50 xs := rfl
theorem flat50_app (a b : List S50) : flat50 (a ++ b) = flat50 a ++ flat50 b := by simp [flat50]
theorem flat50_len : ∀ xs : List S50, (flat50 xs).length = xs.length * 5
  | [] => rfl
  | x :: r => by rw [flat50_cons, List.length_cons, List.length_cons, List.length_cons, List.length_cons, List.length_cons, flat50_len r, List.length_cons]; omega
theorem flat50_take : ∀ (xs : List S50) (i : Nat), (flat50 xs).take (i * 5) = flat50 (xs.take i)
  | [], i => by simp [flat50]
  | x :: r, 0 => by simp [flat50]
  | x :: r, i + 1 => by rw [flat50_cons, show (i + 1) * 5 = i * 5 + 1 + 1 + 1 + 1 + 1 by omega, List.take_succ_cons, List.take_succ_cons, List.take_succ_cons, List.take_succ_cons, List.take_succ_cons, flat50_take r i, List.take_succ_cons, flat50_cons]
theorem flat50_drop : ∀ (xs : List S50) (i : Nat), (flat50 xs).drop (i * 5) = flat50 (xs.drop i)
  | [], i => by simp [flat50]
  | x :: r, 0 => by simp [flat50]
  | x :: r, i + 1 => by rw [flat50_cons, show (i + 1) * 5 = i * 5 + 1 + 1 + 1 + 1 + 1 by omega, List.drop_succ_cons, List.drop_succ_cons, List.drop_succ_cons, List.drop_succ_cons, List.drop_succ_cons, flat50_drop r i, List.drop_succ_cons]
theorem flat50_one : ∀ (xs : List S50), ∀ v ∈ flat50 xs, v.oneCell' = true
  | [], v, h => by cases h
  | x :: r, v, h => by
    rw [flat50_cons] at h
    rcases List.mem_cons.1 h with rfl | h
    · rfl
    · rcases List.mem_cons.1 h with rfl | h
      · rfl
      · rcases List.mem_cons.1 h with rfl | h
        · rfl
        · rcases List.mem_cons.1 h with rfl | h
          · rfl
          · rcases List.mem_cons.1 h with rfl | h
            · rfl
            · exact flat50_one r v h
/-- things in a row of the cloud's own -/
def Row50 (w : World) (B : Nat) (v : Value) (xs : List S50) : Prop := w.ownsRow B 50 5 v xs.length (flat50 xs)
theorem reps50_flat {w : World} {B : Nat} {ok : Nat → Prop} : ∀ {xs : List S50} {cs : List Value}, Reps (k50.M w B ok) 5 xs cs → cs = flat50 xs
  | [], cs, h => List.eq_nil_of_length_eq_zero (by simpa using h.1)
  | x :: r, cs, h => by
    have h0 := k50_openM (h.2 0 x rfl)
    have hl : cs.length = (r.length + 1) * 5 := h.1
    have hr : Reps (k50.M w B ok) 5 r (cs.drop 5) := ⟨by rw [List.length_drop, hl]; omega, fun j p hj => by
      have := h.2 (j + 1) p hj
      rw [List.drop_drop, show 5 + j * 5 = (j + 1) * 5 by omega]
      exact this⟩
    have e := reps50_flat hr
    rw [flat50_cons, ← e]
    have h2 : cs.take 5 = [.int .u64 x.f0, .int .u64 x.f1, .int .i64 x.f2, .int .u8 x.f3, .int .u64 x.f4] := by simpa using h0
    have := List.take_append_drop 5 cs
    rw [h2] at this
    exact this.symm
theorem flat50_reps (w : World) (B : Nat) (ok : Nat → Prop) : ∀ xs : List S50, Reps (k50.M w B ok) 5 xs (flat50 xs)
  | xs => ⟨flat50_len xs, fun j p hj => by
    have hlt := (List.getElem?_eq_some_iff.1 hj).1
    rw [flat50_drop, List.drop_eq_getElem_cons hlt, flat50_cons, (List.getElem?_eq_some_iff.1 hj).2]
    exact k50_mkM w B ok p⟩
theorem Row50.ofR {w : World} {B : Nat} {ok : Nat → Prop} {v : Value} {xs : List S50} (h : Kd.R k50 50 w B ok v xs) : Row50 w B v xs := by
  obtain ⟨_, inner, ho, hr⟩ := h
  obtain rfl := reps50_flat hr
  exact ho
theorem Row50.toR {w : World} {B : Nat} {v : Value} {xs : List S50} (h : Row50 w B v xs) : Kd.R k50 50 w B (fun _ => True) v xs := ⟨fun _ _ => trivial, _, h, flat50_reps _ _ _ xs⟩
theorem Row50.form {w : World} {B : Nat} {v : Value} {xs : List S50} (h : Row50 w B v xs) (hp : 0 < xs.length) : ∃ (g cap : Nat) (cur : Array Value), v = .slice (some ⟨g, 0, none⟩) xs.length cap ∧ B ≤ g ∧ w.heap[g]? = some (.cells cur 50 (0, 0)) ∧ xs.length ≤ cap ∧ cap ≤ maxLen ∧ cur.size = cap * 5 ∧ cur.toList.take (xs.length * 5) = flat50 xs := by
  obtain ⟨_, ⟨_, h0⟩ | ⟨g, cap, cur, h1, h2, h3, h4, h5, h6, h7⟩⟩ := h
  · omega
  · exact ⟨g, cap, cur, h1, h2, h3, h4, h5, h6, h7⟩
theorem Row50.of {w : World} {B g cap : Nat} {cur : Array Value} {xs : List S50} (hB : B ≤ g) (hh : w.heap[g]? = some (.cells cur 50 (0, 0))) (hn : xs.length ≤ cap) (hm : cap ≤ maxLen) (hs : cur.size = cap * 5) (ht : cur.toList.take (xs.length * 5) = flat50 xs) : Row50 w B (.slice (some ⟨g, 0, none⟩) xs.length cap) xs := ⟨flat50_len xs, .inr ⟨g, cap, cur, rfl, hB, hh, hn, hm, hs, ht⟩⟩
theorem Row50.moved {w w' : World} {B : Nat} {v : Value} {xs : List S50} (h : Row50 w B v xs) (hk : ∀ k, v.ownBlock = some k → w'.heap[k]? = w.heap[k]?) : Row50 w' B v xs := by
  refine ⟨h.1, ?_⟩
  rcases h.2 with h0 | ⟨g, cap, cur, h1, h2, h3, h4⟩
  · exact .inl h0
  · exact .inr ⟨g, cap, cur, h1, h2, (hk g (by rw [h1]; rfl)).trans h3, h4⟩
theorem Row50.below {w w' : World} {B : Nat} {v : Value} {xs : List S50} (h : Row50 w B v xs) (hb : Below w.heap.size w w') : Row50 w' B v xs := Row50.ofR (Kd.R_below h.toR hb)
theorem Row50.slice {w : World} {B : Nat} {v : Value} {xs : List S50} (h : Row50 w B v xs) : ∃ A c, v = .slice A xs.length c ∧ xs.length ≤ c ∧ Kd.C k50 w A xs.length xs := Kd.R_reads h.toR
theorem size50 : (Try.prog.info? 50).map (·.size) = some 5 := by kernel_rfl
theorem info50 : (Try.prog.info? 50).map (fun i => (i.zero, i.size, i.bytes)) = some (some (.agg #[.int .u64 0, .int .u64 0, .int .i64 0, .int .u8 0, .int .u64 0]), 5, 40) := by kernel_rfl
theorem zval50 (w : World) : (zeroValue 50).run Try.prog w = .ok (.agg #[.int .u64 0, .int .u64 0, .int .i64 0, .int .u8 0, .int .u64 0]) w := by
  obtain ⟨i0, hi, hz⟩ := Option.map_eq_some_iff.1 info50
  have hz0 : i0.zero = some (.agg #[.int .u64 0, .int .u64 0, .int .i64 0, .int .u8 0, .int .u64 0]) := by injection hz
  simp [zeroValue, typeInfo, hi, hz0]

end Go.Proofs.Ytfhopjigdkjnoaa.GA
