/- Waits, Grants, Tell. No condition. -/
import Derived.Test.YtfhopjigdkjnoaaK26
import Derived.Laws.CopyOwn
import Derived.Laws.CopyRow
import Derived.ChangeKeysEq
import Derived.Deep.RegionHeld3
import Derived.Deep.MidRow
import Derived.Shelf.Abstract
import Derived.Maps.OwnSet
import Derived.Maps.AppendAt
import Derived.WalkSpells
namespace Go.Proofs.Ytfhopjigdkjnoaa.GA
open Go.RowKit Go.Shelf Go.Proofs.YtfhopjigdkjnoaaW.PrintWords Go.Proofs.YtfhopjigdkjnoaaW.PrintLast Go.Proofs.YtfhopjigdkjnoaaW.PrintMore
set_option linter.unusedVariables false
set_option linter.unusedSimpArgs false

structure S76 where
  f0 : Int
  f1 : Int
  f2 : Int
def z76 : S76 := ⟨0, 0, 0⟩
def k76 : Kd S76 := Kd.iso (Kd.pair (Kd.int .u64) (Kd.pair (Kd.int .u64) (Kd.int .u8))) (fun x : S76 => (x.f0, x.f1, x.f2))
theorem k76_open {w : World} {x : S76} {cs : List Value} (h : k76.K w x cs) : cs = [.int .u64 x.f0, .int .u64 x.f1, .int .u8 x.f2] := by
  obtain ⟨_, _, rfl, rfl, ⟨_, _, rfl, rfl, rfl⟩⟩ := h
  exact rfl
theorem k76_openM {w : World} {base : Nat} {ok : Nat → Prop} {x : S76} {cs : List Value} (h : k76.M w base ok x cs) : cs = [.int .u64 x.f0, .int .u64 x.f1, .int .u8 x.f2] := by
  obtain ⟨_, _, rfl, rfl, ⟨_, _, rfl, rfl, rfl⟩⟩ := h
  exact rfl
theorem k76_mk (w : World) (x : S76) : k76.K w x [.int .u64 x.f0, .int .u64 x.f1, .int .u8 x.f2] := ⟨[.int .u64 x.f0], [.int .u64 x.f1, .int .u8 x.f2], rfl, rfl, ⟨[.int .u64 x.f1], [.int .u8 x.f2], rfl, rfl, rfl⟩⟩
theorem k76_mkM (w : World) (base : Nat) (ok : Nat → Prop) (x : S76) : k76.M w base ok x [.int .u64 x.f0, .int .u64 x.f1, .int .u8 x.f2] := ⟨[.int .u64 x.f0], [.int .u64 x.f1, .int .u8 x.f2], rfl, rfl, ⟨[.int .u64 x.f1], [.int .u8 x.f2], rfl, rfl, rfl⟩⟩
def rd_T76 (xs : List S76) (i : Int) : S76 := xs.getD i.toNat z76
theorem at_T76 {w : World} {A : Option Addr} {n : Nat} {xs : List S76} (h : Kd.C k76 w A n xs) (i : Int) (h0 : 0 ≤ i) (h1 : i < n) : ∃ ad, A = some ad ∧ w.cell? (ad.add (i.toNat * 3)) = some (.int .u64 (rd_T76 xs i).f0) ∧ w.cell? ⟨(ad.add (i.toNat * 3)).block, (ad.add (i.toNat * 3)).off + 1, none⟩ = some (.int .u64 (rd_T76 xs i).f1) ∧ w.cell? ⟨(ad.add (i.toNat * 3)).block, (ad.add (i.toNat * 3)).off + 2, none⟩ = some (.int .u8 (rd_T76 xs i).f2) := by
  obtain ⟨ad, c, e, _, hK, hc0⟩ := Kd.C_get h z76 i h0 h1
  have hc : ∀ j u, c[j]? = some u → w.cell? (ad.add (i.toNat * 3 + j)) = some u := hc0
  obtain rfl := k76_open hK
  exact ⟨ad, e, hc 0 _ rfl, by rw [← add_field _ _ 1 (by omega)]; exact hc 1 _ rfl, by rw [← add_field _ _ 2 (by omega)]; exact hc 2 _ rfl⟩
def flat76 (xs : List S76) : List Value := xs.flatMap fun x => [.int .u64 x.f0, .int .u64 x.f1, .int .u8 x.f2]
theorem flat76_nil : flat76 [] = [] := rfl
theorem flat76_cons (x : S76) (xs : List S76) : flat76 (x :: xs) = .int .u64 x.f0 :: .int .u64 x.f1 :: .int .u8 x.f2 :: flat76 xs := rfl
theorem flat76_app (a b : List S76) : flat76 (a ++ b) = flat76 a ++ flat76 b := by simp [flat76]
theorem flat76_len : ∀ xs : List S76, (flat76 xs).length = xs.length * 3
  | [] => rfl
  | x :: r => by rw [flat76_cons, List.length_cons, List.length_cons, List.length_cons, flat76_len r, List.length_cons]; omega
theorem flat76_take : ∀ (xs : List S76) (i : Nat), (flat76 xs).take (i * 3) = flat76 (xs.take i)
  | [], i => by simp [flat76]
  | x :: r, 0 => by simp [flat76]
  | x :: r, i + 1 => by rw [flat76_cons, show (i + 1) * 3 = i * 3 + 1 + 1 + 1 by omega, List.take_succ_cons, List.take_succ_cons, List.take_succ_cons, flat76_take r i, List.take_succ_cons, flat76_cons]
theorem flat76_drop : ∀ (xs : List S76) (i : Nat), (flat76 xs).drop (i * 3) = flat76 (xs.drop i)
  | [], i => by simp [flat76]
  | x :: r, 0 => by simp [flat76]
  | x :: r, i + 1 => by rw [flat76_cons, show (i + 1) * 3 = i * 3 + 1 + 1 + 1 by omega, List.drop_succ_cons, List.drop_succ_cons, List.drop_succ_cons, flat76_drop r i, List.drop_succ_cons]
theorem flat76_one : ∀ (xs : List S76), ∀ v ∈ flat76 xs, v.oneCell' = true
  | [], v, h => by cases h
  | x :: r, v, h => by
    rw [flat76_cons] at h
    rcases List.mem_cons.1 h with rfl | h
    · rfl
    · rcases List.mem_cons.1 h with rfl | h
      · rfl
      · rcases List.mem_cons.1 h with rfl | h
        · rfl
        · exact flat76_one r v h
/-- things that are told, in a row of the call's own -/
def Row76 (w : World) (B : Nat) (v : Value) (xs : List S76) : Prop := w.ownsRow B 76 3 v xs.length (flat76 xs)
theorem reps76_flat {w : World} {B : Nat} {ok : Nat → Prop} : ∀ {xs : List S76} {cs : List Value}, Reps (k76.M w B ok) 3 xs cs → cs = flat76 xs
  | [], cs, h => List.eq_nil_of_length_eq_zero (by simpa using h.1)
  | x :: r, cs, h => by
    have h0 := k76_openM (h.2 0 x rfl)
    have hl : cs.length = (r.length + 1) * 3 := h.1
    have hr : Reps (k76.M w B ok) 3 r (cs.drop 3) := ⟨by rw [List.length_drop, hl]; omega, fun j p hj => by
      have := h.2 (j + 1) p hj
      rw [List.drop_drop, show 3 + j * 3 = (j + 1) * 3 by omega]
      exact this⟩
    have e := reps76_flat hr
    rw [flat76_cons, ← e]
    have h2 : cs.take 3 = [.int .u64 x.f0, .int .u64 x.f1, .int .u8 x.f2] := by simpa using h0
    have := List.take_append_drop 3 cs
    rw [h2] at this
    exact this.symm
theorem flat76_reps (w : World) (B : Nat) (ok : Nat → Prop) : ∀ xs : List S76, Reps (k76.M w B ok) 3 xs (flat76 xs)
  | xs => ⟨flat76_len xs, fun j p hj => by
    have hlt := (List.getElem?_eq_some_iff.1 hj).1
    rw [flat76_drop, List.drop_eq_getElem_cons hlt, flat76_cons, (List.getElem?_eq_some_iff.1 hj).2]
    exact k76_mkM w B ok p⟩
theorem Row76.ofR {w : World} {B : Nat} {ok : Nat → Prop} {v : Value} {xs : List S76} (h : Kd.R k76 76 w B ok v xs) : Row76 w B v xs := by
  obtain ⟨_, inner, ho, hr⟩ := h
  obtain rfl := reps76_flat hr
  exact ho
theorem Row76.toR {w : World} {B : Nat} {v : Value} {xs : List S76} (h : Row76 w B v xs) : Kd.R k76 76 w B (fun _ => True) v xs := ⟨fun _ _ => trivial, _, h, flat76_reps _ _ _ xs⟩
theorem Row76.form {w : World} {B : Nat} {v : Value} {xs : List S76} (h : Row76 w B v xs) (hp : 0 < xs.length) : ∃ (g cap : Nat) (cur : Array Value), v = .slice (some ⟨g, 0, none⟩) xs.length cap ∧ B ≤ g ∧ w.heap[g]? = some (.cells cur 76 (0, 0)) ∧ xs.length ≤ cap ∧ cap ≤ maxLen ∧ cur.size = cap * 3 ∧ cur.toList.take (xs.length * 3) = flat76 xs := by
  obtain ⟨_, ⟨_, h0⟩ | ⟨g, cap, cur, h1, h2, h3, h4, h5, h6, h7⟩⟩ := h
  · omega
  · exact ⟨g, cap, cur, h1, h2, h3, h4, h5, h6, h7⟩
theorem Row76.of {w : World} {B g cap : Nat} {cur : Array Value} {xs : List S76} (hB : B ≤ g) (hh : w.heap[g]? = some (.cells cur 76 (0, 0))) (hn : xs.length ≤ cap) (hm : cap ≤ maxLen) (hs : cur.size = cap * 3) (ht : cur.toList.take (xs.length * 3) = flat76 xs) : Row76 w B (.slice (some ⟨g, 0, none⟩) xs.length cap) xs := ⟨flat76_len xs, .inr ⟨g, cap, cur, rfl, hB, hh, hn, hm, hs, ht⟩⟩
theorem Row76.moved {w w' : World} {B : Nat} {v : Value} {xs : List S76} (h : Row76 w B v xs) (hk : ∀ k, v.ownBlock = some k → w'.heap[k]? = w.heap[k]?) : Row76 w' B v xs := by
  refine ⟨h.1, ?_⟩
  rcases h.2 with h0 | ⟨g, cap, cur, h1, h2, h3, h4⟩
  · exact .inl h0
  · exact .inr ⟨g, cap, cur, h1, h2, (hk g (by rw [h1]; rfl)).trans h3, h4⟩
theorem Row76.below {w w' : World} {B : Nat} {v : Value} {xs : List S76} (h : Row76 w B v xs) (hb : Below w.heap.size w w') : Row76 w' B v xs := Row76.ofR (Kd.R_below h.toR hb)
theorem Row76.slice {w : World} {B : Nat} {v : Value} {xs : List S76} (h : Row76 w B v xs) : ∃ A c, v = .slice A xs.length c ∧ xs.length ≤ c ∧ Kd.C k76 w A xs.length xs := Kd.R_reads h.toR
theorem size76 : (Try.prog.info? 76).map (·.size) = some 3 := by kernel_rfl
theorem info76 : (Try.prog.info? 76).map (fun i => (i.zero, i.size, i.bytes)) = some (some (.agg #[.int .u64 0, .int .u64 0, .int .u8 0]), 3, 24) := by kernel_rfl
theorem zval76 (w : World) : (zeroValue 76).run Try.prog w = .ok (.agg #[.int .u64 0, .int .u64 0, .int .u8 0]) w := by
  obtain ⟨i0, hi, hz⟩ := Option.map_eq_some_iff.1 info76
  have hz0 : i0.zero = some (.agg #[.int .u64 0, .int .u64 0, .int .u8 0]) := by injection hz
  simp [zeroValue, typeInfo, hi, hz0]

theorem Row27.base {w : World} {B B' : Nat} {v : Value} {xs : List S27} (h : Row27 w B v xs) (hb : B' ≤ B) : Row27 w B' v xs := by
  refine ⟨h.1, ?_⟩
  rcases h.2 with h0 | ⟨g, cap, cur, h1, h2, h3⟩
  · exact .inl h0
  · exact .inr ⟨g, cap, cur, h1, Nat.le_trans hb h2, h3⟩
theorem Row50.base {w : World} {B B' : Nat} {v : Value} {xs : List S50} (h : Row50 w B v xs) (hb : B' ≤ B) : Row50 w B' v xs := by
  refine ⟨h.1, ?_⟩
  rcases h.2 with h0 | ⟨g, cap, cur, h1, h2, h3⟩
  · exact .inl h0
  · exact .inr ⟨g, cap, cur, h1, Nat.le_trans hb h2, h3⟩
theorem Row76.base {w : World} {B B' : Nat} {v : Value} {xs : List S76} (h : Row76 w B v xs) (hb : B' ≤ B) : Row76 w B' v xs := by
  refine ⟨h.1, ?_⟩
  rcases h.2 with h0 | ⟨g, cap, cur, h1, h2, h3⟩
  · exact .inl h0
  · exact .inr ⟨g, cap, cur, h1, Nat.le_trans hb h2, h3⟩

set_option maxHeartbeats 8000000 in
set_option maxRecDepth 100000 in
theorem Waits.calls (w : World) (gc mb B : Nat) (vl vw : Value) (s : CS) (hC : Cl w gc mb B vl vw s) (hn : s.W.length ≤ 1000000) : Calls Try.prog 9 #[.pointer (some ⟨gc, 0, none⟩)] w fun e w' => ∃ v, e = .returned v ∧ Row27 w' w.heap.size v s.W ∧ Below w.heap.size w w' := by
  have HC := Aside0.mk hC
  have HB := Aside0.mk (Below.refl w.heap.size w)
  clear hC
  go_enter Try.func9, Try.ntmps9
  go_upto_region 3 with (go_at_call 15; with_reducible refine (none_.calls _ gc mb B vl vw s (HC.out.below (by repeat (first | (with_reducible first | exact HB.out | apply below_alloc | apply pw_below_drewN | apply below_drew1) | exact HB.out)))).mono ?_; rintro e w1 ⟨rfl, hb⟩; have n0_ := Aside0.mk (below_step (by repeat (first | (with_reducible first | exact HB.out | apply below_alloc | apply pw_below_drewN | apply below_drew1) | exact HB.out)) hb); clear HB; have HB := n0_; clear n0_ hb)
  have HS := Aside0.mk (show w.heap.size ≤ w1.heap.size from HB.out.size)
  have HC1 := Aside0.mk (HC.out.below HB.out)
  have c0 : w1.cell? ⟨gc, 0, none⟩ = some vl := HC1.out.c0
  have c1 : w1.cell? ⟨gc, 1, none⟩ = some vw := HC1.out.c1
  go_wp2_with (go_at_call 24; with_reducible refine (CloneW.calls B vw s.W _ HC1.out.rowW hn).mono ?_; rintro e w2 ⟨v2, rfl, hr, hb⟩; have HR := Aside0.mk hr; clear hr; have n1_ := Aside0.mk (below_step HB.out hb); have H1 := Aside0.mk hb; clear HB; have HB := n1_; clear n1_ hb)
  go_ret
  have hs : w.heap.size ≤ w1.heap.size := HS.out
  exact ⟨v2, rfl, Row27.base HR.out hs, HB.out⟩

set_option maxHeartbeats 8000000 in
set_option maxRecDepth 100000 in
theorem Grants.calls (w : World) (gc mb B : Nat) (vl vw : Value) (s : CS) (hC : Cl w gc mb B vl vw s) (hn : s.L.length ≤ 1000000) : Calls Try.prog 12 #[.pointer (some ⟨gc, 0, none⟩)] w fun e w' => ∃ v, e = .returned v ∧ Row50 w' w.heap.size v s.L ∧ Below w.heap.size w w' := by
  have HC := Aside0.mk hC
  have HB := Aside0.mk (Below.refl w.heap.size w)
  clear hC
  go_enter Try.func12, Try.ntmps12
  go_upto_region 3 with (go_at_call 15; with_reducible refine (none_.calls _ gc mb B vl vw s (HC.out.below (by repeat (first | (with_reducible first | exact HB.out | apply below_alloc | apply pw_below_drewN | apply below_drew1) | exact HB.out)))).mono ?_; rintro e w1 ⟨rfl, hb⟩; have n0_ := Aside0.mk (below_step (by repeat (first | (with_reducible first | exact HB.out | apply below_alloc | apply pw_below_drewN | apply below_drew1) | exact HB.out)) hb); clear HB; have HB := n0_; clear n0_ hb)
  have HS := Aside0.mk (show w.heap.size ≤ w1.heap.size from HB.out.size)
  have HC1 := Aside0.mk (HC.out.below HB.out)
  have c0 : w1.cell? ⟨gc, 0, none⟩ = some vl := HC1.out.c0
  have c1 : w1.cell? ⟨gc, 1, none⟩ = some vw := HC1.out.c1
  go_wp2_with (go_at_call 25; with_reducible refine (CloneL.calls B vl s.L _ HC1.out.rowL hn).mono ?_; rintro e w2 ⟨v2, rfl, hr, hb⟩; have HR := Aside0.mk hr; clear hr; have n1_ := Aside0.mk (below_step HB.out hb); have H1 := Aside0.mk hb; clear HB; have HB := n1_; clear n1_ hb)
  go_ret
  have hs : w.heap.size ≤ w1.heap.size := HS.out
  exact ⟨v2, rfl, Row50.base HR.out hs, HB.out⟩

def toldOf (g : S50) : S76 := ⟨g.f0, g.f1, g.f3⟩
def told (L : List S50) : List S76 := (L.filter (fun g => !(g.f3 == 4))).map toldOf
theorem told_cells (w : World) (base : Nat) (ok : Nat → Prop) (g : S50) : k76.M w base ok (toldOf g) [.int .u64 g.f0, .int .u64 g.f1, .int .u8 g.f3] := k76_mkM w base ok (toldOf g)
theorem told_snoc (L : List S50) (k : Nat) (hk : k < L.length) : told (L.take (k + 1)) = if (rd_T50 L (k : Int)).f3 = 4 then told (L.take k) else told (L.take k) ++ [toldOf (rd_T50 L (k : Int))] := by
  have e : rd_T50 L (k : Int) = L[k] := by unfold rd_T50; rw [Int.toNat_natCast, List.getD_eq_getElem?_getD, List.getElem?_eq_getElem hk]; rfl
  rw [e, told, told, List.take_add_one, List.getElem?_eq_getElem hk]
  generalize L.take k = T
  generalize L[k] = x
  by_cases h : x.f3 = 4
  · rw [if_pos h]; simp [h]
  · rw [if_neg h]; simp [h]
theorem told_le (L : List S50) (k : Nat) : (told (L.take k)).length ≤ k := by
  unfold told
  rw [List.length_map]
  exact Nat.le_trans (List.length_filter_le _ _) (by rw [List.length_take]; omega)

set_option maxHeartbeats 8000000 in
set_option maxRecDepth 100000 in
theorem Tell.calls (w : World) (gc mb B : Nat) (vl vw : Value) (s : CS) (hC : Cl w gc mb B vl vw s) (hn : s.L.length ≤ 1000000) : Calls Try.prog 13 #[.pointer (some ⟨gc, 0, none⟩)] w fun e w' => ∃ v, e = .returned v ∧ Row76 w' w.heap.size v (told s.L) ∧ Below w.heap.size w w' := by
  have HC := Aside0.mk hC
  have HB := Aside0.mk (Below.refl w.heap.size w)
  clear hC
  go_enter Try.func13, Try.ntmps13
  go_wp2_with (go_at_call 12; with_reducible refine (Grants.calls _ gc mb B vl vw s (HC.out.below (by repeat (first | (with_reducible first | exact HB.out | apply below_alloc | apply pw_below_drewN | apply below_drew1) | exact HB.out))) hn).mono ?_; rintro e w1 ⟨v1, rfl, hr, hb⟩; obtain ⟨A, c, e1, hc1, hK⟩ := hr.slice; subst e1; have HK := Aside0.mk hK; clear hr hK; have n0_ := Aside0.mk (below_step (by repeat (first | (with_reducible first | exact HB.out | apply below_alloc | apply pw_below_drewN | apply below_drew1) | exact HB.out)) hb); clear HB; have HB := n0_; clear n0_ hb)
  have W1 := Aside0.mk (Below.refl w1.heap.size w1)
  have HS : w.heap.size ≤ w1.heap.size := HB.out.size
  go_loopw [3, 9] (fun v3 v9 w' => ∃ k : Nat, k ≤ s.L.length ∧ v9 = .int .i64 k ∧ Aside0 (Row76 w' w1.heap.size v3 (told (s.L.take k))) ∧ Aside0 (Below w1.heap.size w1 w')) (fun _ v9 _ => s.L.length - (intOf v9).toNat)
  case atStart => exact ⟨0, Nat.zero_le _, rfl, ⟨by rw [List.take_zero]; exact ⟨rfl, .inl ⟨rfl, rfl⟩⟩⟩, W1⟩
  case round =>
    clear W1
    obtain ⟨k, hk, rfl, HO, W1⟩ := hrel
    by_cases hlt : k < s.L.length
    · have i1 : (0 : Int) ≤ (k : Int) := by omega
      have i2 : (k : Int) < (s.L.length : Int) := by omega
      obtain ⟨ad, e, x0, x1, x2, x3, x4⟩ := at_T50 (Kd.C_below HK.out W1.out) (k : Int) (by omega) (by omega)
      cases e
      simp only [Int.toNat_natCast] at x0 x1 x2 x3 x4
      have TS := Aside0.mk (told_snoc s.L k hlt)
      have HLL : Aside0 (((told (s.L.take k)).length + 1) * 24 ≤ 140737488355328) := ⟨by have := told_le s.L k; omega⟩
      by_cases h4 : (rd_T50 s.L (k : Int)).f3 = 4
      · have z4 : ((rd_T50 s.L (k : Int)).f3 == 4) = true := beq_iff_eq.2 h4
        have H4 := Aside0.mk h4
        clear h4
        go_wp2
        go_roundw
        case rel => exact ⟨k + 1, by omega, by first | (simp; done) | (rw [wrap_ok (by omega) (by omega)]; simp), ⟨by rw [TS.out, if_pos H4.out]; exact HO.out.below (below_alloc (Below.refl _ _) _)⟩, ⟨by repeat (first | (with_reducible first | exact W1.out | apply below_alloc | apply pw_below_drewN | apply below_drew1) | exact W1.out)⟩⟩
        case measure => (try rw [wrap_ok (by omega) (by omega)]); simp [intOf]; omega
      · have z4 : ((rd_T50 s.L (k : Int)).f3 == 4) = false := beq_false_of_ne h4
        have H4 := Aside0.mk h4
        clear h4
        go_upto_region 5 with fail
        have BK3 := Aside0.mk (blk_new wr (.cells #[.int .u64 (rd_T50 s.L (k : Int)).f0, .int .u64 (rd_T50 s.L (k : Int)).f1, .int .i64 (rd_T50 s.L (k : Int)).f2, .int .u8 (rd_T50 s.L (k : Int)).f3, .int .u64 (rd_T50 s.L (k : Int)).f4] 50))
        have BB3 := Aside0.mk (below_alloc (Below.refl wr.heap.size wr) (.cells #[.int .u64 (rd_T50 s.L (k : Int)).f0, .int .u64 (rd_T50 s.L (k : Int)).f1, .int .i64 (rd_T50 s.L (k : Int)).f2, .int .u8 (rd_T50 s.L (k : Int)).f3, .int .u64 (rd_T50 s.L (k : Int)).f4] 50))
        obtain ⟨gk, hgk⟩ : ∃ gk, gk = wr.heap.size := ⟨_, rfl⟩
        rw [← hgk]
        rw [← hgk] at BK3
        generalize World.alloc wr _ = w3 at BK3 BB3 ⊢
        have W3 := Aside0.mk (bstep W1.out W1.out.size BB3.out)
        have HO3 := Aside0.mk (HO.out.below BB3.out)
        have y0 : w3.cell? ⟨gk, 0, none⟩ = some (.int .u64 (rd_T50 s.L (k : Int)).f0) := (blk_cell BK3.out 0).trans rfl
        have y1 : w3.cell? ⟨gk, 1, none⟩ = some (.int .u64 (rd_T50 s.L (k : Int)).f1) := (blk_cell BK3.out 1).trans rfl
        have y3 : w3.cell? ⟨gk, 3, none⟩ = some (.int .u8 (rd_T50 s.L (k : Int)).f3) := (blk_cell BK3.out 3).trans rfl
        clear x0 x1 x2 x3 x4 hgk
        go_wp2_with ((with_reducible refine gate_builtin (b := .append) (xs := #[.tmp 16, .tmp 24]) rfl ?_); at_builtin; refine Kd.R_append k76 (w0 := w1) w1.heap.size rfl (.tmp 16) (.tmp 24) 51 76 (.agg #[.int .u64 0, .int .u64 0, .int .u8 0]) 24 rfl Try.underlying51 info76 rfl (by decide) (by decide) u3 (told (s.L.take k)) (toldOf (rd_T50 s.L (k : Int))) [.int .u64 (rd_T50 s.L (k : Int)).f0, .int .u64 (rd_T50 s.L (k : Int)).f1, .int .u8 (rd_T50 s.L (k : Int)).f3] (fun _ => True) (fun _ => False) rfl rfl ?aP (fun _ hk => hk.elim) (fun _ _ => trivial) ?aO ?aB ?aS ?aL ?_; (case aP => exact told_cells _ _ _ _); (case aO => exact Row76.toR HO3.out); (case aB => exact (by repeat (first | (with_reducible first | exact W3.out | apply below_alloc | apply pw_below_drewN | apply below_drew1) | exact W3.out))); (case aS => exact (below_size (by repeat (first | (with_reducible first | exact W3.out | apply below_alloc | apply pw_below_drewN | apply below_drew1) | exact W3.out)))); (case aL => exact HLL.out); intro v5 w5 ho hb hg hat; have HO5 := Aside0.mk (Row76.ofR ho); have HB5 := Aside0.mk hb; clear ho hb hg hat)
        go_roundw
        case rel => exact ⟨k + 1, by omega, by first | (simp; done) | (rw [wrap_ok (by omega) (by omega)]; simp), ⟨by rw [TS.out, if_neg H4.out]; exact HO5.out⟩, HB5⟩
        case measure => (try rw [wrap_ok (by omega) (by omega)]); simp [intOf]; omega
    · obtain rfl : k = s.L.length := by omega
      rw [List.take_length] at HO
      go_wp2
      go_ret
      exact ⟨_, rfl, HO.out.base HS, HB.out.trans (Below.mono W1.out HS)⟩

end Go.Proofs.Ytfhopjigdkjnoaa.GA
