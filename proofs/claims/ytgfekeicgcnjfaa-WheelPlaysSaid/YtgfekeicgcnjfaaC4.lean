/- The wheel and the document, side by side. No condition. -/
import Derived.Test.YtgfekeicgcnjfaaC3
import Derived.Laws.CopyOwn
import Derived.Laws.CopyRow
import Derived.ChangeKeysEq
import Derived.Deep.RegionHeld3
import Derived.Deep.MidRow
import Derived.Shelf.Abstract
import Derived.Lib.Overlaps
import Derived.Lib.AppendZerosOnto
import Derived.Shelf.Spec.SlicesInsertGrow
import Derived.Maps.OwnSet
import Derived.WalkSpells
namespace Go.Proofs.Ytgfekeicgcnjfaa.GA
open Go.RowKit Go.Shelf Go.Proofs.YtgfekeicgcnjfaaW.PrintWords Go.Proofs.YtgfekeicgcnjfaaW.PrintLast Go.Proofs.YtgfekeicgcnjfaaW.PrintMore
set_option linter.unusedVariables false
set_option linter.unusedSimpArgs false

structure S40 where
  f0 : Int
  f1 : ByteArray
  f2 : Int
def z40 : S40 := ⟨0, ⟨#[]⟩, 0⟩
def k40 : Kd S40 := Kd.iso (Kd.pair (Kd.int .i64) (Kd.pair Kd.string (Kd.int .u64))) (fun x : S40 => (x.f0, x.f1, x.f2))
theorem k40_open {w : World} {x : S40} {cs : List Value} (h : k40.K w x cs) : cs = [.int .i64 x.f0, .string x.f1, .int .u64 x.f2] := by
  obtain ⟨_, _, rfl, rfl, ⟨_, _, rfl, rfl, rfl⟩⟩ := h
  exact rfl
def rd_T40 (xs : List S40) (i : Int) : S40 := xs.getD i.toNat z40
theorem at_T40 {w : World} {A : Option Addr} {n : Nat} {xs : List S40} (h : Kd.C k40 w A n xs) (i : Int) (h0 : 0 ≤ i) (h1 : i < n) : ∃ ad , A = some ad ∧ w.cell? (ad.add (i.toNat * 3)) = some (.int .i64 (rd_T40 xs i).f0) ∧ w.cell? ⟨(ad.add (i.toNat * 3)).block, (ad.add (i.toNat * 3)).off + 1, none⟩ = some (.string (rd_T40 xs i).f1) ∧ w.cell? ⟨(ad.add (i.toNat * 3)).block, (ad.add (i.toNat * 3)).off + 2, none⟩ = some (.int .u64 (rd_T40 xs i).f2) := by
  obtain ⟨ad, c, e, _, hK, hc0⟩ := Kd.C_get h z40 i h0 h1
  have hc : ∀ j u, c[j]? = some u → w.cell? (ad.add (i.toNat * 3 + j)) = some u := hc0
  obtain rfl := k40_open hK
  exact ⟨ad, e, hc 0 _ rfl, by rw [← add_field _ _ 1 (by omega)]; exact hc 1 _ rfl, by rw [← add_field _ _ 2 (by omega)]; exact hc 2 _ rfl⟩
theorem Rw.frT {w w' : World} {g B : Nat} {most : Int} {A : Option Addr} {c : Nat} {L : List S80} (h : Rw w g B most A c L) (hf : FrT w w') : Rw w' g B most A c L := by
  obtain ⟨h1, h2, h3⟩ := h
  exact ⟨(hf g _ 51 (by decide) (by decide) h1).trans h1, R_frame h2 hf (by decide) (fun q hq => (E80 q hq).elim), h3⟩
theorem Whl.fr1 {w w' : World} {gt mb B g : Nat} {most m : Int} {v : Value} {xs : List S71} {ord : Int} {A : Option Addr} {c : Nat} {L : List S80} (h : Whl w gt mb B most v xs ord) (hr : Rw w g B m A c L) (hf : Fr1 w w' g) : Whl w' gt mb B most v xs ord := by
  have hg : gt ≠ g := fun e => by
    subst e
    have h1 := h.1
    rw [hr.1] at h1
    injection h1 with h1
    injection h1 with _ h1
    cases h1
  have hm : mb ≠ g := fun e => by
    subst e
    obtain ⟨es, c2, hb, _⟩ := h.mapIs
    rw [hr.1] at hb
    cases hb
  refine ⟨(hf gt h.lt hg).trans h.1, h.row.moved (fun k hk => ?_), h.mapIs.kept (hf mb h.mapIs.lt hm), h.2.2.2⟩
  obtain ⟨c2, h2⟩ := own_typed h.row k hk
  refine hf k (blk_lt h2) (fun e => ?_)
  subst e
  rw [hr.1] at h2
  injection h2 with h2
  injection h2 with _ h2
  cases h2
def tick : Int := 1099511627776
/-- what comes of Set -/
def setR (most : Int) (xs : List S71) (ord : Int) (k : ByteArray) (a : Int) : Int × List S71 × Int :=
  if tick < a then (2, xs, ord) else match xs.find? fun x => decide (x.f0 = k) with
  | some x => (0, ins (out xs x) ⟨k, a, ord + 1⟩, ord + 1)
  | none => if most ≤ (xs.length : Int) then (10, xs, ord) else (0, ins xs ⟨k, a, ord + 1⟩, ord + 1)
def stopR (xs : List S71) (k : ByteArray) : Int × List S71 := match xs.find? fun x => decide (x.f0 = k) with
  | some x => (0, out xs x)
  | none => (7, xs)
theorem find_cases (xs : List S71) (k : ByteArray) : (∃ x, xs.find? (fun x => decide (x.f0 = k)) = some x ∧ x ∈ xs ∧ x.f0 = k) ∨ (xs.find? (fun x => decide (x.f0 = k)) = none ∧ ∀ x ∈ xs, x.f0 ≠ k) := by
  cases h : xs.find? (fun x => decide (x.f0 = k)) with
  | some x =>
    have h2 := List.find?_some h
    exact .inl ⟨x, rfl, List.mem_of_find?_eq_some h, of_decide_eq_true h2⟩
  | none =>
    refine .inr ⟨rfl, fun x hx e => ?_⟩
    have := List.find?_eq_none.1 h x hx
    exact this (decide_eq_true e)
theorem setR_ok {most : Int} {xs : List S71} {ord : Int} (k : ByteArray) (a : Int) (hw : Wp xs ord) (hk : okK k) : Wp (setR most xs ord k a).2.1 (setR most xs ord k a).2.2 ∧ (setR most xs ord k a).2.1.length ≤ xs.length + 1 ∧ ord ≤ (setR most xs ord k a).2.2 ∧ (setR most xs ord k a).2.2 ≤ ord + 1 := by
  unfold setR
  by_cases h1 : tick < a
  · rw [if_pos h1]
    exact ⟨hw, by show xs.length ≤ _; omega, Int.le_refl _, by show ord ≤ _; omega⟩
  · rw [if_neg h1]
    rcases find_cases xs k with ⟨x, h2, h3, h4⟩ | ⟨h2, h3⟩
    · rw [h2]
      refine ⟨(hw.out x).ins rfl hk (fun y hy => ?_), ?_, by show ord ≤ ord + 1; omega, Int.le_refl _⟩
      · have := ((hw.out_mem h3 y).1 hy).2
        rw [h4] at this
        exact this
      · show (ins (out xs x) _).length ≤ _
        rw [ins_len, out_len hw h3]
        omega
    · rw [h2]
      dsimp only
      by_cases h5 : most ≤ (xs.length : Int)
      · rw [if_pos h5]
        exact ⟨hw, by show xs.length ≤ _; omega, Int.le_refl _, by show ord ≤ _; omega⟩
      · rw [if_neg h5]
        exact ⟨hw.ins rfl hk h3, by show (ins xs _).length ≤ _; rw [ins_len]; exact Nat.le_refl _, by show ord ≤ ord + 1; omega, Int.le_refl _⟩
theorem stopR_ok {xs : List S71} {ord : Int} (k : ByteArray) (hw : Wp xs ord) : Wp (stopR xs k).2 ord ∧ (stopR xs k).2.length ≤ xs.length := by
  unfold stopR
  rcases find_cases xs k with ⟨x, h2, h3, h4⟩ | ⟨h2, h3⟩
  · rw [h2]
    exact ⟨hw.out x, by show (out xs x).length ≤ _; rw [out_len hw h3]; omega⟩
  · rw [h2]
    exact ⟨hw, Nat.le_refl _⟩

theorem WSet.calls (g1 m1 B : Nat) (most : Int) (v : Value) (xs : List S71) (ord : Int) (hw : Wp xs ord) (k : ByteArray) (a : Int) (hk : okK k) (hl : xs.length < 1000) (ho0 : 0 ≤ ord) (ho1 : ord ≤ 1000) (w : World) (hT : Whl w g1 m1 B most v xs ord) : Calls Try.prog 14 #[.pointer (some ⟨g1, 0, none⟩), .string k, .int .u64 a] w fun e w' => ∃ v', e = .returned (.int .i64 (setR most xs ord k a).1) ∧ Whl w' g1 m1 B most v' (setR most xs ord k a).2.1 (setR most xs ord k a).2.2 ∧ Below B w w' ∧ FrT w w' ∧ w.heap.size ≤ w'.heap.size := by
  unfold setR
  by_cases h1 : tick < a
  · rw [if_pos h1]
    rcases find_cases xs k with ⟨x, h2, h3, h4⟩ | ⟨h2, h3⟩
    · refine (Set.arg_hit g1 m1 B most v xs ord hw k a h1 w hT h3 h4).mono ?_
      rintro e w' ⟨rfl, hb⟩
      exact ⟨v, rfl, hT.below hb, hb.mono hT.base, FrT.of hb, hb.size⟩
    · refine (Set.arg_miss g1 m1 B most v xs ord hw k a h1 w hT hk h3).mono ?_
      rintro e w' ⟨rfl, hb⟩
      exact ⟨v, rfl, hT.below hb, hb.mono hT.base, FrT.of hb, hb.size⟩
  · rw [if_neg h1]
    have h1' : a ≤ 1099511627776 := Int.not_lt.1 h1
    rcases find_cases xs k with ⟨x, h2, h3, h4⟩ | ⟨h2, h3⟩
    · rw [h2]
      refine (Set.again g1 m1 B most v xs ord hw k a h1' ho0 (by omega) w hT h3 h4).mono ?_
      rintro e w' ⟨v', rfl, ht, hb, hf, ha⟩
      exact ⟨v', rfl, ht, hb, hT.frT hf, hb.size⟩
    · rw [h2]
      dsimp only
      by_cases h5 : most ≤ (xs.length : Int)
      · rw [if_pos h5]
        refine (Set.full g1 m1 B most v xs ord hw k a h1' h5 w hT hk h3).mono ?_
        rintro e w' ⟨rfl, hb⟩
        exact ⟨v, rfl, hT.below hb, hb.mono hT.base, FrT.of hb, hb.size⟩
      · rw [if_neg h5]
        refine (Set.new g1 m1 B most v xs ord hw k a h1' (by omega) (by omega) ho0 (by omega) w hT hk h3).mono ?_
        rintro e w' ⟨v', rfl, ht, hb, hf, ha⟩
        exact ⟨v', rfl, ht, hb, hT.frT hf, hb.size⟩
theorem WStop.calls (g1 m1 B : Nat) (most : Int) (v : Value) (xs : List S71) (ord : Int) (hw : Wp xs ord) (k : ByteArray) (hk : okK k) (w : World) (hT : Whl w g1 m1 B most v xs ord) : Calls Try.prog 16 #[.pointer (some ⟨g1, 0, none⟩), .string k] w fun e w' => ∃ v', e = .returned (.int .i64 (stopR xs k).1) ∧ Whl w' g1 m1 B most v' (stopR xs k).2 ord ∧ Below B w w' ∧ FrT w w' ∧ w.heap.size ≤ w'.heap.size := by
  unfold stopR
  rcases find_cases xs k with ⟨x, h2, h3, h4⟩ | ⟨h2, h3⟩
  · rw [h2]
    refine (Stop.hit g1 m1 B most v xs ord hw k w hT h3 h4).mono ?_
    rintro e w' ⟨v', rfl, ht, hb, hf, ha⟩
    exact ⟨v', rfl, ht, hb, hT.frT hf, hb.size⟩
  · rw [h2]
    refine (Stop.miss g1 m1 B most v xs ord hw k w hT hk h3).mono ?_
    rintro e w' ⟨rfl, hb⟩
    exact ⟨v, rfl, hT.below hb, hb.mono hT.base, FrT.of hb, hb.size⟩
theorem WTurn.calls (g1 m1 B : Nat) (most : Int) (v : Value) (xs : List S71) (ord : Int) (hw : Wp xs ord) (a : Int) (w : World) (hT : Whl w g1 m1 B most v xs ord) : Calls Try.prog 19 #[.pointer (some ⟨g1, 0, none⟩), .int .u64 a] w fun e w' => ∃ A c ks v', e = .returned (.slice A ks.length c) ∧ ks = (due xs a).map (·.f0) ∧ Kd.R Kd.string 9 w' w.heap.size (fun _ => True) (.slice A ks.length c) ks ∧ Whl w' g1 m1 B most v' (later xs a) ord ∧ Below B w w' ∧ FrT w w' ∧ w.heap.size ≤ w'.heap.size := by
  refine (Turn.calls g1 m1 B most v xs ord hw a w hT).mono ?_
  rintro e w' ⟨A, c, ks, v', rfl, hks, hr, ht, hb, hf, ha⟩
  exact ⟨A, c, ks, v', rfl, hks, hr, ht, hb, hT.frT hf, hb.size⟩
theorem WWhen.calls (g1 m1 B : Nat) (most : Int) (v : Value) (xs : List S71) (ord : Int) (hw : Wp xs ord) (k : ByteArray) (hk : okK k) (L : List S80) (hl : Rel xs L) (w : World) (hT : Whl w g1 m1 B most v xs ord) : Calls Try.prog 21 #[.pointer (some ⟨g1, 0, none⟩), .string k] w fun e w' => e = .returned (.tuple #[.int .u64 (wh L k).1, .bool (wh L k).2]) ∧ Below w.heap.size w w' := by
  rcases find_cases xs k with ⟨x, h2, h3, h4⟩ | ⟨h2, h3⟩
  · have := hl.when_in hw h3
    rw [h4] at this
    rw [this]
    exact When.hit g1 m1 B most v xs ord hw.1 k w hT h3 h4
  · rw [hl.when_out h3]
    exact When.miss g1 m1 B most v xs ord hw.1 k w hT hk h3
theorem WNext.calls (g1 m1 B : Nat) (most : Int) (v : Value) (xs : List S71) (ord : Int) (hw : Wp xs ord) (L : List S80) (hl : Rel xs L) (w : World) (hT : Whl w g1 m1 B most v xs ord) : Calls Try.prog 23 #[.pointer (some ⟨g1, 0, none⟩)] w fun e w' => e = .returned (.tuple #[.int .u64 (nx L).1, .bool (nx L).2]) ∧ Below w.heap.size w w' := by
  cases xs with
  | nil =>
    rw [hl.nil_]
    exact Next.nil_ g1 m1 B most v ord w hT
  | cons z zs =>
    rw [hl.next hw]
    exact Next.cons_ g1 m1 B most v z zs ord w hT
theorem WLen.calls (g1 m1 B : Nat) (most : Int) (v : Value) (xs : List S71) (ord : Int) (L : List S80) (hl : Rel xs L) (w : World) (hT : Whl w g1 m1 B most v xs ord) : Calls Try.prog 25 #[.pointer (some ⟨g1, 0, none⟩)] w fun e w' => e = .returned (.int .i64 (L.length : Nat)) ∧ Below w.heap.size w w' := by
  rw [hl.len]
  exact Len.calls g1 m1 B most v xs ord w hT

theorem wo_hit {xs : List S71} {L : List S80} {ord : Int} (hl : Rel xs L) (hw : Wp xs ord) {x : S71} (hx : x ∈ xs) : decide ((wo L x.f0).length < L.length) = true ∧ (wo L x.f0).length = xs.length - 1 := by
  have h1 := (hl.wo_in hw hx).len
  rw [out_len hw hx] at h1
  have := List.length_pos_of_mem hx
  rw [h1, hl.len]
  exact ⟨decide_eq_true (by omega), rfl⟩
theorem wo_miss {xs : List S71} {L : List S80} (hl : Rel xs L) {k : ByteArray} (hx : ∀ x ∈ xs, x.f0 ≠ k) : decide ((wo L k).length < L.length) = false := by
  rw [hl.wo_out hx]
  exact decide_eq_false (Nat.lt_irrefl _)
theorem DSet.calls (g2 B : Nat) (most : Int) (A : Option Addr) (c : Nat) (L : List S80) (xs : List S71) (ord : Int) (hl : Rel xs L) (hw : Wp xs ord) (k : ByteArray) (a : Int) (hn : xs.length < 1000) (w : World) (hT : Rw w g2 B most A c L) : Calls Try.prog 15 #[.pointer (some ⟨g2, 0, none⟩), .string k, .int .u64 a] w fun e w' => ∃ A' c' L', e = .returned (.int .i64 (setR most xs ord k a).1) ∧ Rw w' g2 B most A' c' L' ∧ Rel (setR most xs ord k a).2.1 L' ∧ Below B w w' ∧ Fr1 w w' g2 := by
  unfold setR
  by_cases h1 : tick < a
  · rw [if_pos h1]
    refine (RSet.arg g2 B most A c L k a h1 w hT).mono ?_
    rintro e w' ⟨rfl, hb⟩
    exact ⟨A, c, L, rfl, hT.below hb, hl, hb.mono hT.base, Fr1.of g2 hb⟩
  · rw [if_neg h1]
    have h1' : a ≤ 1099511627776 := Int.not_lt.1 h1
    rcases find_cases xs k with ⟨x, h2, h3, h4⟩ | ⟨h2, h3⟩
    · rw [h2]
      subst h4
      obtain ⟨q1, q2⟩ := wo_hit hl hw h3
      refine (RSet.again g2 B most A c L x.f0 a h1' w hT q1 (by omega)).mono ?_
      rintro e w' ⟨A', c', rfl, ht, hb, hf⟩
      exact ⟨A', c', _, rfl, ht, (hl.wo_in hw h3).add (hw.out x) ⟨x.f0, a, ord + 1⟩ rfl, hb, hf⟩
    · rw [h2]
      dsimp only
      have q1 := wo_miss hl h3
      have q2 := hl.wo_out h3
      have q3 := hl.len
      by_cases h5 : most ≤ (xs.length : Int)
      · rw [if_pos h5]
        refine (RSet.full g2 B most A c L k a h1' w hT q1 (by rw [q2, q3]; exact h5)).mono ?_
        rintro e w' ⟨rfl, hb⟩
        exact ⟨A, c, L, rfl, hT.below hb, hl, hb.mono hT.base, Fr1.of g2 hb⟩
      · rw [if_neg h5]
        refine (RSet.new g2 B most A c L k a h1' w hT q1 (by rw [q2, q3]; omega) (by rw [q2, q3]; omega)).mono ?_
        rintro e w' ⟨A', c', rfl, ht, hb, hf⟩
        rw [q2] at ht
        exact ⟨A', c', _, rfl, ht, hl.add hw ⟨k, a, ord + 1⟩ rfl, hb, hf⟩
theorem DStop.calls (g2 B : Nat) (most : Int) (A : Option Addr) (c : Nat) (L : List S80) (xs : List S71) (ord : Int) (hl : Rel xs L) (hw : Wp xs ord) (k : ByteArray) (w : World) (hT : Rw w g2 B most A c L) : Calls Try.prog 17 #[.pointer (some ⟨g2, 0, none⟩), .string k] w fun e w' => ∃ A' c' L', e = .returned (.int .i64 (stopR xs k).1) ∧ Rw w' g2 B most A' c' L' ∧ Rel (stopR xs k).2 L' ∧ Below B w w' ∧ Fr1 w w' g2 := by
  unfold stopR
  rcases find_cases xs k with ⟨x, h2, h3, h4⟩ | ⟨h2, h3⟩
  · rw [h2]
    subst h4
    refine (RStop.yes g2 B most A c L x.f0 w hT (wo_hit hl hw h3).1).mono ?_
    rintro e w' ⟨A', c', rfl, ht, hb, hf⟩
    exact ⟨A', c', _, rfl, ht, hl.wo_in hw h3, hb, hf⟩
  · rw [h2]
    refine (RStop.no g2 B most A c L k w hT (wo_miss hl h3)).mono ?_
    rintro e w' ⟨rfl, hb⟩
    exact ⟨A, c, L, rfl, hT.below hb, hl, hb.mono hT.base, Fr1.of g2 hb⟩
theorem Texts.same (xs : List ByteArray) (hl : xs.length ≤ 1000000) : ∀ d j : Nat, d + j = xs.length → cohortref00_Texts.l0 (d + 1) xs xs (j : Int) = some true
  | 0, j, h => by
    rw [cohortref00_Texts.l0, if_neg (by omega)]
  | d + 1, j, h => by
    rw [cohortref00_Texts.l0, if_pos (by omega), if_pos (by omega), if_pos (by omega), if_pos rfl]
    have e1 : wrap64 ((j : Int) + 1) = ((j + 1 : Nat) : Int) := by unfold wrap64; omega
    rw [e1]
    exact Texts.same xs hl d (j + 1) (by omega)
theorem Texts.refl_ (xs : List ByteArray) (hl : xs.length ≤ 1000000) : cohortref00_Texts.f (xs.length + 1) xs xs = some true := by
  unfold cohortref00_Texts.f
  rw [if_pos rfl]
  exact Texts.same xs hl xs.length 0 (by omega)

end Go.Proofs.Ytgfekeicgcnjfaa.GA
