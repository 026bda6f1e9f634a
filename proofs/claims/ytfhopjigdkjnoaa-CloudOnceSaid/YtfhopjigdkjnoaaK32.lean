/- Deeds. No condition. -/
import Derived.Test.YtfhopjigdkjnoaaK30
import Derived.Laws.CopyOwn
import Derived.Laws.CopyRow
import Derived.ChangeKeysEq
import Derived.Deep.RegionHeld3
import Derived.Deep.MidRow
import Derived.Shelf.Abstract
import Derived.Maps.OwnSet
import Derived.Maps.AppendAt
import Derived.WalkSpells
namespace Go.Proofs.Ytfhopjigdkjnoaa.GA
open Go.RowKit Go.Shelf Go.Proofs.YtfhopjigdkjnoaaW.PrintWords Go.Proofs.YtfhopjigdkjnoaaW.PrintLast Go.Proofs.YtfhopjigdkjnoaaW.PrintMore
set_option linter.unusedVariables false
set_option linter.unusedSimpArgs false

structure S31 where
  f0 : Int
  f1 : Int
  f2 : Int
  f3 : Int
  f4 : Int
def k31 : Kd S31 := Kd.iso (Kd.pair (Kd.int .u8) (Kd.pair (Kd.int .i64) (Kd.pair (Kd.int .i64) (Kd.pair (Kd.int .i64) (Kd.int .u64))))) (fun x : S31 => (x.f0, x.f1, x.f2, x.f3, x.f4))
theorem k31_open {w : World} {x : S31} {cs : List Value} (h : k31.K w x cs) : cs = [.int .u8 x.f0, .int .i64 x.f1, .int .i64 x.f2, .int .i64 x.f3, .int .u64 x.f4] := by
  obtain ⟨_, _, rfl, rfl, ⟨_, _, rfl, rfl, ⟨_, _, rfl, rfl, ⟨_, _, rfl, rfl, rfl⟩⟩⟩⟩ := h
  exact rfl
/-- a deed: a request that comes, or an act -/
structure S34 where
  ask : Bool
  r : S27
  a : S31
def z34 : S34 := ⟨false, z27, ⟨0, 0, 0, 0, 0⟩⟩
def k34 : Kd S34 := Kd.iso (Kd.pair Kd.bool (Kd.pair k27 k31)) (fun x : S34 => (x.ask, x.r, x.a))
theorem k34_open {w : World} {x : S34} {cs : List Value} (h : k34.K w x cs) : cs = [.bool x.ask, .int .u8 x.r.f0, .int .u64 x.r.f1, .int .i64 x.r.f2, .bool x.r.f3, .int .u64 x.r.f4, .int .u8 x.a.f0, .int .i64 x.a.f1, .int .i64 x.a.f2, .int .i64 x.a.f3, .int .u64 x.a.f4] := by
  obtain ⟨c0, c1, rfl, h0, c2, c3, rfl, h1, h2⟩ := h
  obtain rfl : c0 = [.bool x.ask] := h0
  rw [k27_open h1, k31_open h2]
  rfl
def rd_T34 (xs : List S34) (i : Int) : S34 := xs.getD i.toNat z34
theorem at_T34 {w : World} {A : Option Addr} {n : Nat} {xs : List S34} (h : Kd.C k34 w A n xs) (i : Int) (h0 : 0 ≤ i) (h1 : i < n) : ∃ ad, A = some ad ∧ w.cell? (ad.add (i.toNat * 11)) = some (.bool (rd_T34 xs i).ask) ∧ w.cell? ⟨(ad.add (i.toNat * 11)).block, (ad.add (i.toNat * 11)).off + 1, none⟩ = some (.int .u8 (rd_T34 xs i).r.f0) ∧ w.cell? ⟨(ad.add (i.toNat * 11)).block, (ad.add (i.toNat * 11)).off + 2, none⟩ = some (.int .u64 (rd_T34 xs i).r.f1) ∧ w.cell? ⟨(ad.add (i.toNat * 11)).block, (ad.add (i.toNat * 11)).off + 3, none⟩ = some (.int .i64 (rd_T34 xs i).r.f2) ∧ w.cell? ⟨(ad.add (i.toNat * 11)).block, (ad.add (i.toNat * 11)).off + 4, none⟩ = some (.bool (rd_T34 xs i).r.f3) ∧ w.cell? ⟨(ad.add (i.toNat * 11)).block, (ad.add (i.toNat * 11)).off + 5, none⟩ = some (.int .u64 (rd_T34 xs i).r.f4) ∧ w.cell? ⟨(ad.add (i.toNat * 11)).block, (ad.add (i.toNat * 11)).off + 6, none⟩ = some (.int .u8 (rd_T34 xs i).a.f0) ∧ w.cell? ⟨(ad.add (i.toNat * 11)).block, (ad.add (i.toNat * 11)).off + 7, none⟩ = some (.int .i64 (rd_T34 xs i).a.f1) ∧ w.cell? ⟨(ad.add (i.toNat * 11)).block, (ad.add (i.toNat * 11)).off + 8, none⟩ = some (.int .i64 (rd_T34 xs i).a.f2) ∧ w.cell? ⟨(ad.add (i.toNat * 11)).block, (ad.add (i.toNat * 11)).off + 9, none⟩ = some (.int .i64 (rd_T34 xs i).a.f3) ∧ w.cell? ⟨(ad.add (i.toNat * 11)).block, (ad.add (i.toNat * 11)).off + 10, none⟩ = some (.int .u64 (rd_T34 xs i).a.f4) := by
  obtain ⟨ad, c, e, _, hK, hc0⟩ := Kd.C_get h z34 i h0 h1
  have hc : ∀ j u, c[j]? = some u → w.cell? (ad.add (i.toNat * 11 + j)) = some u := hc0
  obtain rfl := k34_open hK
  exact ⟨ad, e, hc 0 _ rfl, by rw [← add_field _ _ 1 (by omega)]; exact hc 1 _ rfl, by rw [← add_field _ _ 2 (by omega)]; exact hc 2 _ rfl, by rw [← add_field _ _ 3 (by omega)]; exact hc 3 _ rfl, by rw [← add_field _ _ 4 (by omega)]; exact hc 4 _ rfl, by rw [← add_field _ _ 5 (by omega)]; exact hc 5 _ rfl, by rw [← add_field _ _ 6 (by omega)]; exact hc 6 _ rfl, by rw [← add_field _ _ 7 (by omega)]; exact hc 7 _ rfl, by rw [← add_field _ _ 8 (by omega)]; exact hc 8 _ rfl, by rw [← add_field _ _ 9 (by omega)]; exact hc 9 _ rfl, by rw [← add_field _ _ 10 (by omega)]; exact hc 10 _ rfl⟩
def deedOk (x : S34) : Prop := (Lit.int .u64 x.r.f1).wf = true ∧ (Lit.int .u64 x.r.f4).wf = true ∧ (Lit.int .u8 x.a.f0).wf = true
/-- what a deed brings about -/
def doS (s : CS) (d : S34) : CS := if d.ask = true then (askS s d.r).1 else (actS s d.a.f0 d.a.f1 d.a.f4).1
theorem doS_ok {s : CS} (h : Ok s) (d : S34) (hd : deedOk d) : Ok (doS s d) ∧ Stp s (doS s d) := by
  unfold doS
  split
  · exact askS_ok h d.r hd.1
  · exact actS_ok h d.a.f0 d.a.f1 d.a.f4
/-- the state behind the first i deeds -/
def runS (s : CS) (l : List S34) : CS := l.foldl doS s
theorem runS_snoc (s : CS) (l : List S34) (i : Nat) (h : i < l.length) : runS s (l.take (i + 1)) = doS (runS s (l.take i)) (rd_T34 l (i : Int)) := by
  unfold runS rd_T34
  rw [List.take_add_one, List.foldl_append, List.getElem?_eq_getElem h, Int.toNat_natCast, List.getD_eq_getElem?_getD, List.getElem?_eq_getElem h]
  rfl
theorem runS_ok {s : CS} (h : Ok s) : ∀ (l : List S34), (∀ d ∈ l, deedOk d) → Ok (runS s l)
  | [], _ => h
  | d :: r, hd => runS_ok (doS_ok h d (hd d List.mem_cons_self)).1 r (fun x hx => hd x (List.mem_cons_of_mem _ hx))
theorem runS_len {s : CS} (h : Ok s) : ∀ (l : List S34), (∀ d ∈ l, deedOk d) → (runS s l).L.length ≤ s.L.length + l.length ∧ (runS s l).W.length ≤ s.W.length + l.length
  | [], _ => ⟨Nat.le_refl _, Nat.le_refl _⟩
  | d :: r, hd => by
    have h1 := doS_ok h d (hd d List.mem_cons_self)
    have h2 := runS_len h1.1 r (fun x hx => hd x (List.mem_cons_of_mem _ hx))
    have h3 := h1.2.le1
    have h4 := h1.2.wl
    rw [List.length_cons]
    exact ⟨by show (runS (doS s d) r).L.length ≤ _; omega, by show (runS (doS s d) r).W.length ≤ _; omega⟩
theorem runS_A {s : CS} (h : Ok s) : ∀ (l : List S34), (∀ d ∈ l, deedOk d) → ∀ y ∈ s.A, y ∈ (runS s l).A
  | [], _, y, hy => hy
  | d :: r, hd, y, hy => by
    have h1 := doS_ok h d (hd d List.mem_cons_self)
    exact runS_A h1.1 r (fun x hx => hd x (List.mem_cons_of_mem _ hx)) y (h1.2.A y hy)
theorem wf_nonneg {n : Int} (h : (Lit.int .u64 n).wf = true) : 0 ≤ n := by
  simp [Lit.wf, IntKind.min, IntKind.max, IntKind.signed, IntKind.bits] at h
  omega
theorem deed_at {l : List S34} (hl : ∀ d ∈ l, deedOk d) {i : Nat} (hi : i < l.length) : deedOk (rd_T34 l (i : Int)) := by
  unfold rd_T34
  rw [Int.toNat_natCast, List.getD_eq_getElem?_getD, List.getElem?_eq_getElem hi]
  exact hl _ (List.getElem_mem hi)
theorem deeds_take {l : List S34} (hl : ∀ d ∈ l, deedOk d) (i : Nat) : ∀ d ∈ l.take i, deedOk d := fun d hd => hl d (List.mem_of_mem_take hd)

end Go.Proofs.Ytfhopjigdkjnoaa.GA
