/- Find and Drop, of any instances. No condition. -/
import Derived.Test.YtglpedacanjpbaaW12
import Derived.Test.YtglpedacanjpbaaW13
import Derived.Laws.CopyOwn
import Derived.ChangeKeysEq
import Derived.Deep.RegionHeld3
import Derived.Deep.MidRow
import Derived.Shelf.Abstract
namespace Go.Proofs.Ytglpedacanjpbaa.GA
open Go.RowKit Go.Shelf Go.Proofs.YtglpedacanjpbaaW.PrintWords Go.Proofs.YtglpedacanjpbaaW.PrintLast Go.Proofs.YtglpedacanjpbaaW.PrintMore
set_option linter.unusedVariables false
set_option linter.unusedSimpArgs false

theorem Find_ev (l : List S42) (id : Int) (hl : l.length < 9223372036854775807) : cohortref17_Find.f (l.length + 1) l id = some ((findR l id).1.f0, (findR l id).1.f1, (findR l id).1.f2, (findR l id).1.f3, (findR l id).1.f4, (findR l id).1.f5, (findR l id).1.f6, (findR l id).1.f7, (findR l id).1.f8, (findR l id).1.f9, (findR l id).1.f10, (findR l id).1.f11, (findR l id).2) := by
  unfold cohortref17_Find.f findR
  rw [place_ev l id hl, Option.bind_some, fmay_ev, Option.bind_some]
  unfold placeL
  by_cases h : idAt id l < l.length
  · rw [if_pos h, if_neg (by omega)]
    by_cases hm : mayL l = true
    · rw [if_pos hm, if_pos (by omega), if_pos (by omega), if_pos ⟨h, hm⟩]
    · rw [if_neg hm, if_neg (fun x => hm x.2)]; rfl
  · rw [if_neg h, if_pos (by decide), if_neg (fun x => h x.1)]; rfl
theorem Drop_ev (l : List S42) (id : Int) : cohortref17_Drop.f (l.length + 1) l id = some ((dropR l id).1, (dropR l id).2) := by
  unfold cohortref17_Drop.f dropR
  rw [fmay_ev, Option.bind_some]
  by_cases hm : mayL l = true
  · have hlen := mayL_len hm
    rw [if_pos hm, if_pos hm, place_ev l id (by omega), Option.bind_some]
    unfold placeL
    by_cases h : idAt id l < l.length
    · have hw : wrap64 ((idAt id l : Int) + 1) = ((idAt id l + 1 : Nat) : Int) := by rw [wrap_ok (by omega) (by omega)]; omega
      rw [if_pos h, if_pos h, if_neg (by omega), if_pos (by omega), if_pos (by omega), Option.bind_some, Int.toNat_natCast, if_pos (by simp [List.length_take]; omega), Option.bind_some, hw, if_pos (by omega), if_pos (by omega), Option.bind_some, Int.toNat_natCast, if_pos (by simp [List.length_take, List.length_drop]; omega)]
      rfl
    · rw [if_neg h, if_neg h, if_pos (by decide)]
  · rw [if_neg hm, if_neg hm]
theorem Find.calls (A : Option Addr) (c : Nat) (l : List S42) (id : Int) (Y : S42) (b : Bool) (w : World) (hr : findR l id = (Y, b)) (hl : Kd.C k42 w A l.length l) (hc : l.length ≤ c) (hm : l.length < 9223372036854775807) :
    Calls Try.prog 7 #[.slice A l.length c, .int .u64 id] w fun e w' => e = .returned (.tuple #[.agg #[.int .u64 Y.f0, .int .u64 Y.f1, .int .i64 Y.f2, .int .i64 Y.f3, .bool Y.f4, .int .u8 Y.f5, .int .u64 Y.f6, .bool Y.f7, .int .u64 Y.f8, .bool Y.f9, .bool Y.f10, .int .u32 Y.f11], .bool b]) ∧ Below w.heap.size w w' := by
  have h := cohortref17_Find.calls (l.length + 1) A c l id _ _ _ _ _ _ _ _ _ _ _ _ _ w hl hc (Find_ev l id hm)
  rw [hr] at h
  exact h
theorem Drop.calls (A : Option Addr) (c : Nat) (l : List S42) (id : Int) (w : World) (hl : Kd.C k42 w A l.length l) (hc : l.length ≤ c) :
    Calls Try.prog 11 #[.slice A l.length c, .int .u64 id] w fun e w' => ∃ v0_ : Value, e = .returned (.tuple #[v0_, .int .i64 (dropR l id).2]) ∧ Kd.R k42 42 w' w.heap.size (fun _ => True) v0_ (dropR l id).1 ∧ Below w.heap.size w w' :=
  cohortref17_Drop.calls (l.length + 1) A c l id _ _ w hl hc (Drop_ev l id)
theorem ST.put {S : Array Value} {ver wm : Int} {on st : Bool} {Ai : Option Addr} {ci : Nat} {li : List S42} {Ao : Option Addr} {co : Nat} {lo : List S69} (h : ST S ver wm on st Ai ci li Ao co lo) (A' : Option Addr) (c' : Nat) (l' : List S42) : ST (S.setIfInBounds 46 (.slice A' l'.length c')) ver wm on st A' c' l' Ao co lo := by
  refine ⟨by rw [Array.size_setIfInBounds]; exact h.sz, ?_, ?_, ?_, ?_, ?_, ?_⟩
  · rw [Array.getElem?_setIfInBounds_ne (by decide)]; exact h.wm
  · rw [Array.getElem?_setIfInBounds_ne (by decide)]; exact h.ver
  · rw [Array.getElem?_setIfInBounds_self_of_lt (by rw [h.sz]; decide)]
  · rw [Array.getElem?_setIfInBounds_ne (by decide)]; exact h.ops
  · rw [Array.getElem?_setIfInBounds_ne (by decide)]; exact h.on
  · rw [Array.getElem?_setIfInBounds_ne (by decide)]; exact h.st

end Go.Proofs.Ytglpedacanjpbaa.GA
