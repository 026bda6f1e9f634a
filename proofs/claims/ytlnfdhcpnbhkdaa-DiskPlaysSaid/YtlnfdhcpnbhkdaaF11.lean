/- Blocks in memory: loads, stores and copies of 64 bytes. No condition. -/
import Derived.Test.YtlnfdhcpnbhkdaaF10
import Derived.Laws.CopyOwn
import Derived.ChangeKeysEq
import Derived.Deep.RegionHeld3
import Derived.Deep.MidRow
import Derived.Great.Walk
import Derived.Deep.LoopGhost
import Derived.Deep.DeepCutAuto
namespace Go.Proofs.Ytlnfdhcpnbhkdaa.GA.F
open Go.RowKit Go.Proofs.YtlnfdhcpnbhkdaaW.PrintWords Go.Proofs.YtlnfdhcpnbhkdaaW.PrintLast Go.Proofs.YtlnfdhcpnbhkdaaW.PrintMore
set_option linter.unusedVariables false
set_option linter.unusedSimpArgs false

/-- what an act leaves of the real disk: its new state; what is not its own stays -/
def OpD (w : World) (C gd ga gh n ca ch : Nat) (bt : Value) (s : DS) (w' : World) : Prop := ∃ bt', E.Rep C w' gd ga gh n ca ch bt' s ∧ Below C w w' ∧ E.Fz gd ga gh bt w w'
def OpR (w : World) (B gr gH cH n : Nat) (lt : Value) (s : RS) (w' : World) : Prop := ∃ lt', RRep B w' gr gH cH n lt' s ∧ Below B w w' ∧ RFx gr gH lt w w'

set_option maxHeartbeats 8000000 in
set_option maxRecDepth 100000 in
theorem ArmD.night (w : World) (C gd ga gh n ca ch : Nat) (bt : Value) (s : DS) (r : E.Rep C w gd ga gh n ca ch bt s) (hni : s.ni = true) (i : Int) : Calls Try.prog 9 #[.pointer (some ⟨gd, 0, none⟩), .int .i64 i] w fun e w' => e = .returned (.int .i64 9) ∧ w' = w := by
  have hg := r.d
  rw [hni] at hg
  have hn := r.n0
  clear r hni
  go_enter Try.func9, Try.ntmps9
  go_wp2_with (first
    | (go_at_call 27; with_reducible refine (day.night _ gd _ _ n ch bt s.al s.st hg hn).mono ?_; rintro e' w' ⟨rfl, hw⟩; subst w'))
  go_ret
  exact ⟨rfl, rfl⟩

set_option maxHeartbeats 8000000 in
set_option maxRecDepth 100000 in
theorem ArmD.neg (w : World) (C gd ga gh n ca ch : Nat) (bt : Value) (s : DS) (r : E.Rep C w gd ga gh n ca ch bt s) (hni : s.ni = false) (i : Int) (h0 : i < 0) : Calls Try.prog 9 #[.pointer (some ⟨gd, 0, none⟩), .int .i64 i] w fun e w' => e = .returned (.int .i64 2) ∧ w' = w := by
  have hg := r.d
  rw [hni] at hg
  have hn := r.n0
  clear r hni
  have d1 : decide (i < 0) = true := decide_eq_true h0
  go_enter Try.func9, Try.ntmps9
  go_wp2_with (first
    | (go_at_call 27; with_reducible refine (day.ok _ gd _ _ n ch bt s.al s.st hg hn).mono ?_; rintro e' w' ⟨rfl, hw⟩; subst w'))
  go_ret
  exact ⟨rfl, rfl⟩

theorem OpD.same {w : World} {C gd ga gh n ca ch : Nat} {bt : Value} {s : DS} (r : E.Rep C w gd ga gh n ca ch bt s) {w' : World} (hb : Below w.heap.size w w') : OpD w C gd ga gh n ca ch bt s w' := ⟨bt, r.below hb, below_of_le r.size hb, E.Fz.below hb⟩
theorem OpR.same {w : World} {B gr gH cH n : Nat} {lt : Value} {s : RS} (r : RRep B w gr gH cH n lt s) {w' : World} (hb : Below w.heap.size w w') : OpR w B gr gH cH n lt s w' := ⟨lt, r.below hb, below_of_le r.size hb, RFx.below _ _ _ hb⟩
theorem nni {b : Bool} (h : ¬ b = true) : b = false := by cases b with | false => rfl | true => exact absurd rfl h
theorem WriteD (w : World) (C gd ga gh n ca ch : Nat) (bt : Value) (s : DS) (r : E.Rep C w gd ga gh n ca ch bt s) (hst : s.st < 4611686018427387904) (hl : (s.btw.length + 1) * 72 ≤ 140737488355328) (i : Int) (b : List Int) (hb : b.length = 64) : Calls Try.prog 10 #[.pointer (some ⟨gd, 0, none⟩), .int .i64 i, .agg (bcells b)] w fun e w' => e = .returned (.int .i64 (dW n s i b).2) ∧ OpD w C gd ga gh n ca ch bt (dW n s i b).1 w' := by
  unfold dW
  split
  · rename_i h; exact (E.Write.night w C gd ga gh n ca ch bt s r h i b hb).mono fun e w' h => ⟨h.1, .same r h.2⟩
  · rename_i h
    split
    · rename_i hi; exact (E.Write.bad w C gd ga gh n ca ch bt s r (nni h) i hi b hb).mono fun e w' h => ⟨h.1, .same r h.2⟩
    · rename_i hi
      obtain ⟨k, rfl⟩ : ∃ k : Nat, i = k := ⟨i.toNat, by omega⟩
      split
      · rename_i ha; exact (E.Write.ring w C gd ga gh n ca ch bt s r (nni h) ha k (by omega) b hb).mono fun e w' h => ⟨h.1, _, h.2.1, h.2.2.1, h.2.2.2⟩
      · rename_i ha
        rw [Int.toNat_natCast]
        exact (E.Write.ok w C gd ga gh n ca ch bt s r (nni h) ha hst hl k (by omega) b hb).mono fun e w' ⟨h1, bt', h2, h3, h4⟩ => ⟨h1, bt', h2, h3, h4⟩
theorem FlushD (w : World) (C gd ga gh n ca ch : Nat) (bt : Value) (s : DS) (r : E.Rep C w gd ga gh n ca ch bt s) (hst : s.st < 4611686018427387904) (hl : s.btw.length ≤ 4611686018427387904) : Calls Try.prog 11 #[.pointer (some ⟨gd, 0, none⟩)] w fun e w' => e = .returned (.int .i64 (dF s).2) ∧ OpD w C gd ga gh n ca ch bt (dF s).1 w' := by
  unfold dF
  split
  · rename_i h; exact (E.Flush.night w C gd ga gh n ca ch bt s r h).mono fun e w' h => ⟨h.1, .same r h.2⟩
  · rename_i h
    split
    · rename_i ha; exact (E.Flush.ring w C gd ga gh n ca ch bt s r (nni h) ha).mono fun e w' h => ⟨h.1, _, h.2.1, h.2.2.1, h.2.2.2⟩
    · rename_i ha; exact (E.Flush.ok w C gd ga gh n ca ch bt s r (nni h) ha hst hl).mono fun e w' h => ⟨h.1, _, h.2.1, h.2.2.1, h.2.2.2⟩
theorem ArmD (w : World) (C gd ga gh n ca ch : Nat) (bt : Value) (s : DS) (r : E.Rep C w gd ga gh n ca ch bt s) (i : Int) (h1 : i < 9223372036854775808) : Calls Try.prog 9 #[.pointer (some ⟨gd, 0, none⟩), .int .i64 i] w fun e w' => e = .returned (.int .i64 (dA s i).2) ∧ OpD w C gd ga gh n ca ch bt (dA s i).1 w' := by
  unfold dA
  split
  · rename_i h; exact (ArmD.night w C gd ga gh n ca ch bt s r h i).mono fun e w' h => ⟨h.1, by rw [h.2]; exact .same r (Below.refl _ _)⟩
  · rename_i h
    split
    · rename_i h0; exact (ArmD.neg w C gd ga gh n ca ch bt s r (nni h) i h0).mono fun e w' h => ⟨h.1, by rw [h.2]; exact .same r (Below.refl _ _)⟩
    · rename_i h0; exact (E.Arm.ok w C gd ga gh n ca ch bt s r (nni h) i (by omega) h1).mono fun e w' h => ⟨h.1, _, h.2.1, h.2.2.1, h.2.2.2⟩
theorem CrashD (w : World) (C gd ga gh n ca ch : Nat) (bt : Value) (s : DS) (r : E.Rep C w gd ga gh n ca ch bt s) (A : Option Addr) (c : Nat) (p : List Int) (hlb : s.btw.length ≤ 4611686018427387904) (hp : ∀ w', Below C w w' → E.Fx gd ga gh w w' → Kd.C (Kd.int .i64) w' A p.length p) : Calls Try.prog 17 #[.pointer (some ⟨gd, 0, none⟩), .slice A p.length c] w fun e w' => e = .returned (.int .i64 0) ∧ OpD w C gd ga gh n ca ch bt (s.crashE n p) w' :=
  (E.Crash.calls w C gd ga gh n ca ch bt s r A c p hlb hp).mono fun e w' h => ⟨h.1, _, h.2.1, h.2.2.1, fun k o hk a b c _ => h.2.2.2 k o hk a b c⟩
theorem ReadD (w : World) (C gd ga gh n ca ch : Nat) (bt : Value) (s : DS) (r : E.Rep C w gd ga gh n ca ch bt s) (i : Int) : Calls Try.prog 19 #[.pointer (some ⟨gd, 0, none⟩), .int .i64 i] w fun e w' => e = .returned (.tuple #[.agg (bcells (dRd n s i).1), .int .i64 (dRd n s i).2]) ∧ Below w.heap.size w w' := by
  have hg := r.d
  unfold dRd
  split
  · rename_i h
    rw [h] at hg
    exact GA.Read.night w gd _ _ n ch bt s.al s.st hg r.n0 i
  · rename_i h
    split
    · rename_i hi
      rw [nni h] at hg
      exact GA.Read.bad w gd _ _ n ch bt s.al s.st hg r.n0 i hi
    · rename_i hi
      obtain ⟨k, rfl⟩ : ∃ k : Nat, i = k := ⟨i.toNat, by omega⟩
      rw [Int.toNat_natCast]
      exact E.Read.is w C gd ga gh n ca ch bt s r (nni h) k (by omega) _ rfl
theorem SureD (w : World) (C gd ga gh n ca ch : Nat) (bt : Value) (s : DS) (r : E.Rep C w gd ga gh n ca ch bt s) (i : Int) : Calls Try.prog 18 #[.pointer (some ⟨gd, 0, none⟩), .int .i64 i] w fun e w' => e = .returned (.tuple #[.agg (bcells (dSu n s i).1), .int .i64 (dSu n s i).2]) ∧ Below w.heap.size w w' := by
  have hg := r.d
  unfold dSu
  split
  · rename_i hi
    exact GA.Sure.bad w gd _ _ n ch bt s.al s.st s.ni hg r.n0 i hi
  · rename_i hi
    obtain ⟨k, rfl⟩ : ∃ k : Nat, i = k := ⟨i.toNat, by omega⟩
    rw [Int.toNat_natCast]
    exact E.Sure.is w C gd ga gh n ca ch bt s r k (by omega) _ rfl
theorem WriteR (w : World) (B gr gH cH n : Nat) (lt : Value) (s : RS) (r : RRep B w gr gH cH n lt s) (hst : s.st < 4611686018427387904) (hl : (s.list.length + 1) * 72 ≤ 140737488355328) (i : Int) (b : List Int) (hb : b.length = 64) : Calls Try.prog 37 #[.pointer (some ⟨gr, 0, none⟩), .int .i64 i, .agg (bcells b)] w fun e w' => e = .returned (.int .i64 (rW n s i b).2) ∧ OpR w B gr gH cH n lt (rW n s i b).1 w' := by
  unfold rW
  split
  · rename_i h; exact (Write.night w B gr gH cH n lt s r b hb h i).mono fun e w' h => ⟨h.1, .same r h.2⟩
  · rename_i h
    split
    · rename_i hi; exact (Write.bad w B gr gH cH n lt s r b hb (nni h) i hi).mono fun e w' h => ⟨h.1, .same r h.2⟩
    · rename_i hi
      obtain ⟨k, rfl⟩ : ∃ k : Nat, i = k := ⟨i.toNat, by omega⟩
      split
      · rename_i ha; exact (Write.ring w B gr gH cH n lt s r b hb (nni h) ha k (by omega)).mono fun e w' h => ⟨h.1, _, h.2.1, h.2.2.1, h.2.2.2⟩
      · rename_i ha; exact (Write.ok w B gr gH cH n lt s r b hb (nni h) ha hst hl k (by omega)).mono fun e w' ⟨h1, lt', h2, h3, h4⟩ => ⟨h1, lt', h2, h3, h4⟩
theorem FlushR (w : World) (B gr gH cH n : Nat) (lt : Value) (s : RS) (r : RRep B w gr gH cH n lt s) (hst : s.st < 4611686018427387904) (hl : s.list.length ≤ 1000000) : Calls Try.prog 39 #[.pointer (some ⟨gr, 0, none⟩)] w fun e w' => e = .returned (.int .i64 (rF s).2) ∧ OpR w B gr gH cH n lt (rF s).1 w' := by
  unfold rF
  split
  · rename_i h; exact (Flush.night w B gr gH cH n lt s r h).mono fun e w' h => ⟨h.1, by rw [h.2]; exact .same r (Below.refl _ _)⟩
  · rename_i h
    split
    · rename_i ha; exact (Flush.ring w B gr gH cH n lt s r (nni h) ha).mono fun e w' h => ⟨h.1, _, h.2.1, h.2.2.1, h.2.2.2⟩
    · rename_i ha; exact (Flush.ok w B gr gH cH n lt s r (nni h) ha hst hl).mono fun e w' h => ⟨h.1, _, h.2.1, h.2.2.1, h.2.2.2⟩
theorem ArmR (w : World) (B gr gH cH n : Nat) (lt : Value) (s : RS) (r : RRep B w gr gH cH n lt s) (i : Int) (h1 : i < 9223372036854775808) : Calls Try.prog 40 #[.pointer (some ⟨gr, 0, none⟩), .int .i64 i] w fun e w' => e = .returned (.int .i64 (rA s i).2) ∧ OpR w B gr gH cH n lt (rA s i).1 w' := by
  unfold rA
  split
  · rename_i h; exact (Arm.night w B gr gH cH n lt s r i h).mono fun e w' h => ⟨h.1, by rw [h.2]; exact .same r (Below.refl _ _)⟩
  · rename_i h
    split
    · rename_i h0; exact (Arm.neg w B gr gH cH n lt s r i (nni h) h0).mono fun e w' h => ⟨h.1, by rw [h.2]; exact .same r (Below.refl _ _)⟩
    · rename_i h0; exact (Arm.ok w B gr gH cH n lt s r (nni h) i (by omega) h1).mono fun e w' h => ⟨h.1, _, h.2.1, h.2.2.1, h.2.2.2⟩
theorem CrashR (w : World) (B gr gH cH n : Nat) (lt : Value) (s : RS) (r : RRep B w gr gH cH n lt s) (A : Option Addr) (c : Nat) (p : List Int) (hlb : s.list.length ≤ 4611686018427387904) (hp : ∀ w', Below B w w' → RFx gr gH lt w w' → Kd.C (Kd.int .i64) w' A p.length p) : Calls Try.prog 41 #[.pointer (some ⟨gr, 0, none⟩), .slice A p.length c] w fun e w' => e = .returned (.int .i64 0) ∧ OpR w B gr gH cH n lt (rC s p) w' :=
  (Crash.calls w B gr gH cH n lt s r A c p hlb hp).mono fun e w' h => ⟨h.1, _, h.2.1, h.2.2.1, h.2.2.2⟩
theorem ReadR (w : World) (B gr gH cH n : Nat) (lt : Value) (s : RS) (r : RRep B w gr gH cH n lt s) (hlb : s.list.length ≤ 4611686018427387904) (i : Int) : Calls Try.prog 38 #[.pointer (some ⟨gr, 0, none⟩), .int .i64 i] w fun e w' => e = .returned (.tuple #[.agg (bcells (rRd n s i).1), .int .i64 (rRd n s i).2]) ∧ Below w.heap.size w w' := by
  unfold rRd
  split
  · rename_i h; exact Read.night w B gr gH cH n lt s r i h
  · rename_i h
    split
    · rename_i hi; exact Read.bad w B gr gH cH n lt s r i (nni h) hi
    · rename_i hi
      obtain ⟨k, rfl⟩ : ∃ k : Nat, i = k := ⟨i.toNat, by omega⟩
      rw [Int.toNat_natCast]
      exact Read.ok w B gr gH cH n lt s r (nni h) hlb k (by omega)
theorem SureR (w : World) (B gr gH cH n : Nat) (lt : Value) (s : RS) (r : RRep B w gr gH cH n lt s) (i : Int) : Calls Try.prog 42 #[.pointer (some ⟨gr, 0, none⟩), .int .i64 i] w fun e w' => e = .returned (.tuple #[.agg (bcells (rSu n s i).1), .int .i64 (rSu n s i).2]) ∧ Below w.heap.size w w' := by
  unfold rSu
  split
  · rename_i hi; exact Sure.bad w B gr gH cH n lt s r i hi
  · rename_i hi
    obtain ⟨k, rfl⟩ : ∃ k : Nat, i = k := ⟨i.toNat, by omega⟩
    rw [Int.toNat_natCast]
    exact Sure.ok w B gr gH cH n lt s r k (by omega)

end Go.Proofs.Ytlnfdhcpnbhkdaa.GA.F
