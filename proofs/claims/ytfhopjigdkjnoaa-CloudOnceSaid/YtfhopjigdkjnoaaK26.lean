/- Ask and Act, all cases together. No condition. -/
import Derived.Test.YtfhopjigdkjnoaaK25
import Derived.Laws.CopyOwn
import Derived.Laws.CopyRow
import Derived.ChangeKeysEq
import Derived.Deep.RegionHeld3
import Derived.Deep.MidRow
import Derived.Shelf.Abstract
import Derived.Maps.OwnSet
import Derived.Maps.AppendAt
import Derived.WalkSpells
namespace Go.Proofs.Ytfhopjigdkjnoaa.GA
open Go.RowKit Go.Shelf Go.Proofs.YtfhopjigdkjnoaaW.PrintWords Go.Proofs.YtfhopjigdkjnoaaW.PrintLast Go.Proofs.YtfhopjigdkjnoaaW.PrintMore
set_option linter.unusedVariables false
set_option linter.unusedSimpArgs false

theorem enters28 : ∀ args w, (callFunc 28 args).run Try.prog w = .ok (.enter 28 args) w := enters_of Try.func28 (by kernel_rfl) rfl
theorem enters29 : ∀ args w, (callFunc 29 args).run Try.prog w = .ok (.enter 29 args) w := enters_of Try.func29 (by kernel_rfl) rfl
theorem enters30 : ∀ args w, (callFunc 30 args).run Try.prog w = .ok (.enter 30 args) w := enters_of Try.func30 (by kernel_rfl) rfl
theorem enters31 : ∀ args w, (callFunc 31 args).run Try.prog w = .ok (.enter 31 args) w := enters_of Try.func31 (by kernel_rfl) rfl
theorem enters32 : ∀ args w, (callFunc 32 args).run Try.prog w = .ok (.enter 32 args) w := enters_of Try.func32 (by kernel_rfl) rfl
theorem enters33 : ∀ args w, (callFunc 33 args).run Try.prog w = .ok (.enter 33 args) w := enters_of Try.func33 (by kernel_rfl) rfl
theorem enters34 : ∀ args w, (callFunc 34 args).run Try.prog w = .ok (.enter 34 args) w := enters_of Try.func34 (by kernel_rfl) rfl
theorem enters35 : ∀ args w, (callFunc 35 args).run Try.prog w = .ok (.enter 35 args) w := enters_of Try.func35 (by kernel_rfl) rfl

theorem AskS.calls (w : World) (gc mb B : Nat) (vl vw : Value) (s : CS) (hC : Cl w gc mb B vl vw s) (hk : Ok s) (hn : s.W.length ≤ 1000000) (hn2 : s.L.length ≤ 1000000) (r : S27) (hok : okK r.f1) (h4 : 0 ≤ r.f4) : Calls Try.prog 7 #[.pointer (some ⟨gc, 0, none⟩), .agg #[.int .u8 r.f0, .int .u64 r.f1, .int .i64 r.f2, .bool r.f3, .int .u64 r.f4]] w fun e' w' => ∃ v, e' = .returned v ∧ Evs w' w.heap.size v (askS s r).2 ∧ Post w w' gc mb B vl vw (askS s r).1 := by
  unfold askS
  split
  · rename_i q
    cases ha : asksP r with
    | false => exact (Ask.no w gc mb B vl vw s hC hn hn2 r ha).mono fun e w' h => ⟨_, h.1, rfl, h.2⟩
    | true =>
      rw [ha] at q
      exact (Ask.waits w gc mb B vl vw s hC hn hn2 r ha (q.resolve_left (by decide))).mono fun e w' h => ⟨_, h.1, rfl, h.2⟩
  · rename_i q
    have qa : asksP r = true := by
      cases e : asksP r with
      | true => rfl
      | false => exact absurd (.inl e) q
    have qw : s.W.any (fun x => x.f1 == r.f1) = false := by
      cases e : s.W.any (fun x => x.f1 == r.f1) with
      | false => rfl
      | true => exact absurd (.inr e) q
    split
    · rename_i h1
      split
      · rename_i y hf
        obtain ⟨hy, e⟩ := find_some hf
        have hy' : (r.f1, y.2) ∈ s.A := by rw [← e]; exact hy
        exact Ask.again w gc mb B vl vw s hC hn hn2 r y.2 hk.keys hy' qa qw h1
      · rename_i hf
        exact (Ask.new w gc mb B vl vw s hC hn hn2 r hk.keys hok (find_none hf) qa qw h1).mono fun e w' h => ⟨_, h.1, rfl, h.2⟩
    · rename_i h1
      split
      · rename_i q4
        exact (Ask.noinst w gc mb B vl vw s hC hn hn2 r qa qw h1 (by omega)).mono fun e w' h => ⟨_, h.1, rfl, h.2⟩
      · rename_i q4
        have hi : (r.f4 - 1).toNat < s.L.length := by omega
        have e4 : r.f4 = ((r.f4 - 1).toNat : Int) + 1 := by omega
        rw [at50_eq hi]
        split
        · rename_i h3
          exact Ask.gone w gc mb B vl vw s hC hn hn2 r _ hi e4 h1 h3 qa qw
        · rename_i h3
          exact (Ask.put w gc mb B vl vw s hC hn hn2 r _ hi e4 h1 h3 qa qw).mono fun e w' h => ⟨_, h.1, rfl, h.2⟩

theorem hap_not {ak : Int} (h : ¬ isAns ak) : ∀ x ∈ answersL, x.1 ≠ ak := by
  intro x hx e
  simp only [answersL, List.mem_cons, List.not_mem_nil, or_false] at hx
  unfold isAns at h
  rcases hx with rfl | rfl | rfl | rfl <;> simp at e <;> omega
theorem hap_not2 {ak : Int} (h : ¬ isHap ak) : ∀ x ∈ happensL, x.1 ≠ ak := by
  intro x hx e
  simp only [happensL, List.mem_cons, List.not_mem_nil, or_false] at hx
  unfold isHap at h
  rcases hx with rfl | rfl | rfl | rfl <;> simp at e <;> omega
theorem ans_in {ak : Int} (h : isAns ak) : ∃ g q, (ak, .func (.func g) #[] #[]) ∈ answersL ∧ (ak, .int .u8 q) ∈ kindsL ∧ q = kindOf ak := by
  rcases h with rfl | rfl | rfl | rfl
  · exact ⟨28, 1, by simp [answersL], by simp [kindsL], rfl⟩
  · exact ⟨29, 1, by simp [answersL], by simp [kindsL], rfl⟩
  · exact ⟨30, 3, by simp [answersL], by simp [kindsL], rfl⟩
  · exact ⟨31, 2, by simp [answersL], by simp [kindsL], rfl⟩
theorem hap_in {ak : Int} (h : isHap ak) : ∃ g : Nat, (ak, .func (.func g) #[] #[]) ∈ happensL := by
  rcases h with rfl | rfl | rfl | rfl
  · exact ⟨32, by simp [happensL]⟩
  · exact ⟨33, by simp [happensL]⟩
  · exact ⟨34, by simp [happensL]⟩
  · exact ⟨35, by simp [happensL]⟩

theorem AnsS.calls (w : World) (gc mb B : Nat) (vl vw : Value) (s : CS) (hC : Cl w gc mb B vl vw s) (hk : Ok s) (hn : s.W.length ≤ 1000000) (hn2 : s.L.length < 8192) (n : Nat) (ak aa ab at_ : Int) (hnw : n < s.W.length) (ha : isAns ak) (hq : s.W[n].f0 = kindOf ak) : Calls Try.prog 8 #[.pointer (some ⟨gc, 0, none⟩), .agg #[.int .u8 ak, .int .i64 (n : Int), .int .i64 aa, .int .i64 ab, .int .u64 at_]] w fun e' w' => ∃ v, e' = .returned v ∧ Evs w' w.heap.size v (ansS s ak s.W[n]).2 ∧ Post w w' gc mb B vl vw (ansS s ak s.W[n]).1 := by
  have hm : s.W[n] ∈ s.W := List.getElem_mem hnw
  have hb := hC.base
  have ot : s.W[n].f0 ≠ 1 → ∃ i, i < s.L.length ∧ s.W[n].f4 = (i : Int) + 1 ∧ (s.W[n].f4 - 1).toNat = i := fun e => by
    obtain ⟨i, hi, e4, hg⟩ := hk.wid _ hm e
    exact ⟨i, hi, e4, by omega⟩
  have fin : ∀ (vl vw : Value) {o : Option SE} {t : CS} {e' : Ending} {w' : World}, (∃ v W, e' = .returned v ∧ Below w.heap.size w W ∧ Evs w' W.heap.size v o ∧ Post W w' gc mb B vl vw t) → ∃ v, e' = .returned v ∧ Evs w' w.heap.size v o ∧ Post w w' gc mb B vl vw t := fun vl vw {o t e' w'} h => by
    obtain ⟨v, W, e, h1, h2, h3⟩ := h
    exact ⟨v, e, h2.base h1.size, h3.first h1 hb⟩
  unfold ansS
  rcases ha with rfl | rfl | rfl | rfl
  · rw [if_pos rfl]
    refine (Act.ans w gc mb B vl vw s hC hn (by omega) n hnw 1 aa ab at_ (by decide) 28 (by simp [answersL]) 1 (by simp [kindsL]) hq enters28 (fun W v w' => Evs w' W.heap.size v _ ∧ Post W w' gc mb B vl vw _) fun W hW => grant.calls W gc mb B vl vw s hW hn _ _ _ _ _ s.W[n] hk.keys (hk.wok _ hm) (hk.wlau _ hm hq) hn2).mono fun e w' h => fin vl vw h
  · rw [if_neg (by decide), if_pos rfl]
    refine (Act.ans w gc mb B vl vw s hC hn (by omega) n hnw 2 aa ab at_ (by decide) 29 (by simp [answersL]) 1 (by simp [kindsL]) hq enters29 (fun W v w' => Evs w' W.heap.size v _ ∧ Post W w' gc mb B vl vw _) fun W hW => refuse.calls W gc mb B vl vw s hW hn _ _ _ _ _ s.W[n] hk.keys (hk.wok _ hm) (hk.wlau _ hm hq)).mono fun e w' h => fin vl vw h
  · rw [if_neg (by decide), if_neg (by decide), if_pos rfl]
    obtain ⟨i, hi, e4, en⟩ := ot (by rw [hq]; decide)
    obtain ⟨gl, c, rfl, -⟩ := hC.form hi
    rw [en]
    refine (Act.ans w gc mb B _ vw s hC hn (by omega) n hnw 4 aa ab at_ (by decide) 30 (by simp [answersL]) 3 (by simp [kindsL]) hq enters30 (fun W v w' => Evs w' W.heap.size v (some ⟨16, 0, s.W[n].f4, 0, 0, 0, 0⟩) ∧ Post W w' gc mb B _ vw (stopS' s i s.W[n].f1)) fun W hW => ?_).mono fun e w' h => fin _ vw h
    rw [e4]
    have := stop.calls W gc mb B gl c vw s hW hn (by omega) 4 n aa ab at_ s.W[n] i hi e4
    rw [e4] at this
    exact this
  · rw [if_neg (by decide), if_neg (by decide), if_neg (by decide)]
    obtain ⟨i, hi, e4, en⟩ := ot (by rw [hq]; decide)
    obtain ⟨gl, c, rfl, -⟩ := hC.form hi
    rw [en, at50_eq hi]
    exact (Act.ans w gc mb B _ vw s hC hn (by omega) n hnw 9 aa ab at_ (by decide) 31 (by simp [answersL]) 2 (by simp [kindsL]) hq enters31 (fun W v w' => Evs w' W.heap.size v (some ⟨15, 0, s.L[i].f0, 0, 0, 0, 0⟩) ∧ Post W w' gc mb B _ vw (goneS s i)) fun W hW => end_.calls W gc mb B gl c vw s hW hn (by omega) 9 n aa ab at_ s.W[n] i hi e4).mono fun e w' h => fin _ vw h

theorem HapS.calls (w : World) (gc mb B : Nat) (vl vw : Value) (s : CS) (hC : Cl w gc mb B vl vw s) (hk : Ok s) (hn : s.W.length ≤ 1000000) (hn2 : s.L.length < 8192) (n : Nat) (ak aa ab at_ : Int) (hnl : n < s.L.length) (ha : isHap ak) (hg : s.L[n].f3 ≠ 4) : Calls Try.prog 8 #[.pointer (some ⟨gc, 0, none⟩), .agg #[.int .u8 ak, .int .i64 (n : Int), .int .i64 aa, .int .i64 ab, .int .u64 at_]] w fun e' w' => ∃ v, e' = .returned v ∧ Evs w' w.heap.size v (hapS s ak at_ n).2 ∧ Post w w' gc mb B vl vw (hapS s ak at_ n).1 := by
  have hb := hC.base
  obtain ⟨gl, c, rfl, -⟩ := hC.form hnl
  have na : ∀ x ∈ answersL, x.1 ≠ ak := hap_not (by unfold isHap at ha; unfold isAns; omega)
  have fin : ∀ {o : Option SE} {t : CS} {e' : Ending} {w' : World}, (∃ v W, e' = .returned v ∧ Below w.heap.size w W ∧ Evs w' W.heap.size v o ∧ Post W w' gc mb B (.slice (some ⟨gl, 0, none⟩) s.L.length c) vw t) → ∃ v, e' = .returned v ∧ Evs w' w.heap.size v o ∧ Post w w' gc mb B (.slice (some ⟨gl, 0, none⟩) s.L.length c) vw t := fun {o t e' w'} h => by
    obtain ⟨v, W, e, h1, h2, h3⟩ := h
    exact ⟨v, e, h2.base h1.size, h3.first h1 hb⟩
  have at1 : at50 s.L n = s.L[n] := at50_eq hnl
  have go : ∀ (g : Nat) (o : Option SE) (t : CS), ak ≠ 8 → okK8 ak → (ak, Value.func (.func g) #[] #[]) ∈ happensL → (∀ args w, (callFunc g args).run Try.prog w = .ok (.enter g args) w) → (∀ W, Cl W gc mb B (.slice (some ⟨gl, 0, none⟩) s.L.length c) vw s → Calls Try.prog g #[.pointer (some ⟨gc, 0, none⟩), .agg #[.int .u8 ak, .int .i64 (n : Int), .int .i64 aa, .int .i64 ab, .int .u64 at_], .pointer (some ⟨gl, n * 5, none⟩)] W fun e w' => ∃ v, e = .returned v ∧ Evs w' W.heap.size v o ∧ Post W w' gc mb B (.slice (some ⟨gl, 0, none⟩) s.L.length c) vw t) → Calls Try.prog 8 #[.pointer (some ⟨gc, 0, none⟩), .agg #[.int .u8 ak, .int .i64 (n : Int), .int .i64 aa, .int .i64 ab, .int .u64 at_]] w fun e' w' => ∃ v, e' = .returned v ∧ Evs w' w.heap.size v o ∧ Post w w' gc mb B (.slice (some ⟨gl, 0, none⟩) s.L.length c) vw t := fun g o t n8 o8 hin he hc => (Act.hap w gc mb B gl c vw s hC hn (by omega) n hnl ak aa ab at_ n8 o8 na g hin hg he (fun W v w' => Evs w' W.heap.size v o ∧ Post W w' gc mb B (.slice (some ⟨gl, 0, none⟩) s.L.length c) vw t) hc).mono fun e w' h => fin h
  unfold hapS
  rw [at1]
  rcases ha with rfl | rfl | rfl | rfl
  · rw [if_pos rfl]
    split
    · rename_i h1
      exact go 32 _ _ (by decide) rfl (by simp [happensL]) enters32 fun W hW => ready.boot W gc mb B gl c vw s hW hn (by omega) _ _ _ _ _ n hnl h1
    · rename_i h1
      split
      · rename_i h2
        exact go 32 _ _ (by decide) rfl (by simp [happensL]) enters32 fun W hW => ready.start W gc mb B gl c vw s hW hn (by omega) _ _ _ _ _ n hnl h2.1 h2.2
      · rename_i h2
        by_cases h3 : s.L[n].f3 = 3
        · exact go 32 none s (by decide) rfl (by simp [happensL]) enters32 fun W hW => (ready.not2 W gc mb B gl c vw s hW hn (by omega) _ _ _ _ _ n hnl h3 (fun q => h2 ⟨h3, q⟩)).mono fun e w' h => ⟨_, h.1, rfl, h.2⟩
        · exact go 32 none s (by decide) rfl (by simp [happensL]) enters32 fun W hW => (ready.not1 W gc mb B gl c vw s hW hn (by omega) _ _ _ _ _ n hnl h1 h3).mono fun e w' h => ⟨_, h.1, rfl, h.2⟩
  · rw [if_neg (by decide), if_pos rfl]
    split
    · rename_i h1
      exact go 33 none s (by decide) rfl (by simp [happensL]) enters33 fun W hW => (notice.no W gc mb B gl c vw s hW hn (by omega) _ _ _ _ _ n hnl h1).mono fun e w' h => ⟨_, h.1, rfl, h.2⟩
    · rename_i h1
      exact go 33 _ _ (by decide) rfl (by simp [happensL]) enters33 fun W hW => notice.yes W gc mb B gl c vw s hW hn (by omega) _ _ _ _ _ n hnl (by omega)
  · rw [if_neg (by decide), if_neg (by decide), if_pos rfl]
    exact go 34 _ _ (by decide) rfl (by simp [happensL]) enters34 fun W hW => kill.calls W gc mb B gl c vw s hW hn (by omega) _ _ _ _ _ n hnl
  · rw [if_neg (by decide), if_neg (by decide), if_neg (by decide)]
    exact go 35 _ _ (by decide) rfl (by simp [happensL]) enters35 fun W hW => risk.calls W gc mb B gl c vw s hW hn (by omega) _ _ _ _ _ n hnl

theorem ActS.calls (w : World) (gc mb B : Nat) (vl vw : Value) (s : CS) (hC : Cl w gc mb B vl vw s) (hk : Ok s) (hn : s.W.length ≤ 1000000) (hn2 : s.L.length < 8192) (ak an aa ab at_ : Int) (h8 : okK8 ak) : Calls Try.prog 8 #[.pointer (some ⟨gc, 0, none⟩), .agg #[.int .u8 ak, .int .i64 an, .int .i64 aa, .int .i64 ab, .int .u64 at_]] w fun e' w' => ∃ v, e' = .returned v ∧ (ak ≠ 8 → Evs w' w.heap.size v (actS s ak an at_).2) ∧ Post w w' gc mb B vl vw (actS s ak an at_).1 := by
  unfold actS
  have no : ∀ {e' : Ending} {w' : World}, (e' = .returned (.slice none 0 0) ∧ Post w w' gc mb B vl vw s) → ∃ v, e' = .returned v ∧ (ak ≠ 8 → Evs w' w.heap.size v none) ∧ Post w w' gc mb B vl vw s := fun h => ⟨_, h.1, fun _ => rfl, h.2⟩
  split
  · rename_i hneg
    exact (Act.neg w gc mb B vl vw s hC hn (by omega) ak an aa ab at_ hneg).mono fun e w' h => no h
  · rename_i hneg
    split
    · rename_i hk8
      exact (Act.quote w gc mb B vl vw s hC hn (by omega) ak an aa ab at_ hneg hk8).mono fun e w' ⟨v, h1, h2⟩ => ⟨v, h1, fun q => absurd hk8 q, h2⟩
    · rename_i hk8
      obtain ⟨n, rfl⟩ : ∃ n : Nat, an = n := ⟨an.toNat, by omega⟩
      rw [Int.toNat_natCast]
      split
      · rename_i ha
        by_cases hnw : n < s.W.length
        · rw [at27_eq hnw]
          split
          · rename_i q
            exact (AnsS.calls w gc mb B vl vw s hC hk hn hn2 n ak aa ab at_ hnw ha q.2).mono fun e w' ⟨v, h1, h2, h3⟩ => ⟨v, h1, fun _ => h2, h3⟩
          · rename_i q
            obtain ⟨g, k, hin, hq, rfl⟩ := ans_in ha
            exact (Act.mis w gc mb B vl vw s hC hn (by omega) n hnw ak aa ab at_ hk8 g hin _ hq (fun e => q ⟨hnw, e⟩)).mono fun e w' h => no h
        · rw [if_neg (fun q => hnw q.1)]
          obtain ⟨g, k, hin, hq, rfl⟩ := ans_in ha
          exact (Act.high w gc mb B vl vw s hC hn (by omega) ak n aa ab at_ hneg hk8 _ hin (by omega)).mono fun e w' h => no h
      · rename_i hna
        split
        · rename_i hh
          obtain ⟨g, hin⟩ := hap_in hh
          by_cases hnl : n < s.L.length
          · rw [at50_eq hnl]
            split
            · rename_i q
              exact (HapS.calls w gc mb B vl vw s hC hk hn hn2 n ak aa ab at_ hnl hh q.2).mono fun e w' ⟨v, h1, h2, h3⟩ => ⟨v, h1, fun _ => h2, h3⟩
            · rename_i q
              obtain ⟨gl, c, rfl, -⟩ := hC.form hnl
              exact (Act.hgone w gc mb B gl c vw s hC hn (by omega) n hnl ak aa ab at_ hk8 h8 (hap_not hna) _ hin (by by_cases e : s.L[n].f3 = 4; exact e; exact absurd ⟨hnl, e⟩ q)).mono fun e w' h => no h
          · rw [if_neg (fun q => hnl q.1)]
            exact (Act.hhigh w gc mb B vl vw s hC hn (by omega) ak n aa ab at_ hneg hk8 h8 (hap_not hna) _ hin (by omega)).mono fun e w' h => no h
        · rename_i hnh
          exact (Act.other w gc mb B vl vw s hC hn (by omega) ak n aa ab at_ hneg hk8 h8 (hap_not hna) (hap_not2 hnh)).mono fun e w' h => no h

end Go.Proofs.Ytfhopjigdkjnoaa.GA
