/- What an argument's cells read as: of integers, bools, texts, structs and slices of these, whatever their depth: the reading 'DataW.trod' gives the value that the contracts speak of, with its bounds. No condition. -/
import Derived.Test.YtlnfdhcpnbhkdaaWWords
import Derived.Test.YtlnfdhcpnbhkdaaWArr
import Derived.OpenShut
import Derived.Deep.Slices
import Derived.ChangeArms
namespace Go.Proofs.YtlnfdhcpnbhkdaaW.PrintFit
open Go.RowKit Go.Deep Go.Proofs.YtlnfdhcpnbhkdaaW.PrintWords Go.ChangeShapes Go.WideShapes

variable {P : Program}

/-- Whatever is read at a type t is a value of the kind d, of which ok holds. -/
structure Fits {α : Type} (P : Program) (t : TypeId) (d : Kd α) (ok : α → Prop) : Prop where
  cells : P.cellsOf t = d.sz
  out : ∀ {H : Type} {enc : TypeId × Value → H} {w : World} {base : Nat} {spare : Nat → Bool} {held : Bool} {fuel : Nat} {cs : List Value} {x : DataW H × List MemPlace},
    DataW.trod enc P w base spare held fuel t cs = some x → ∃ v, d.K w v cs ∧ ok v

theorem fits_int {t : TypeId} {k : IntKind} (ht : P.underlying t = some (.int k)) (hc : P.cellsOf t = 1) : Fits P t (Kd.int k) (fun n => (Lit.int k n).wf = true) :=
  ⟨hc, fun h => by
    obtain ⟨n, rfl, _, hw⟩ := DataW.trod_int ht h
    exact ⟨n, rfl, hw⟩⟩
theorem fits_bool {t : TypeId} (ht : P.underlying t = some .bool) (hc : P.cellsOf t = 1) : Fits P t Kd.bool (fun _ => True) :=
  ⟨hc, fun h => by
    obtain ⟨n, rfl, _⟩ := DataW.trod_bool ht h
    exact ⟨n, rfl, trivial⟩⟩
theorem fits_string {t : TypeId} (ht : P.underlying t = some .string) (hc : P.cellsOf t = 1) : Fits P t Kd.string (fun s => s.size ≤ maxLen) :=
  ⟨hc, fun h => by
    obtain ⟨n, rfl, _, hw⟩ := DataW.trod_string ht h
    exact ⟨n, rfl, hw⟩⟩

/-- The fields from one on, which begins at cell o. -/
def From {α : Type} (P : Program) (fs : List Field) (o : Nat) (d : Kd α) (ok : α → Prop) : Prop :=
  ∀ {H : Type} {enc : TypeId × Value → H} {w : World} {base : Nat} {spare : Nat → Bool} {held : Bool} {n : Nat} {cs : List Value} {xs : List (DataW H × List MemPlace)},
    xs.length = fs.length → (∀ (i : Nat) (f : Field), fs[i]? = some f → DataW.trod enc P w base spare held n f.type ((cs.drop f.offset).take (P.cellsOf f.type)) = xs[i]?) → ∃ v, d.K w v ((cs.drop o).take d.sz) ∧ ok v

theorem from_last {α : Type} {f : Field} {o : Nat} {d : Kd α} {ok : α → Prop} (ho : f.offset = o) (hf : Fits P f.type d ok) : From P [f] o d ok := by
  intro H enc w base spare held n cs xs hx h
  have h0 := h 0 f rfl
  rw [ho, hf.cells] at h0
  match xs, hx with
  | [x], _ => exact hf.out h0

theorem from_cons {α β : Type} {f : Field} {fs : List Field} {o : Nat} {d : Kd α} {e : Kd β} {ok : α → Prop} {ok' : β → Prop} (ho : f.offset = o) (hf : Fits P f.type d ok) (hr : From P fs (o + d.sz) e ok') :
    From P (f :: fs) o (Kd.pair d e) (fun v => ok v.1 ∧ ok' v.2) := by
  intro H enc w base spare held n cs xs hx h
  match xs, hx with
  | x :: xs, hx =>
    have h0 := h 0 f rfl
    rw [ho, hf.cells] at h0
    obtain ⟨v, hv, hok⟩ := hf.out h0
    obtain ⟨u, hu, hok'⟩ := hr (xs := xs) (by simpa using hx) (fun i g hg => by have := h (i + 1) g (by simpa using hg); simpa using this)
    refine ⟨(v, u), ⟨_, _, ?_, hv, hu⟩, hok, hok'⟩
    show (cs.drop o).take (d.sz + e.sz) = _
    rw [List.take_add, List.drop_drop]

theorem fits_struct {α β : Type} {t : TypeId} {fs : List Field} {d : Kd α} {ok : α → Prop} {g : β → α} {ok' : β → Prop} (ht : P.underlying t = some (.struct fs.toArray)) (hc : P.cellsOf t = d.sz) (hf : From P fs 0 d ok)
    (hg : ∀ v : α, ok v → ∃ x : β, g x = v ∧ ok' x) : Fits P t (Kd.iso d g) ok' :=
  ⟨hc, fun h => by
    obtain ⟨xs, n, _, _, hl, hx, hi⟩ := DataW.trod_struct ht h
    obtain ⟨v, hv, hok⟩ := hf (by simpa using hx) (fun i f hif => hi i f (by simpa using hif))
    obtain ⟨x, rfl, hx'⟩ := hg v hok
    rw [List.drop_zero, ← hc, ← hl, List.take_length] at hv
    exact ⟨x, hv, hx'⟩⟩

theorem list_of {α : Type} (n : Nat) (p : Nat → α → Prop) : (∀ i, i < n → ∃ x, p i x) → ∃ l : List α, l.length = n ∧ ∀ j x, l[j]? = some x → p j x := by
  induction n with
  | zero => intro _; exact ⟨[], rfl, fun j x h => by simp at h⟩
  | succ n ih =>
    intro h
    obtain ⟨l, hl, hp⟩ := ih (fun i hi => h i (by omega))
    obtain ⟨x, hx⟩ := h n (by omega)
    refine ⟨l ++ [x], by simp [hl], fun j y hj => ?_⟩
    rw [List.getElem?_append] at hj
    split at hj
    · exact hp j y hj
    · rename_i hge
      have hj0 : j - l.length = 0 := by
        rcases Nat.eq_zero_or_pos (j - l.length) with h0 | h0
        · exact h0
        · rw [List.getElem?_eq_none (by simp; omega)] at hj; cases hj
      rw [hj0] at hj
      simp at hj
      have : j = n := by omega
      subst this; subst hj
      exact hx

theorem slice_K {α : Type} {t e : TypeId} {d : Kd α} {ok : α → Prop} (ht : P.underlying t = some (.slice e)) (hf : Fits P e d ok)
    {H : Type} {enc : TypeId × Value → H} {w : World} {base : Nat} {spare : Nat → Bool} {held : Bool} {fuel : Nat} {cs : List Value} {x : DataW H × List MemPlace}
    (h : DataW.trod enc P w base spare held fuel t cs = some x) : ∃ l : List α, (Kd.slice e d).K w l cs ∧ (l.length ≤ maxLen ∧ ∀ y ∈ l, ok y) := by
  rcases open_slice ht h with ⟨rfl, _⟩ | ⟨a, len, cap, m, n, D, Pl, rfl, hb, hl, hm, hmm, _, hi⟩
  · exact ⟨[], ⟨none, 0, rfl, Nat.le_refl _, Kd.C_nil d w⟩, by simp, by simp⟩
  · have hlm : len ≤ m := by rw [hmm]; split <;> omega
    obtain ⟨l, hll, hp⟩ := list_of len (fun i y => ok y ∧ ∃ c : List Value, c.length = d.sz ∧ d.K w y c ∧ ∀ j u, c[j]? = some u → w.cell? (a.add (i * d.sz + j)) = some u) (fun i hlt => by
      obtain ⟨cs', hc, ht'⟩ := hi i (by omega)
      rw [hf.cells] at hc
      obtain ⟨_, hcl, hat⟩ := World.cells?_some hc
      obtain ⟨y, hy, hok⟩ := hf.out ht'
      refine ⟨y, hok, cs', hcl, hy, fun j u hu => ?_⟩
      have hjl : j < d.sz := by
        rw [← hcl]
        exact (List.getElem?_eq_some_iff.1 hu).1
      have := hat j hjl
      rw [← Go.Deep.add_add, this]
      exact hu)
    have hml : len ≤ 9223372036854775807 := by have : cap ≤ maxLen := hm; unfold maxLen at this; omega
    refine ⟨l, ⟨some a, cap, by rw [hll], by omega, ⟨rfl, by omega, fun _ => ⟨a, rfl, fun j y hj => ?_⟩⟩⟩, ?_, fun y hy => ?_⟩
    · obtain ⟨_, c, h1, h2, h3⟩ := hp j y hj
      exact ⟨c, h1, h2, h3⟩
    · rw [hll]; exact Nat.le_trans hl hm
    · obtain ⟨j, hj⟩ := List.mem_iff_getElem?.1 hy
      exact (hp j y hj).1

theorem fits_slice {α : Type} {t e : TypeId} {d : Kd α} {ok : α → Prop} (ht : P.underlying t = some (.slice e)) (hc : P.cellsOf t = 1) (hf : Fits P e d ok) :
    Fits P t (Kd.slice e d) (fun l => l.length ≤ maxLen ∧ ∀ y ∈ l, ok y) := ⟨hc, fun h => slice_K ht hf h⟩

/-- An array: of n elements, each of which reads. -/
theorem fits_array {α : Type} {t e : TypeId} {n : Nat} {d : Kd α} {ok : α → Prop} (ht : P.underlying t = some (.array n e)) (hs : 0 < d.sz) (hc : P.cellsOf t = n * d.sz) (hf : Fits P e d ok) :
    Fits P t (Kd.arr n d hs) (fun l => l.length = n ∧ ∀ y ∈ l, ok y) :=
  ⟨hc, fun {H enc w base spare held fuel cs x} h => by
    obtain ⟨xs, m, _, _, hl, hx, hi⟩ := DataW.trod_array ht h
    obtain ⟨l, hll, hp⟩ := list_of n (fun i y => ok y ∧ d.K w y ((cs.drop (i * d.sz)).take d.sz)) (fun i hlt => by
      have h1 := hi i hlt
      rw [hf.cells, List.getElem?_eq_getElem (by omega)] at h1
      obtain ⟨v, hv, hok⟩ := hf.out h1
      exact ⟨v, hok, hv⟩)
    refine ⟨l, ⟨hll, by rw [hll, hl, hc], fun j p hj => (hp j p hj).2⟩, hll, fun y hy => ?_⟩
    obtain ⟨j, hj⟩ := List.mem_iff_getElem?.1 hy
    exact (hp j y hj).1⟩
theorem okWide_array {t e : TypeId} {n : Nat} {w : World} {r : Reach} {base : Nat} {v : Value} (ht : P.underlying t = some (.array n e)) (h : Value.okWide P w r base t v) : ∃ cs, v = .agg cs ∧ cs.size = P.cellsOf t := by
  simp only [Value.okWide, ht] at h
  obtain ⟨cs, h1, h2, _⟩ := h
  exact ⟨cs, h1, h2⟩

end Go.Proofs.YtlnfdhcpnbhkdaaW.PrintFit
