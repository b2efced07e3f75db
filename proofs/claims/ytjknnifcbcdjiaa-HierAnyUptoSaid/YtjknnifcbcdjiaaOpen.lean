/- From an argument that reads as data to what a walk knows of its cells, kind by kind. -/
import Derived.Test.YtjknnifcbcdjiaaWWords
import Derived.ChangeArms
import Derived.Deep.Slices
import Derived.Carry
set_option linter.unusedVariables false
set_option linter.unusedSimpArgs false
namespace Go.Proofs.Ytjknnifcbcdjiaa.Opn
open Go.ChangeShapes Go.WideShapes Go.Deep Go.Proofs.YtjknnifcbcdjiaaW.PrintWords

/-- Whatever reads as data of type t is a value of kind k that is good. -/
def Opens (P : Program) {α : Type} (k : Kd α) (t : TypeId) (good : α → Prop) : Prop :=
  ∀ (H : Type) (enc : TypeId × Value → H) (w : World) (spare : Nat → Bool) (held : Bool) (fuel : Nat) (cs : List Value) (x : DataW H × List MemPlace),
    DataW.trod enc P w 0 spare held fuel t cs = some x → ∃ y, k.K w y cs ∧ good y
/-- The same of a struct's fields from one on. -/
def OpensF (P : Program) {α : Type} (k : Kd α) (fs : List Field) (o : Nat) (good : α → Prop) : Prop :=
  ∀ (H : Type) (enc : TypeId × Value → H) (w : World) (spare : Nat → Bool) (held : Bool) (n : Nat) (cs : List Value),
    cs.length = o + k.sz → (∀ f ∈ fs, ∃ x, DataW.trod enc P w 0 spare held n f.type ((cs.drop f.offset).take (P.cellsOf f.type)) = some x) → ∃ y, k.K w y (cs.drop o) ∧ good y

section
variable {P : Program}
theorem opens_int {t : TypeId} {k : IntKind} (ht : P.underlying t = some (.int k)) : Opens P (Kd.int k) t (fun n => (Lit.int k n).wf = true) := by
  intro H enc w sp held fuel cs x h
  obtain ⟨n, rfl, _, hw⟩ := DataW.trod_int ht h
  exact ⟨n, rfl, hw⟩
theorem opens_bool {t : TypeId} (ht : P.underlying t = some .bool) : Opens P Kd.bool t (fun _ => True) := by
  intro H enc w sp held fuel cs x h
  obtain ⟨n, rfl, _⟩ := DataW.trod_bool ht h
  exact ⟨n, rfl, trivial⟩
theorem opens_string {t : TypeId} (ht : P.underlying t = some .string) : Opens P Kd.string t (fun s => s.size ≤ maxLen) := by
  intro H enc w sp held fuel cs x h
  obtain ⟨s, rfl, _, hs⟩ := DataW.trod_string ht h
  exact ⟨s, rfl, hs⟩
theorem list_of {α : Type} {p : Nat → α → Prop} (n : Nat) (h : ∀ i, i < n → ∃ y, p i y) : ∃ l : List α, l.length = n ∧ ∀ i y, l[i]? = some y → p i y := by
  induction n with
  | zero => exact ⟨[], rfl, fun i y h => by simp at h⟩
  | succ n ih =>
    obtain ⟨l, hl, hp⟩ := ih (fun i hi => h i (Nat.lt_succ_of_lt hi))
    obtain ⟨y, hy⟩ := h n (Nat.lt_succ_self n)
    refine ⟨l ++ [y], by simp [hl], fun i z hz => ?_⟩
    rw [List.getElem?_append] at hz
    split at hz
    · exact hp i z hz
    · rename_i hlt
      have hi : i - l.length = 0 := by
        rcases Nat.eq_zero_or_pos (i - l.length) with h0 | h0
        · exact h0
        · rw [List.getElem?_eq_none (by simp; omega)] at hz; cases hz
      rw [hi] at hz
      simp at hz
      subst hz
      have : i = n := by omega
      rw [this]; exact hy
theorem add_add (a : Addr) (i j : Nat) : (a.add i).add j = a.add (i + j) := by
  unfold Addr.add
  by_cases hi : i = 0 <;> by_cases hj : j = 0 <;> simp [hi, hj, Nat.add_assoc]
theorem opens_slice {α : Type} {k : Kd α} {t e : TypeId} {good : α → Prop} (ht : P.underlying t = some (.slice e)) (hc : P.cellsOf e = k.sz) (h : Opens P k e good) :
    Opens P (Kd.slice e k) t (fun l => l.length ≤ maxLen ∧ ∀ x ∈ l, good x) := by
  intro H enc w sp held fuel cs x hx
  rcases open_slice ht hx with ⟨rfl, _⟩ | ⟨a, len, cap, m, n, D, Pl, rfl, _, hl, hm, hmm, _, hel⟩
  · refine ⟨[], ⟨none, 0, rfl, Nat.le_refl _, rfl, Nat.zero_le _, fun h => absurd h (Nat.lt_irrefl _)⟩, Nat.zero_le _, by simp⟩
  · have hlm : len ≤ m := by rw [hmm]; split <;> omega
    obtain ⟨l, hll, hp⟩ := list_of (p := fun i y => ∃ cs', w.cells? 0 (a.add (i * P.cellsOf e)) (P.cellsOf e) = some cs' ∧ k.K w y cs' ∧ good y) len (fun i hi => by
      obtain ⟨cs', h1, h2⟩ := hel i (by omega)
      obtain ⟨y, h3, h4⟩ := h H enc w sp held n cs' _ h2
      exact ⟨y, cs', h1, h3, h4⟩)
    refine ⟨l, ⟨some a, cap, by rw [hll], by rw [hll]; exact hl, rfl, by rw [hll]; unfold maxLen at hm; omega, fun _ => ⟨a, rfl, fun j p hj => ?_⟩⟩, by rw [hll]; omega, fun y hy => ?_⟩
    · obtain ⟨cs', h1, h2, _⟩ := hp j p hj
      obtain ⟨_, hlen, hcell⟩ := World.cells?_some h1
      refine ⟨cs', by rw [hlen, hc], h2, fun i u hu => ?_⟩
      have hi : i < P.cellsOf e := by
        rw [← hlen]
        exact (List.getElem?_eq_some_iff.1 hu).1
      rw [← hc, ← add_add, hcell i hi, hu]
    · obtain ⟨i, hi⟩ := List.getElem?_of_mem hy
      obtain ⟨_, _, _, hg⟩ := hp i y hi
      exact hg
theorem opensF_last {α : Type} {k : Kd α} {f : Field} {o : Nat} {good : α → Prop} (hf : f.offset = o) (hc : P.cellsOf f.type = k.sz) (h : Opens P k f.type good) : OpensF P k [f] o good := by
  intro H enc w sp held n cs hl hr
  obtain ⟨x, hx⟩ := hr f (by simp)
  rw [hf, hc, List.take_of_length_le (by simp [hl])] at hx
  exact h H enc w sp held n _ x hx
theorem opensF_cons {α β : Type} {k : Kd α} {k' : Kd β} {f : Field} {fs : List Field} {o : Nat} {good : α → Prop} {good' : β → Prop} (hf : f.offset = o) (hc : P.cellsOf f.type = k.sz) (h : Opens P k f.type good)
    (h' : OpensF P k' fs (o + k.sz) good') : OpensF P (Kd.pair k k') (f :: fs) o (fun y => good y.1 ∧ good' y.2) := by
  intro H enc w sp held n cs hl hr
  obtain ⟨x, hx⟩ := hr f (by simp)
  rw [hf, hc] at hx
  obtain ⟨y, hy, gy⟩ := h H enc w sp held n _ x hx
  have hl' : cs.length = o + k.sz + k'.sz := by rw [hl, Nat.add_assoc]; rfl
  obtain ⟨z, hz, gz⟩ := h' H enc w sp held n cs hl' (fun g hg => hr g (List.mem_cons_of_mem _ hg))
  refine ⟨(y, z), ⟨(cs.drop o).take k.sz, cs.drop (o + k.sz), ?_, hy, hz⟩, gy, gz⟩
  rw [← List.drop_drop, List.take_append_drop]
theorem opens_struct {α : Type} {k : Kd α} {t : TypeId} {fs : Array Field} {good : α → Prop} (ht : P.underlying t = some (.struct fs)) (hc : P.cellsOf t = k.sz) (h : OpensF P k fs.toList 0 good) : Opens P k t good := by
  intro H enc w sp held fuel cs x hx
  obtain ⟨xs, n, _, _, hl, hlen, hf⟩ := DataW.trod_struct ht hx
  obtain ⟨y, hy, gy⟩ := h H enc w sp held n cs (by rw [hl, hc, Nat.zero_add]) (fun f hm => by
    obtain ⟨i, hi⟩ := List.getElem?_of_mem hm
    have hi' : fs[i]? = some f := by simpa using hi
    have hlt : i < xs.length := by
      rw [hlen]
      exact (Array.getElem?_eq_some_iff.1 hi').1
    exact ⟨xs[i], by rw [hf i f hi', List.getElem?_eq_getElem hlt]⟩)
  exact ⟨y, by simpa using hy, gy⟩
theorem opens_iso {α β : Type} {k : Kd α} {t : TypeId} {good : α → Prop} {f : β → α} (g : α → β) (hg : ∀ y, f (g y) = y) (h : Opens P k t good) : Opens P (Kd.iso k f) t (fun x => good (f x)) := by
  intro H enc w sp held fuel cs x hx
  obtain ⟨y, hy, gy⟩ := h H enc w sp held fuel cs x hx
  refine ⟨g y, ?_, ?_⟩
  · show k.K w (f (g y)) cs
    rw [hg]; exact hy
  · show good (f (g y))
    rw [hg]; exact gy
theorem opens_mono {α : Type} {k : Kd α} {t : TypeId} {good good' : α → Prop} (h : Opens P k t good) (hg : ∀ x, good x → good' x) : Opens P k t good' := by
  intro H enc w sp held fuel cs x hx
  obtain ⟨y, hy, gy⟩ := h H enc w sp held fuel cs x hx
  exact ⟨y, hy, hg y gy⟩
/-- An argument. -/
theorem Opens.arg {α : Type} {k : Kd α} {t : TypeId} {good : α → Prop} (h : Opens P k t good) {H : Type} {enc : TypeId × Value → H} {w : World} {sp : Nat → Bool} {held : Bool} {v : Value} {d : DataW H} {ps : List MemPlace}
    (hv : DataW.Trod enc P w 0 sp held t v d ps) : ∃ y, k.K w y v.cells.toList ∧ good y := by
  obtain ⟨fuel, hf⟩ := hv
  exact h H enc w sp held fuel _ _ hf
end
end Go.Proofs.Ytjknnifcbcdjiaa.Opn
