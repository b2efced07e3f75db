/- What the bound on the bulk of a world gives: how many classes it has, how many interfaces each names. -/
import Derived.Test.YtjknnifcbcdjiaaRows
import Derived.Test.YtjknnifcbcdjiaaCount
set_option linter.unusedVariables false
set_option linter.unusedSimpArgs false
namespace Go.Proofs.Ytjknnifcbcdjiaa.Opn
open Go.ChangeShapes Go.WideShapes Go.Deep Go.Proofs.YtjknnifcbcdjiaaW.PrintWords
theorem bulk_part {H : Type} {d : DataW H} {l : List (DataW H)} (h : d ∈ l) : Rows.uptoBulk d ≤ Rows.uptoBulkAll l := by
  induction l with
  | nil => cases h
  | cons x r ih =>
    simp only [Rows.uptoBulkAll]
    cases List.mem_cons.1 h with
    | inl e => subst e; omega
    | inr e => have := ih e; omega
theorem bulk_one {H : Type} (d : DataW H) : 1 ≤ Rows.uptoBulk d := by
  cases d with
  | lit l => cases l <;> simp [Rows.uptoBulk]
  | _ => simp [Rows.uptoBulk]
theorem bulk_length {H : Type} (l : List (DataW H)) : l.length ≤ Rows.uptoBulkAll l := by
  induction l with
  | nil => simp [Rows.uptoBulkAll]
  | cons x r ih => have := bulk_one x; simp only [Rows.uptoBulkAll, List.length_cons]; omega
variable {P : Program} {H : Type} {enc : TypeId × Value → H}
theorem slice_bulk {w : World} {sp : Nat → Bool} {held : Bool} {fuel : Nat} {t e : TypeId} {A : Option Addr} {n c : Nat} {x : DataW H × List MemPlace} (ht : P.underlying t = some (.slice e)) (h : DataW.trod enc P w 0 sp held fuel t [.slice A n c] = some x) : n ≤ Rows.uptoBulk x.1 := by
  rcases open_slice ht h with ⟨h0, _⟩ | ⟨a, len, cap, m, k, D, Pl, h0, _, _, _, _, rfl, _⟩
  · injection h0 with h0
    injection h0 with _ h1
    subst h1
    exact Nat.zero_le _
  · injection h0 with h0
    injection h0 with _ h1
    subst h1
    have := bulk_length ((List.range n).map D)
    simp only [Rows.uptoBulk]
    simp at this
    omega
theorem field_bulk {w : World} {sp : Nat → Bool} {held : Bool} {fuel : Nat} {cs : List Value} {x : DataW H × List MemPlace} {t : TypeId} {fs : Array Field} {f : Field} (j : Nat) (ht : P.underlying t = some (.struct fs)) (hf : fs[j]? = some f)
    (h : DataW.trod enc P w 0 sp held fuel t cs = some x) : ∃ k y, DataW.trod enc P w 0 sp held k f.type ((cs.drop f.offset).take (P.cellsOf f.type)) = some y ∧ Rows.uptoBulk y.1 ≤ Rows.uptoBulk x.1 := by
  obtain ⟨xs, k, _, hx, _, hlen, hr⟩ := DataW.trod_struct ht h
  have hj := (Array.getElem?_eq_some_iff.1 hf).1
  have h1 := hr j f hf
  rw [List.getElem?_eq_getElem (by omega)] at h1
  refine ⟨k, _, h1, ?_⟩
  rw [hx]
  simp only [Rows.uptoBulk]
  have := bulk_part (d := xs[j].1) (l := xs.map (·.1)) (List.mem_map.2 ⟨_, List.getElem_mem (by omega), rfl⟩)
  omega
theorem elem_bulk {w : World} {sp : Nat → Bool} {held : Bool} {fuel : Nat} {t e : TypeId} {ad : Addr} {n c : Nat} {x : DataW H × List MemPlace} (ht : P.underlying t = some (.slice e)) (h : DataW.trod enc P w 0 sp held fuel t [.slice (some ad) n c] = some x) (i : Nat) (hi : i < n) :
    ∃ k y cs, DataW.trod enc P w 0 sp held k e cs = some y ∧ Rows.uptoBulk y.1 ≤ Rows.uptoBulk x.1 ∧ cs.length = P.cellsOf e ∧ ∀ q, q < P.cellsOf e → w.cell? ((ad.add (i * P.cellsOf e)).add q) = cs[q]? := by
  rcases open_slice ht h with ⟨h0, _⟩ | ⟨a, len, cap, m, k, D, Pl, h0, _, hl, _, hm, rfl, hel⟩
  · cases h0
  · injection h0 with h0
    injection h0 with h2 h1
    injection h2 with h2
    subst h1
    subst h2
    have hlm : n ≤ m := by rw [hm]; split <;> omega
    obtain ⟨cs, h3, h4⟩ := hel i (by omega)
    obtain ⟨_, hlen, hcell⟩ := World.cells?_some h3
    refine ⟨k, _, cs, h4, ?_, hlen, fun q hq => hcell q hq⟩
    simp only [Rows.uptoBulk]
    have := bulk_part (d := D i) (l := (List.range n).map D) (List.mem_map.2 ⟨i, List.mem_range.2 hi, rfl⟩)
    omega
/-- Of an api.World. -/
theorem world_small {w : World} {sp : Nat → Bool} {held : Bool} {v : Value} {d : DataW H} {ps : List MemPlace} (hv : DataW.Trod enc Try.prog w 0 sp held 27 v d ps) {A : Option Addr} {n c : Nat} {r2 r3 r4 : Value} (hcs : v.cells.toList = [.slice A n c, r2, r3, r4]) (hb : Rows.uptoBulk d ≤ 1048576) :
    n ≤ 1048576 ∧ ∀ (i : Nat) (ad : Addr) (A3 : Option Addr) (m c3 : Nat), i < n → A = some ad → w.cell? ⟨(ad.add (i * 7)).block, (ad.add (i * 7)).off + 3, none⟩ = some (.slice A3 m c3) → m ≤ 1048576 := by
  obtain ⟨fuel, h⟩ := hv
  rw [hcs] at h
  obtain ⟨k, y, h1, hb0⟩ := field_bulk 0 Try.underlying27 rfl h
  have hb1 : Rows.uptoBulk y.1 ≤ Rows.uptoBulk d := hb0
  have c22 : Try.prog.cellsOf 22 = 1 := by kernel_rfl
  have c103 : Try.prog.cellsOf 103 = 7 := by kernel_rfl
  have c100 : Try.prog.cellsOf 100 = 1 := by kernel_rfl
  have h1' : DataW.trod enc Try.prog w 0 sp held k 22 [.slice A n c] = some y := by
    have : (List.drop 0 [Value.slice A n c, r2, r3, r4]).take (Try.prog.cellsOf 22) = [.slice A n c] := by rw [c22]; rfl
    rw [← this]; exact h1
  refine ⟨Nat.le_trans (slice_bulk Try.underlying22 h1') (by omega), ?_⟩
  rintro i ad A3 m c3 hi rfl hcell
  obtain ⟨k2, y2, cs, h2, hb2, hlen, hq⟩ := elem_bulk Try.underlying22 h1' i hi
  rw [c103] at hlen hq
  obtain ⟨k3, y3, h3, hb3⟩ := field_bulk 3 Try.underlying103 rfl h2
  have h4 := hq 3 (by omega)
  rw [add_add, Go.Proofs.YtjknnifcbcdjiaaW.PrintWords.add_field _ _ _ (by omega), hcell] at h4
  have h5 : (cs.drop 3).take (Try.prog.cellsOf 100) = [.slice A3 m c3] := by
    rw [c100, List.drop_eq_getElem_cons (by omega)]
    obtain ⟨_, h6⟩ := List.getElem?_eq_some_iff.1 h4.symm
    rw [h6]; rfl
  have h7 : DataW.trod enc Try.prog w 0 sp held k3 100 [.slice A3 m c3] = some y3 := by rw [← h5]; exact h3
  exact Nat.le_trans (slice_bulk Try.underlying100 h7) (by omega)
theorem small_of {ds : List (DataW H)} (hk : Rows.uptoSmall H ds = true) {d : DataW H} (h : d ∈ ds) : Rows.uptoBulk d ≤ 1048576 := Nat.le_trans (bulk_part h) (of_decide_eq_true hk)
end Go.Proofs.Ytjknnifcbcdjiaa.Opn
