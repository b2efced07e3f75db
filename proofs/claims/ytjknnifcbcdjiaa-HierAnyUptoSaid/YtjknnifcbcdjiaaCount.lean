/- How many elements a slice within a struct that reads as data can have: the reach bounds it. -/
import Derived.Test.YtjknnifcbcdjiaaOpen
import Derived.SizedLaws
namespace Go.Proofs.Ytjknnifcbcdjiaa.Opn
open Go.ChangeShapes Go.WideShapes Go.Deep Go.Proofs.YtjknnifcbcdjiaaW.PrintWords
variable {P : Program} {H : Type} {enc : TypeId × Value → H}
theorem slice_len {w : World} {sp : Nat → Bool} {held : Bool} {fuel : Nat} {t e : TypeId} {A : Option Addr} {n c : Nat} {x : DataW H × List MemPlace} (ht : P.underlying t = some (.slice e)) (h : DataW.trod enc P w 0 sp held fuel t [.slice A n c] = some x)
    (hw : ∀ m ∈ x.1.weights P t, m ≤ reachBytes) : n * P.bytesOf e ≤ reachBytes := by
  rcases open_slice ht h with ⟨h0, _⟩ | ⟨a, len, cap, m, k, D, Pl, h0, _, _, _, _, rfl, _⟩
  · injection h0 with h0
    injection h0 with _ h1
    subst h1
    simp
  · injection h0 with h0
    injection h0 with _ h1
    subst h1
    have := hw _ (by simp only [DataW.weights, ht]; exact List.mem_cons_self)
    refine Nat.le_trans (Nat.mul_le_mul_right _ ?_) this
    simp
/-- The slice that is field j of a struct. -/
theorem field_len {w : World} {sp : Nat → Bool} {held : Bool} {v : Value} {d : DataW H} {ps : List MemPlace} {t e : TypeId} {fs : Array Field} {f : Field} {A : Option Addr} {n c : Nat} (j : Nat) (ht : P.underlying t = some (.struct fs)) (hf : fs[j]? = some f) (he : P.underlying f.type = some (.slice e)) (hc : P.cellsOf f.type = 1)
    (hv : DataW.Trod enc P w 0 sp held t v d ps) (hcs : (v.cells.toList.drop f.offset).take 1 = [.slice A n c]) (hw : ∀ m ∈ d.weights P t, m ≤ reachBytes) : n * P.bytesOf e ≤ reachBytes := by
  obtain ⟨fuel, h⟩ := hv
  obtain ⟨xs, k, _, hx, _, hlen, hr⟩ := DataW.trod_struct ht h
  have hj := (Array.getElem?_eq_some_iff.1 hf).1
  have h1 := hr j f hf
  rw [hc, hcs, List.getElem?_eq_getElem (by omega)] at h1
  refine slice_len he h1 (fun m hm => hw m ?_)
  injection hx with hd _
  subst hd
  simp only [DataW.weights, ht]
  exact DataW.weights_mem_each (j := j) (t := f.type) (d := xs[j].1) (by rw [List.getElem?_map, Array.getElem?_toList, hf]; rfl) (by rw [List.getElem?_map, List.getElem?_eq_getElem (by omega)]; rfl) m hm
theorem each_weights {ts : List TypeId} {ds : List (DataW H)} (h : (DataW.weightsEach P ts ds).all (· ≤ reachBytes) = true) {j : Nat} {t : TypeId} {d : DataW H} (ht : ts[j]? = some t) (hd : ds[j]? = some d) : ∀ m ∈ d.weights P t, m ≤ reachBytes := fun m hm => by
  simpa using List.all_eq_true.1 h _ (DataW.weights_mem_each ht hd m hm)
end Go.Proofs.Ytjknnifcbcdjiaa.Opn
