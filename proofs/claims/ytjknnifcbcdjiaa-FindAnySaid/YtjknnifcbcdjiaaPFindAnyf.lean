/- The classes' and the packages' rows, as the walks over find read them. -/
import Derived.Test.YtjknnifcbcdjiaaPFindAnyh
import Derived.Test.YtjknnifcbcdjiaaFindK
set_option linter.unusedVariables false
set_option linter.unusedSimpArgs false
namespace Go.Proofs.Ytjknnifcbcdjiaa.PFindAny
open Go.RowKit Go.Proofs.YtjknnifcbcdjiaaW.PrintWords Go.Proofs.YtjknnifcbcdjiaaW.PrintLast Go.Proofs.YtjknnifcbcdjiaaW.PrintMore Go.Proofs.Ytjknnifcbcdjiaa.Ups
def msOf (l : List S103) (i k : Int) : List Int := (rd_T109 (rd_T103 l i).f3 k).f1
def okF (l : List S103) : Bool := decide (l.length ≤ 10000000000000) && l.all (fun x => decide (x.f3.length ≤ 9223372036854775807))
theorem okF_c {l : List S103} (h : okF l = true) : okC l = true := by
  simp only [okF, okC, Bool.and_eq_true, decide_eq_true_eq] at h ⊢
  exact ⟨by omega, h.2⟩
theorem okF_n {l : List S103} (h : okF l = true) : l.length ≤ 10000000000000 := by simp [okF] at h; exact h.1
theorem ifm_of {w : World} {A : Option Addr} {l : List S103} (h : Kd.C k103 w A l.length l) : IfMAt w.heap.size w A l.length (ifsOf l) (msOf l) := fun i h0 h1 => by
  obtain ⟨ad, A3, c3, A4, c4, A5, c5, A6, c6, hA, e0, e1, e2, e3, e4, e5, e6, g3, hC, _⟩ := at_T103 h i h0 h1
  refine ⟨ad, A3, c3, hA, World.block_lt_of_cell? w _ e0, by rw [ifsOf, List.length_map]; exact e3, fun j j0 j1 => ?_⟩
  rw [ifsOf, List.length_map] at j1
  obtain ⟨ad2, A1, c1, hA2, d0, d1, dl, dC⟩ := at_T109 hC j j0 j1
  refine ⟨ad2, A1, c1, hA2, World.block_lt_of_cell? w _ d0, ?_, d1, ints_of dC⟩
  rw [d0]
  congr 2
  unfold ifsOf rd_T109
  simp [List.getD_eq_getElem?_getD, List.getElem?_map]
  cases (rd_T103 l i).f3[j.toNat]? <;> rfl
def deadOf (l : List S117) (i : Int) : Bool := (rd_T117 l i).f2
def alOf (l : List S117) (i : Int) : Nat := (rd_T117 l i).f4.length
def nmOf (l : List S117) (i k : Int) : List Int := (rd_T119 (rd_T117 l i).f4 k).f0
def okK (l : List S117) : Bool := decide (l.length ≤ 9223372036854775807) && l.all (fun x => decide (x.f4.length ≤ 9223372036854775807))
theorem okK_n {l : List S117} (h : okK l = true) : l.length ≤ 9223372036854775807 := by simp [okK] at h; exact h.1
theorem okK_l {l : List S117} (h : okK l = true) (i : Int) : alOf l i ≤ 9223372036854775807 := by
  simp [okK] at h
  unfold alOf rd_T117
  by_cases hi : i.toNat < l.length
  · rw [List.getD_eq_getElem?_getD, List.getElem?_eq_getElem hi]
    exact h.2 _ (List.getElem_mem hi)
  · rw [List.getD_eq_getElem?_getD, List.getElem?_eq_none (by omega)]
    exact Nat.zero_le _
theorem pks_of {w : World} {A : Option Addr} {l : List S117} (h : Kd.C k117 w A l.length l) : Pks w.heap.size w A l.length (deadOf l) (alOf l) (nmOf l) := fun i h0 h1 => by
  obtain ⟨ad, A0, c0, A4, c4, A5, c5, hA, e0, e1, e2, e3, e4, e5, l0, g0, l4, g4, l5, g5⟩ := at_T117 h i h0 h1
  refine ⟨ad, A0, A4, A5, _, c0, _, c4, c5, _, _, hA, World.block_lt_of_cell? w _ e0, e0, e1, e2, e3, e4, e5, fun j j0 j1 => ?_⟩
  obtain ⟨ad2, A1, c1, hA2, d0, d1, dl, dC⟩ := at_T119 g5 j j0 j1
  exact ⟨ad2, A1, c1, _, hA2, World.block_lt_of_cell? w _ d0, d0, d1, ints_of dC⟩
end Go.Proofs.Ytjknnifcbcdjiaa.PFindAny
