/- The classes' rows, as the walks over hier read them. -/
import Derived.Test.YtjknnifcbcdjiaaPHierAnyx0
import Derived.Test.YtjknnifcbcdjiaaCommon
set_option linter.unusedVariables false
set_option linter.unusedSimpArgs false
namespace Go.Proofs.Ytjknnifcbcdjiaa.PHierAny
open Go.RowKit Go.Proofs.YtjknnifcbcdjiaaW.PrintWords Go.Proofs.YtjknnifcbcdjiaaW.PrintLast Go.Proofs.YtjknnifcbcdjiaaW.PrintMore Go.Proofs.Ytjknnifcbcdjiaa.Ups
def supOf (l : List S103) (i : Int) : Int := (rd_T103 l i).f2
def flOf (l : List S103) (i : Int) : Int := (rd_T103 l i).f1
def ifsOf (l : List S103) (i : Int) : List Int := (rd_T103 l i).f3.map S109.f0
def okC (l : List S103) : Bool := decide (l.length ≤ 4611686018427387904) && l.all (fun x => decide (x.f3.length ≤ 9223372036854775807))
theorem okC_n {l : List S103} (h : okC l = true) : l.length ≤ 4611686018427387904 := by simp [okC] at h; exact h.1
theorem okC_l {l : List S103} (h : okC l = true) (i : Int) : (ifsOf l i).length ≤ 9223372036854775807 := by
  simp [okC] at h
  unfold ifsOf rd_T103
  rw [List.length_map]
  by_cases hi : i.toNat < l.length
  · rw [List.getD_eq_getElem?_getD, List.getElem?_eq_getElem hi]
    exact h.2 _ (List.getElem_mem hi)
  · rw [List.getD_eq_getElem?_getD, List.getElem?_eq_none (by omega)]
    exact Nat.zero_le _
theorem sup_of {w : World} {A : Option Addr} {l : List S103} (h : Kd.C k103 w A l.length l) : Sup w.heap.size w A l.length (supOf l) := fun i h0 h1 => by
  obtain ⟨ad, A3, c3, A4, c4, A5, c5, A6, c6, hA, e0, e1, e2, e3, _⟩ := at_T103 h i h0 h1
  exact ⟨ad, hA, World.block_lt_of_cell? w _ e0, e2⟩
theorem fl_of {w : World} {A : Option Addr} {l : List S103} (h : Kd.C k103 w A l.length l) : Fl w.heap.size w A l.length (flOf l) := fun i h0 h1 => by
  obtain ⟨ad, A3, c3, A4, c4, A5, c5, A6, c6, hA, e0, e1, e2, e3, _⟩ := at_T103 h i h0 h1
  exact ⟨ad, hA, World.block_lt_of_cell? w _ e0, e1⟩
theorem ifs_of {w : World} {A : Option Addr} {l : List S103} (h : Kd.C k103 w A l.length l) : IfsAt w.heap.size w A l.length (ifsOf l) := fun i h0 h1 => by
  obtain ⟨ad, A3, c3, A4, c4, A5, c5, A6, c6, hA, e0, e1, e2, e3, e4, e5, e6, g3, hC, _⟩ := at_T103 h i h0 h1
  refine ⟨ad, A3, c3, hA, World.block_lt_of_cell? w _ e0, by rw [ifsOf, List.length_map]; exact e3, fun j j0 j1 => ?_⟩
  rw [ifsOf, List.length_map] at j1
  obtain ⟨ad2, A1, c1, hA2, d0, d1, _⟩ := at_T109 hC j j0 j1
  refine ⟨ad2, A1, _, c1, hA2, World.block_lt_of_cell? w _ d0, ?_, d1⟩
  rw [d0]
  congr 2
  unfold ifsOf rd_T109
  simp [List.getD_eq_getElem?_getD, List.getElem?_map]
  cases (rd_T103 l i).f3[j.toNat]? <;> rfl
end Go.Proofs.Ytjknnifcbcdjiaa.PHierAny
