/- The classes' rows, as the walks over hier.Up, hier.Ifaces, hier.Shared read them. -/
import Derived.Test.YtjknnifcbcdjiaaPHierAnyh
import Derived.Test.YtjknnifcbcdjiaaSharedW
set_option linter.unusedVariables false
set_option linter.unusedSimpArgs false
namespace Go.Proofs.Ytjknnifcbcdjiaa.PHierAny
open Go.RowKit Go.Proofs.YtjknnifcbcdjiaaW.PrintWords Go.Proofs.YtjknnifcbcdjiaaW.PrintLast Go.Proofs.YtjknnifcbcdjiaaW.PrintMore Go.Proofs.Ytjknnifcbcdjiaa.Ups
def okU (l : List S103) : Bool := decide (l.length ≤ 10000000000000)
theorem okU_n {l : List S103} (h : okU l = true) : l.length ≤ 10000000000000 := of_decide_eq_true h
def okI (l : List S103) : Bool := decide (l.length ≤ 1048576) && l.all (fun x => decide (x.f3.length ≤ 1048576))
theorem okI_n {l : List S103} (h : okI l = true) : l.length ≤ 1048576 := by simp [okI] at h; exact h.1
theorem okI_c {l : List S103} (h : okI l = true) : okC l = true := by
  simp only [okI, okC, Bool.and_eq_true, decide_eq_true_eq, List.all_eq_true] at h ⊢
  exact ⟨by omega, fun x hx => by have := h.2 x hx; omega⟩
theorem okI_u {l : List S103} (h : okI l = true) : okU l = true := by have := okI_n h; simp only [okU, decide_eq_true_eq]; omega
theorem okI_l {l : List S103} (h : okI l = true) (i : Int) : (ifsOf l i).length ≤ 1048576 := by
  simp [okI] at h
  unfold ifsOf rd_T103
  rw [List.length_map]
  by_cases hi : i.toNat < l.length
  · rw [List.getD_eq_getElem?_getD, List.getElem?_eq_getElem hi]
    exact h.2 _ (List.getElem_mem hi)
  · rw [List.getD_eq_getElem?_getD, List.getElem?_eq_none (by omega)]
    exact Nat.zero_le _
theorem okI_m {l : List S103} (h : okI l = true) : (l.length + 2) * (1048576 + 1) ≤ 10000000000000 := Nat.le_trans (Nat.mul_le_mul_right _ (Nat.add_le_add_right (okI_n h) 2)) (by decide)
theorem okI_of {w : World} {A : Option Addr} {l : List S103} (h : Kd.C k103 w A l.length l) (hs : l.length ≤ 1048576 ∧ ∀ (i : Nat) (ad : Addr) (A3 : Option Addr) (m c3 : Nat), i < l.length → A = some ad → w.cell? ⟨(ad.add (i * 7)).block, (ad.add (i * 7)).off + 3, none⟩ = some (.slice A3 m c3) → m ≤ 1048576) : okI l = true := by
  simp only [okI, Bool.and_eq_true, decide_eq_true_eq, List.all_eq_true]
  refine ⟨hs.1, fun x hx => ?_⟩
  obtain ⟨i, hi, rfl⟩ := List.getElem_of_mem hx
  obtain ⟨ad, A3, c3, A4, c4, A5, c5, A6, c6, hA, e0, e1, e2, e3, _⟩ := at_T103 h (i : Int) (by omega) (by omega)
  have hb := hs.2 i ad A3 _ c3 hi hA (by simpa only [Int.toNat_natCast] using e3)
  rw [show rd_T103 l (i : Int) = l[i] by simp [rd_T103, List.getD_eq_getElem?_getD, List.getElem?_eq_getElem hi]] at hb
  exact hb
end Go.Proofs.Ytjknnifcbcdjiaa.PHierAny
