/- Subroutines of shapes, as plain functions. -/
import Derived.Test.YtjknnifcbcdjiaaPureShapeAShapeBack
namespace Go.Proofs.Ytjknnifcbcdjiaa.PShapeBack
open Go.RowKit Go.Proofs.YtjknnifcbcdjiaaW.PrintWords Go.Proofs.YtjknnifcbcdjiaaW.PrintLast Go.Proofs.YtjknnifcbcdjiaaW.PrintMore
set_option linter.unusedVariables false
set_option linter.unusedSimpArgs false
theorem index_l0 (l : List Int) (a : Int) (hl : l.length ≤ 1000) (d : Nat) : ∀ (k i : Nat), i + d = l.length → d < k → ∃ r, slices_Index_int_int.l0 k l a (l.length : Int) i = some r ∧ (decide (r ≥ 0) = decide (a ∈ l.drop i)) := by
  induction d with
  | zero =>
    intro k i hi hk
    obtain ⟨k, rfl⟩ : ∃ m, k = m + 1 := ⟨k - 1, by omega⟩
    simp only [slices_Index_int_int.l0]
    rw [if_neg (by omega)]
    exact ⟨-1, rfl, by rw [List.drop_of_length_le (by omega)]; simp⟩
  | succ d ih =>
    intro k i hi hk
    obtain ⟨k, rfl⟩ : ∃ m, k = m + 1 := ⟨k - 1, by omega⟩
    simp only [slices_Index_int_int.l0]
    rw [if_pos (by omega), if_pos (by omega), if_pos (by omega)]
    have hd : l.drop i = l[i]'(by omega) :: l.drop (i + 1) := (List.drop_eq_getElem_cons (by omega))
    have hr : rd l (i : Int) = l[i]'(by omega) := by unfold rd; simp [List.getD_eq_getElem?_getD, List.getElem?_eq_getElem (show i < l.length by omega)]
    by_cases h : a = rd l (i : Int)
    · rw [if_pos h]
      refine ⟨i, rfl, ?_⟩
      have : a ∈ l.drop i := by rw [hd, ← hr, ← h]; exact List.mem_cons_self
      simp [this]
    · rw [if_neg h, wn i (by omega)]
      obtain ⟨r, h1, h2⟩ := ih k (i + 1) (by omega) (by omega)
      refine ⟨r, h1, ?_⟩
      rw [h2, hd]
      simp [← hr, h]
theorem contains_eq (l : List Int) (a : Int) (hl : l.length ≤ 1000) (k : Nat) (hk : 1000 < k) : slices_Contains_int_int.f k l a = some (decide (a ∈ l)) := by
  unfold slices_Contains_int_int.f slices_Index_int_int.f
  obtain ⟨r, h1, h2⟩ := index_l0 l a hl l.length k 0 (by omega) (by omega)
  rw [show slices_Index_int_int.l0 k l a (l.length : Int) 0 = some r from h1]
  simp only [Option.bind_some]
  rw [h2]
  rfl
/-- A subroutine that is opened. -/
def opened (a b : List S56) (c : List Int) (p : Int) : List S56 × List S56 × List Int × Int := if (c.length : Int) ≥ 8 then ([], [], [], 9) else if p ∈ c then ([], [], [], 9) else (a, b ++ [⟨5, ⟨0, 0⟩, (c.length : Int)⟩], c ++ [p], 0)
theorem call_eq (a b : List S56) (c : List Int) (p : Int) (ha : a.length ≤ 500) (hb : b.length ≤ 500) (hc : c.length ≤ 500) (k : Nat) (hk : 2000 < k) : shape_Call.f k a b c p = some (opened a b c p) := by
  unfold shape_Call.f opened
  by_cases h8 : (c.length : Int) ≥ 8
  · rw [if_pos h8, if_pos h8]
  · rw [if_neg h8, if_neg h8, contains_eq c p (by omega) k (by omega)]
    simp only [Option.bind_some]
    by_cases hp : p ∈ c
    · rw [if_pos (by simp [hp]), if_pos hp]
    · rw [if_neg (by simp [hp]), if_neg hp, copied_eq a b c (by omega) (by omega) (by omega)]
      simp only [Option.bind_some]
      rw [if_pos (by omega), if_pos (by omega)]
/-- What is forgotten of a word. -/
def fg (n : Int) (v : S56) : S56 := if v.f0 = 5 then if v.f2 ≥ n then ⟨1, ⟨0, 0⟩, 0⟩ else v else v
theorem rd_mp (n : Int) (l : List S56) (i : Nat) (h : i < l.length) : rd_T56 (mp (fg n) i l) (i : Int) = l[i] := by unfold rd_T56; exact mp_get _ _ _ _ h
theorem forgotten_l0 (l : List S56) (n : Int) (hl : l.length ≤ 1000) (d : Nat) : ∀ (k i : Nat), i + d = l.length → d < k → shape_forgotten.l0 k (mp (fg n) i l) n (l.length : Int) i = some (l.map (fg n)) := by
  induction d with
  | zero =>
    intro k i hi hk
    obtain ⟨k, rfl⟩ : ∃ m, k = m + 1 := ⟨k - 1, by omega⟩
    obtain rfl : i = l.length := by omega
    simp only [shape_forgotten.l0]
    rw [if_neg (by omega), mp_all]
  | succ d ih =>
    intro k i hi hk
    obtain ⟨k, rfl⟩ : ∃ m, k = m + 1 := ⟨k - 1, by omega⟩
    have hlt : i < l.length := by omega
    have hx := ih k (i + 1) (by omega) (by omega)
    simp only [shape_forgotten.l0]
    rw [if_pos (by omega), if_pos (by omega), if_pos (by rw [mp_len]; omega), rd_mp n l i hlt, wn i (by omega), Int.toNat_natCast]
    by_cases h5 : l[i].f0 = 5
    · rw [if_pos h5]
      by_cases hn : l[i].f2 ≥ n
      · have hg : fg n l[i] = ⟨1, ⟨0, 0⟩, 0⟩ := by unfold fg; rw [if_pos h5, if_pos hn]
        rw [if_pos hn, ← hg, mp_set (fg n) l i hlt]
        exact hx
      · rw [if_neg hn, mp_skip (fg n) l i hlt (by unfold fg; rw [if_pos h5, if_neg hn])]
        exact hx
    · rw [if_neg h5, mp_skip (fg n) l i hlt (by unfold fg; rw [if_neg h5])]
      exact hx
theorem forgotten_eq (l : List S56) (n : Int) (hl : l.length ≤ 1000) (k : Nat) (hk : 1000 < k) : shape_forgotten.f k l n = some (l.map (fg n)) := by
  unfold shape_forgotten.f
  rw [vclone_eq l hl]
  simp only [Option.bind_some]
  have := forgotten_l0 l n hl l.length k 0 (by omega) (by omega)
  rw [mp_zero] at this
  exact this
/-- A subroutine that is closed. -/
def closed (a b : List S56) (c : List Int) (v : S56) : List S56 × List S56 × List Int × Int × Int :=
  if v.f0 = 5 ∧ 0 ≤ v.f2 ∧ v.f2 < (c.length : Int) then (a.map (fg v.f2), b.map (fg v.f2), c.take v.f2.toNat, rd c v.f2, 0) else ([], [], [], 0, 9)
theorem ret_eq (a b : List S56) (c : List Int) (v0 v1 v2 v3 : Int) (ha : a.length ≤ 500) (hb : b.length ≤ 500) (hc : c.length ≤ 500) (k : Nat) (hk : 2000 < k) : shape_Return.f k a b c v0 v1 v2 v3 = some (closed a b c ⟨v0, ⟨v1, v2⟩, v3⟩) := by
  obtain ⟨k, rfl⟩ : ∃ m, k = m + 1 := ⟨k - 1, by omega⟩
  unfold shape_Return.f closed
  simp only [shape_Return.j0]
  by_cases h5 : v0 = 5
  · rw [if_pos h5]
    by_cases h0 : v3 < 0
    · rw [if_pos h0, if_pos trivial, if_neg (by omega)]
    · rw [if_neg h0]
      by_cases hl : v3 ≥ (c.length : Int)
      · rw [if_pos (by simp [hl]), if_neg (by omega)]
      · rw [if_neg (by simp [hl]), forgotten_eq a v3 (by omega) k (by omega), forgotten_eq b v3 (by omega) k (by omega), if_pos ⟨h5, by omega, by omega⟩]
        simp only [Option.bind_some]
        rw [if_pos (by omega), if_pos (by omega), iclone_eq _ (by rw [List.length_take]; omega)]
        simp only [Option.bind_some]
        rw [if_pos (by omega)]
  · rw [if_neg h5, if_pos trivial, if_neg (by omega)]
end Go.Proofs.Ytjknnifcbcdjiaa.PShapeBack
