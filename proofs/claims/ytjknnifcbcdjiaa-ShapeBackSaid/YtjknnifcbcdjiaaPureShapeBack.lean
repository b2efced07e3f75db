/- The plain law: what is pushed is popped; a subroutine that is opened is closed by what it pushed. -/
import Derived.Test.YtjknnifcbcdjiaaPureShapeBShapeBack
namespace Go.Proofs.Ytjknnifcbcdjiaa.PShapeBack
open Go.RowKit Go.Proofs.YtjknnifcbcdjiaaW.PrintWords Go.Proofs.YtjknnifcbcdjiaaW.PrintLast Go.Proofs.YtjknnifcbcdjiaaW.PrintMore
set_option linter.unusedVariables false
set_option linter.unusedSimpArgs false
theorem push_eq (a b : List S56) (c : List Int) (l : List S56) (ha : a.length ≤ 500) (hb : b.length ≤ 400) (hc : c.length ≤ 500) (hl : l.length ≤ 400) : shape_Push.f a b c 1000 l = some (a, b ++ l, c, 0) := by
  unfold shape_Push.f
  have hw : wrap64 (1000 - (b.length : Int)) = 1000 - (b.length : Int) := by unfold wrap64; omega
  rw [if_neg (by omega), hw, if_neg (by omega), copied_eq a b c (by omega) (by omega) (by omega)]
  simp only [Option.bind_some]
  rw [if_pos (by omega), if_pos (by omega)]
  simp only [Int.toNat_natCast, List.take_length]
  rw [if_pos (by omega)]
theorem pop_eq (a b : List S56) (c : List Int) (l : List S56) (ha : a.length ≤ 500) (hb : b.length ≤ 400) (hc : c.length ≤ 500) (hl : l.length ≤ 400) : shape_Pop.f a (b ++ l) c (l.length : Int) = some (a, b, c, l, 0) := by
  unfold shape_Pop.f
  have hbl : (b ++ l).length = b.length + l.length := List.length_append
  have hw : wrap64 (((b ++ l).length : Int) - (l.length : Int)) = (b.length : Int) := by rw [hbl]; unfold wrap64; omega
  rw [if_neg (by omega), if_neg (by omega), copied_eq a (b ++ l) c (by omega) (by omega) (by omega)]
  simp only [Option.bind_some]
  rw [hw, if_pos (by omega), if_pos (by omega)]
  simp only [Int.toNat_natCast, List.drop_left, List.take_left]
  rw [vclone_eq l (by omega)]
  rfl
theorem j1_eq (a b : List S56) (c : List Int) (p : Int) (ha : a.length ≤ 300) (hb : b.length ≤ 300) (hc : c.length ≤ 20) (k : Nat) (hk : 3000 < k) : garderobelaw17_ShapeBack.j1 k p false a b c = some true := by
  obtain ⟨k, rfl⟩ : ∃ m, k = m + 1 := ⟨k - 1, by omega⟩
  simp only [garderobelaw17_ShapeBack.j1, Bool.false_eq_true, if_false]
  rw [call_eq a b c p (by omega) (by omega) (by omega) k (by omega)]
  simp only [Option.bind_some]
  unfold opened
  by_cases h8 : (c.length : Int) ≥ 8
  · rw [if_pos h8]; rfl
  rw [if_neg h8]
  by_cases hp : p ∈ c
  · rw [if_pos hp]; rfl
  rw [if_neg hp]
  have hw : wrap64 ((b.length : Int) + 1) = ((b.length + 1 : Nat) : Int) := wn _ (by omega)
  have hl : (b ++ [(⟨5, ⟨0, 0⟩, (c.length : Int)⟩ : S56)]).length = b.length + 1 := by simp
  have hr : rd_T56 (b ++ [(⟨5, ⟨0, 0⟩, (c.length : Int)⟩ : S56)]) (b.length : Int) = ⟨5, ⟨0, 0⟩, (c.length : Int)⟩ := by unfold rd_T56; simp [List.getD_eq_getElem?_getD]
  have hq : rd (c ++ [p]) (c.length : Int) = p := by unfold rd; simp [List.getD_eq_getElem?_getD]
  have hcl : (c ++ [p]).length = c.length + 1 := by simp
  have hret := ret_eq a (b ++ [(⟨5, ⟨0, 0⟩, (c.length : Int)⟩ : S56)]) (c ++ [p]) 5 0 0 (c.length : Int) (by omega) (by omega) (by omega) k (by omega)
  have hcd : closed a (b ++ [(⟨5, ⟨0, 0⟩, (c.length : Int)⟩ : S56)]) (c ++ [p]) ⟨5, ⟨0, 0⟩, (c.length : Int)⟩ = (a.map (fg c.length), (b ++ [(⟨5, ⟨0, 0⟩, (c.length : Int)⟩ : S56)]).map (fg c.length), c, p, 0) := by
    unfold closed
    rw [if_pos ⟨rfl, by show (0 : Int) ≤ c.length; omega, by show (c.length : Int) < _; rw [hcl]; omega⟩]
    show (_, _, (c ++ [p]).take (c.length : Int).toNat, rd (c ++ [p]) (c.length : Int), (0 : Int)) = _
    rw [hq, Int.toNat_natCast, List.take_left]
  have hml : ((b ++ [(⟨5, ⟨0, 0⟩, (c.length : Int)⟩ : S56)]).map (fg c.length)).length = b.length + 1 := by simp
  have hmr : rd_T56 ((b ++ [(⟨5, ⟨0, 0⟩, (c.length : Int)⟩ : S56)]).map (fg c.length)) (b.length : Int) = ⟨1, ⟨0, 0⟩, 0⟩ := by
    unfold rd_T56
    simp [List.getD_eq_getElem?_getD, fg]
  simp only [if_true]
  rw [hl, hw, if_pos rfl, if_pos (by omega), if_pos (by omega), hr]
  rw [hret, hcd]
  simp only [Option.bind_some, if_true]
  rw [hml, if_pos rfl, if_pos (by omega), hmr]
  rfl
theorem pure_ (a b : List S56) (c : List Int) (l : List S56) (p : Int) : garderobelaw17_ShapeBack.f 5000 a b c l p = some true := by
  unfold garderobelaw17_ShapeBack.f garderobelaw17_great.f
  by_cases ga : (a.length : Int) > 300
  · rw [if_pos ga]; rfl
  rw [if_neg ga]
  by_cases gb : (b.length : Int) > 300
  · rw [if_pos gb]; rfl
  rw [if_neg gb]
  simp only [Option.bind_some]
  by_cases gc : (c.length : Int) > 20
  · rw [if_pos (by simpa using gc)]; rfl
  rw [if_neg (by simpa using gc)]
  by_cases gl : (l.length : Int) > 300
  · rw [show decide ((l.length : Int) > 300) = true by simpa using gl]; rfl
  rw [show decide ((l.length : Int) > 300) = false by simpa using gl]
  simp only [garderobelaw17_ShapeBack.j0, Bool.false_eq_true, if_false]
  rw [push_eq a b c l (by omega) (by omega) (by omega) (by omega)]
  simp only [Option.bind_some, if_true]
  rw [pop_eq a b c l (by omega) (by omega) (by omega) (by omega)]
  simp only [Option.bind_some, if_true]
  rw [same_eq a b c (by omega) (by omega) (by omega) 4999 (by omega)]
  simp only [Option.bind_some, if_true]
  rw [vals_eq l (by omega) 4999 (by omega)]
  simp only [Option.bind_some, Bool.not_true]
  exact j1_eq a b c p (by omega) (by omega) (by omega) 4999 (by omega)
end Go.Proofs.Ytjknnifcbcdjiaa.PShapeBack
