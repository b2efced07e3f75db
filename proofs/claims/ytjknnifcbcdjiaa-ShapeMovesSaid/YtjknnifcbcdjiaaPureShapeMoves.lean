/- The plain law: what is pushed, popped, got and set. -/
import Derived.Test.YtjknnifcbcdjiaaPureShapeAShapeMoves
import Derived.OpenShut
namespace Go.Proofs.Ytjknnifcbcdjiaa.PShapeMoves
open Go.RowKit Go.Proofs.YtjknnifcbcdjiaaW.PrintWords Go.Proofs.YtjknnifcbcdjiaaW.PrintLast Go.Proofs.YtjknnifcbcdjiaaW.PrintMore
set_option linter.unusedVariables false
set_option linter.unusedSimpArgs false
theorem copy_eq (a b : List S56) (c : List Int) (ha : a.length ≤ 1000) (hb : b.length ≤ 1000) (hc : c.length ≤ 1000) : garderoberef17_Copy.f a b c = some (a, b, c) := by
  unfold garderoberef17_Copy.f
  simp only [List.length_nil, List.nil_append]
  rw [if_pos (by omega), if_pos (by omega), if_pos (by omega)]
def pushed (a b : List S56) (c : List Int) (m : Int) (l : List S56) : List S56 × List S56 × List Int × Int := if (b.length : Int) + l.length > m then ([], [], [], 9) else (a, b ++ l, c, 0)
theorem push_eq (a b : List S56) (c : List Int) (m : Int) (l : List S56) (ha : a.length ≤ 500) (hb : b.length ≤ 400) (hc : c.length ≤ 500) (hl : l.length ≤ 400) (hm : m < 9223372036854775808) : shape_Push.f a b c m l = some (pushed a b c m l) := by
  unfold shape_Push.f pushed
  by_cases h1 : (b.length : Int) > m
  · rw [if_pos h1, if_pos (by omega)]
  have hw : wrap64 (m - (b.length : Int)) = m - (b.length : Int) := by unfold wrap64; omega
  rw [if_neg h1, hw]
  by_cases h2 : (l.length : Int) > m - (b.length : Int)
  · rw [if_pos h2, if_pos (by omega)]
  rw [if_neg h2, if_neg (by omega), copied_eq a b c (by omega) (by omega) (by omega)]
  simp only [Option.bind_some]
  rw [if_pos (by omega), if_pos (by omega)]
  simp only [Int.toNat_natCast, List.take_length]
  rw [if_pos (by omega)]
theorem rpush_eq (a b : List S56) (c : List Int) (m : Int) (l : List S56) (ha : a.length ≤ 500) (hb : b.length ≤ 400) (hc : c.length ≤ 500) (hl : l.length ≤ 400) : garderoberef17_Push.f a b c m l = some (pushed a b c m l) := by
  unfold garderoberef17_Push.f pushed
  rw [copy_eq a b c (by omega) (by omega) (by omega)]
  simp only [Option.bind_some]
  rw [if_pos (by omega)]
  have hlen : (b ++ l).length = b.length + l.length := List.length_append
  by_cases h : (b.length : Int) + l.length > m
  · rw [if_pos h, if_pos (by rw [hlen]; omega)]
  · rw [if_neg h, if_neg (by rw [hlen]; omega)]
def popped (a b : List S56) (c : List Int) (n : Int) : List S56 × List S56 × List Int × List S56 × Int := if n < 0 then ([], [], [], [], 2) else if n > (b.length : Int) then ([], [], [], [], 9) else (a, b.take ((b.length : Int) - n).toNat, c, b.drop ((b.length : Int) - n).toNat, 0)
theorem pop_eq (a b : List S56) (c : List Int) (n : Int) (ha : a.length ≤ 500) (hb : b.length ≤ 400) (hc : c.length ≤ 500) : shape_Pop.f a b c n = some (popped a b c n) := by
  unfold shape_Pop.f popped
  by_cases h1 : n < 0
  · rw [if_pos h1, if_pos h1]
  rw [if_neg h1, if_neg h1]
  by_cases h2 : n > (b.length : Int)
  · rw [if_pos h2, if_pos h2]
  rw [if_neg h2, if_neg h2, copied_eq a b c (by omega) (by omega) (by omega)]
  simp only [Option.bind_some]
  have hw : wrap64 ((b.length : Int) - n) = (b.length : Int) - n := by unfold wrap64; omega
  rw [hw, if_pos (by omega), if_pos (by omega), vclone_eq _ (by rw [List.length_drop]; omega)]
  rfl
theorem rpop_eq (a b : List S56) (c : List Int) (n : Int) (ha : a.length ≤ 500) (hb : b.length ≤ 400) (hc : c.length ≤ 500) : garderoberef17_Pop.f a b c n = some (popped a b c n) := by
  unfold garderoberef17_Pop.f popped
  by_cases h1 : n < 0
  · rw [if_pos h1, if_pos h1]
  rw [if_neg h1, if_neg h1]
  by_cases h2 : n > (b.length : Int)
  · rw [if_pos h2, if_pos h2]
  rw [if_neg h2, if_neg h2, copy_eq a b c (by omega) (by omega) (by omega)]
  simp only [Option.bind_some]
  have hw : wrap64 ((b.length : Int) - n) = (b.length : Int) - n := by unfold wrap64; omega
  rw [hw, if_pos (by omega), if_pos (by omega), vclone_eq _ (by rw [List.length_drop]; omega)]
  rfl
theorem j2_eq (a b : List S56) (c : List Int) (at_ v0 v1 v2 v3 : Int) (ha : a.length ≤ 300) (hb : b.length ≤ 300) (hc : c.length ≤ 20) (k : Nat) (hk : 3000 < k) : garderobelaw17_ShapeMoves.j2 k at_ false a b c v0 v1 v2 v3 a b c = some true := by
  obtain ⟨k, rfl⟩ : ∃ m, k = m + 2 := ⟨k - 2, by omega⟩
  simp only [garderobelaw17_ShapeMoves.j2, Bool.false_eq_true, if_false]
  have hs := same_eq a b c (by omega) (by omega) (by omega) k (by omega)
  have h0 := same_eq [] [] [] (by simp) (by simp) (by simp) k (by omega)
  by_cases h1 : at_ < 0
  · have hg : shape_Get.f a b c at_ = some (0, 0, 0, 0, 9) := by unfold shape_Get.f; rw [if_pos h1]
    have hq : shape_Set.f a b c at_ v0 v1 v2 v3 = some ([], [], [], 9) := by unfold shape_Set.f; rw [if_pos h1]
    rw [hg, hq]
    simp only [Option.bind_some]
    rw [if_pos h1]
    simp only [garderobelaw17_ShapeMoves.j3, if_true]
    rw [h0]
    simp only [Option.bind_some, if_true]
    rw [hs]
    rfl
  by_cases h2 : at_ ≥ (a.length : Int)
  · have hg : shape_Get.f a b c at_ = some (0, 0, 0, 0, 9) := by unfold shape_Get.f; rw [if_neg h1, if_pos h2]
    have hq : shape_Set.f a b c at_ v0 v1 v2 v3 = some ([], [], [], 9) := by unfold shape_Set.f; rw [if_neg h1, if_pos h2]
    rw [hg, hq]
    simp only [Option.bind_some]
    rw [if_neg h1, decide_eq_true h2]
    simp only [garderobelaw17_ShapeMoves.j3, if_true]
    rw [h0]
    simp only [Option.bind_some, if_true]
    rw [hs]
    rfl
  · have hg : shape_Get.f a b c at_ = some ((rd_T56 a at_).f0, (rd_T56 a at_).f1.f0, (rd_T56 a at_).f1.f1, (rd_T56 a at_).f2, 0) := by unfold shape_Get.f; rw [if_neg h1, if_neg h2, if_pos (by omega), if_pos (by omega)]
    have hq : shape_Set.f a b c at_ v0 v1 v2 v3 = some (a.set at_.toNat ⟨v0, ⟨v1, v2⟩, v3⟩, b, c, 0) := by
      unfold shape_Set.f
      rw [if_neg h1, if_neg h2, copied_eq a b c (by omega) (by omega) (by omega)]
      simp only [Option.bind_some]
      rw [if_pos (by omega), if_pos (by omega)]
    have hw := same_eq (a.set at_.toNat ⟨v0, ⟨v1, v2⟩, v3⟩) b c (by rw [List.length_set]; omega) (by omega) (by omega) k (by omega)
    rw [hg, hq]
    simp only [Option.bind_some]
    rw [if_neg h1, decide_eq_false h2]
    simp only [garderobelaw17_ShapeMoves.j3, Bool.false_eq_true, if_false]
    rw [copy_eq a b c (by omega) (by omega) (by omega)]
    simp only [Option.bind_some]
    rw [if_pos (by omega), if_pos (by omega), if_pos trivial, if_pos trivial, if_pos (by omega), if_pos (by simp), hw]
    simp only [Option.bind_some, if_true]
    rw [hs]
    rfl
theorem j1_eq (a b : List S56) (c : List Int) (n at_ v0 v1 v2 v3 : Int) (ha : a.length ≤ 300) (hb : b.length ≤ 300) (hc : c.length ≤ 20) (k : Nat) (hk : 4000 < k) : garderobelaw17_ShapeMoves.j1 k n at_ false a b c v0 v1 v2 v3 a b c = some true := by
  obtain ⟨k, rfl⟩ : ∃ m, k = m + 1 := ⟨k - 1, by omega⟩
  simp only [garderobelaw17_ShapeMoves.j1, Bool.false_eq_true, if_false]
  rw [pop_eq a b c n (by omega) (by omega) (by omega), rpop_eq a b c n (by omega) (by omega) (by omega)]
  simp only [Option.bind_some]
  have hs : garderoberef17_Same.f k (popped a b c n).1 (popped a b c n).2.1 (popped a b c n).2.2.1 (popped a b c n).1 (popped a b c n).2.1 (popped a b c n).2.2.1 = some true := by
    unfold popped
    split
    · exact same_eq [] [] [] (by simp) (by simp) (by simp) k (by omega)
    · split
      · exact same_eq [] [] [] (by simp) (by simp) (by simp) k (by omega)
      · exact same_eq a _ c (by omega) (by rw [List.length_take]; omega) (by omega) k (by omega)
  have hv : garderoberef17_Vals.f k (popped a b c n).2.2.2.1 (popped a b c n).2.2.2.1 = some true := by
    unfold popped
    split
    · exact vals_eq [] (by simp) k (by omega)
    · split
      · exact vals_eq [] (by simp) k (by omega)
      · exact vals_eq _ (by rw [List.length_drop]; omega) k (by omega)
  rw [hs]
  simp only [Option.bind_some, if_true]
  rw [hv]
  simp only [Option.bind_some, if_true, bne_self_eq_false]
  exact j2_eq a b c at_ v0 v1 v2 v3 ha hb hc k (by omega)
theorem pure_ (a b : List S56) (c : List Int) (m n at_ : Int) (l : List S56) (v0 v1 v2 v3 : Int) (hw : (Lit.int .i64 m).wf = true) : garderobelaw17_ShapeMoves.f 5000 a b c m n at_ l v0 v1 v2 v3 = some true := by
  have hm : m < 9223372036854775808 := by have := (Go.bounds_i64 hw).2; omega
  unfold garderobelaw17_ShapeMoves.f garderobelaw17_great.f
  by_cases ga : (a.length : Int) > 300
  · rw [if_pos ga]; rfl
  rw [if_neg ga]
  by_cases gb : (b.length : Int) > 300
  · rw [if_pos gb]; rfl
  rw [if_neg gb]
  simp only [Option.bind_some]
  by_cases gc : (c.length : Int) > 20
  · rw [if_pos (by simpa using gc)]; rfl
  rw [if_neg (by simpa using gc)]
  by_cases gl : (l.length : Int) > 300
  · rw [show decide ((l.length : Int) > 300) = true by simpa using gl]; rfl
  rw [show decide ((l.length : Int) > 300) = false by simpa using gl]
  simp only [garderobelaw17_ShapeMoves.j0, Bool.false_eq_true, if_false]
  rw [copy_eq a b c (by omega) (by omega) (by omega)]
  simp only [Option.bind_some]
  rw [push_eq a b c m l (by omega) (by omega) (by omega) (by omega) hm, rpush_eq a b c m l (by omega) (by omega) (by omega) (by omega)]
  simp only [Option.bind_some]
  have hs : garderoberef17_Same.f 4999 (pushed a b c m l).1 (pushed a b c m l).2.1 (pushed a b c m l).2.2.1 (pushed a b c m l).1 (pushed a b c m l).2.1 (pushed a b c m l).2.2.1 = some true := by
    unfold pushed
    split
    · exact same_eq [] [] [] (by simp) (by simp) (by simp) 4999 (by omega)
    · exact same_eq a _ c (by omega) (by rw [List.length_append]; omega) (by omega) 4999 (by omega)
  rw [hs]
  simp only [Option.bind_some, if_true, bne_self_eq_false]
  exact j1_eq a b c n at_ v0 v1 v2 v3 (by omega) (by omega) (by omega) 4999 (by omega)
end Go.Proofs.Ytjknnifcbcdjiaa.PShapeMoves
