/- The plain law: subroutines that are opened, and closed, are the document's. -/
import Derived.Test.YtjknnifcbcdjiaaPureShapeBShapeCalls
namespace Go.Proofs.Ytjknnifcbcdjiaa.PShapeCalls
open Go.RowKit Go.Proofs.YtjknnifcbcdjiaaW.PrintWords Go.Proofs.YtjknnifcbcdjiaaW.PrintLast Go.Proofs.YtjknnifcbcdjiaaW.PrintMore
set_option linter.unusedVariables false
set_option linter.unusedSimpArgs false
theorem copy_eq (a b : List S56) (c : List Int) (ha : a.length ≤ 1000) (hb : b.length ≤ 1000) (hc : c.length ≤ 1000) : garderoberef17_Copy.f a b c = some (a, b, c) := by
  unfold garderoberef17_Copy.f
  simp only [List.length_nil, List.nil_append]
  rw [if_pos (by omega), if_pos (by omega), if_pos (by omega)]
theorem rcall_l0 (a b : List S56) (c : List Int) (p : Int) (ha : a.length ≤ 500) (hb : b.length ≤ 500) (hc : c.length ≤ 500) (d : Nat) : ∀ (k i : Nat), i + d = c.length → d < k → garderoberef17_Call.l0 k p i a b c = some (if p ∈ c.drop i then ([], [], [], 9) else (a, b ++ [⟨5, ⟨0, 0⟩, (c.length : Int)⟩], c ++ [p], 0)) := by
  induction d with
  | zero =>
    intro k i hi hk
    obtain ⟨k, rfl⟩ : ∃ m, k = m + 1 := ⟨k - 1, by omega⟩
    simp only [garderoberef17_Call.l0]
    rw [if_neg (by omega), copy_eq a b c (by omega) (by omega) (by omega)]
    simp only [Option.bind_some]
    rw [if_pos (by omega), if_pos (by omega), if_neg (by rw [List.drop_of_length_le (by omega)]; simp)]
  | succ d ih =>
    intro k i hi hk
    obtain ⟨k, rfl⟩ : ∃ m, k = m + 1 := ⟨k - 1, by omega⟩
    simp only [garderoberef17_Call.l0]
    rw [if_pos (by omega), if_pos (by omega)]
    have hd : c.drop i = c[i]'(by omega) :: c.drop (i + 1) := (List.drop_eq_getElem_cons (by omega))
    have hr : rd c (i : Int) = c[i]'(by omega) := by unfold rd; simp [List.getD_eq_getElem?_getD, List.getElem?_eq_getElem (show i < c.length by omega)]
    by_cases h : rd c (i : Int) = p
    · rw [if_pos h, if_pos (by rw [hd, ← hr, h]; exact List.mem_cons_self)]
    · rw [if_neg h, wn i (by omega), ih k (i + 1) (by omega) (by omega), hd, ← hr]
      simp [Ne.symm h]
theorem rcall_eq (a b : List S56) (c : List Int) (p : Int) (ha : a.length ≤ 500) (hb : b.length ≤ 500) (hc : c.length ≤ 500) (k : Nat) (hk : 2000 < k) : garderoberef17_Call.f k a b c p = some (opened a b c p) := by
  unfold garderoberef17_Call.f opened
  by_cases h8 : (c.length : Int) ≥ 8
  · rw [if_pos h8, if_pos h8]
  · rw [if_neg h8, if_neg h8, show garderoberef17_Call.l0 k p 0 a b c = _ from rcall_l0 a b c p ha hb hc c.length k 0 (by omega) (by omega)]
    rfl
theorem rret_l1 (x0 x1 : List S56) (c : List Int) (u0 u1 u2 : Int) (n : Int) (A l : List S56) (h0 : 0 ≤ n) (h1 : n < (c.length : Int)) (hl : l.length ≤ 1000) (d : Nat) : ∀ (k i : Nat), i + d = l.length → d < k → garderoberef17_Return.l1 k i x0 x1 c u0 u1 u2 n A (mp (fg n) i l) c = some (A, l.map (fg n), c.take n.toNat, rd c n, 0) := by
  induction d with
  | zero =>
    intro k i hi hk
    obtain ⟨k, rfl⟩ : ∃ m, k = m + 1 := ⟨k - 1, by omega⟩
    obtain rfl : i = l.length := by omega
    simp only [garderoberef17_Return.l1]
    rw [if_neg (by rw [mp_len]; omega), if_pos h0, if_pos (by omega), if_pos h1, mp_all]
  | succ d ih =>
    intro k i hi hk
    obtain ⟨k, rfl⟩ : ∃ m, k = m + 1 := ⟨k - 1, by omega⟩
    have hlt : i < l.length := by omega
    have hx := ih k (i + 1) (by omega) (by omega)
    simp only [garderoberef17_Return.l1, garderoberef16_None.f, Option.bind_some]
    rw [if_pos (by rw [mp_len]; omega), if_pos (by omega), rd_mp n l i hlt, wn i (by omega), Int.toNat_natCast]
    by_cases h5 : l[i].f0 = 5
    · rw [if_pos h5]
      by_cases hn : l[i].f2 ≥ n
      · have hg : fg n l[i] = ⟨1, ⟨0, 0⟩, 0⟩ := by unfold fg; rw [if_pos h5, if_pos hn]
        rw [if_pos hn, ← hg, mp_set (fg n) l i hlt]
        exact hx
      · rw [if_neg hn, mp_skip (fg n) l i hlt (by unfold fg; rw [if_pos h5, if_neg hn])]
        exact hx
    · rw [if_neg h5, mp_skip (fg n) l i hlt (by unfold fg; rw [if_neg h5])]
      exact hx
theorem rret_l0 (x0 x1 : List S56) (c : List Int) (u0 u1 u2 : Int) (n : Int) (l B : List S56) (h0 : 0 ≤ n) (h1 : n < (c.length : Int)) (hl : l.length ≤ 1000) (hB : B.length ≤ 1000) (d : Nat) : ∀ (k i : Nat), i + d = l.length → d + 1001 < k → garderoberef17_Return.l0 k i x0 x1 c u0 u1 u2 n (mp (fg n) i l) B c = some (l.map (fg n), B.map (fg n), c.take n.toNat, rd c n, 0) := by
  induction d with
  | zero =>
    intro k i hi hk
    obtain ⟨k, rfl⟩ : ∃ m, k = m + 1 := ⟨k - 1, by omega⟩
    obtain rfl : i = l.length := by omega
    simp only [garderoberef17_Return.l0]
    have := rret_l1 x0 x1 c u0 u1 u2 n (l.map (fg n)) B h0 h1 hB B.length k 0 (by omega) (by omega)
    rw [mp_zero] at this
    rw [if_neg (by rw [mp_len]; omega), mp_all]
    exact this
  | succ d ih =>
    intro k i hi hk
    obtain ⟨k, rfl⟩ : ∃ m, k = m + 1 := ⟨k - 1, by omega⟩
    have hlt : i < l.length := by omega
    have hx := ih k (i + 1) (by omega) (by omega)
    simp only [garderoberef17_Return.l0, garderoberef16_None.f, Option.bind_some]
    rw [if_pos (by rw [mp_len]; omega), if_pos (by omega), rd_mp n l i hlt, wn i (by omega), Int.toNat_natCast]
    by_cases h5 : l[i].f0 = 5
    · rw [if_pos h5]
      by_cases hn : l[i].f2 ≥ n
      · have hg : fg n l[i] = ⟨1, ⟨0, 0⟩, 0⟩ := by unfold fg; rw [if_pos h5, if_pos hn]
        rw [if_pos hn, ← hg, mp_set (fg n) l i hlt]
        exact hx
      · rw [if_neg hn, mp_skip (fg n) l i hlt (by unfold fg; rw [if_pos h5, if_neg hn])]
        exact hx
    · rw [if_neg h5, mp_skip (fg n) l i hlt (by unfold fg; rw [if_neg h5])]
      exact hx
theorem rret_eq (a b : List S56) (c : List Int) (v0 v1 v2 v3 : Int) (ha : a.length ≤ 500) (hb : b.length ≤ 500) (hc : c.length ≤ 500) (k : Nat) (hk : 4000 < k) : garderoberef17_Return.f k a b c v0 v1 v2 v3 = some (closed a b c ⟨v0, ⟨v1, v2⟩, v3⟩) := by
  obtain ⟨k, rfl⟩ : ∃ m, k = m + 1 := ⟨k - 1, by omega⟩
  unfold garderoberef17_Return.f closed
  simp only [garderoberef17_Return.j0]
  by_cases h5 : v0 = 5
  · rw [if_pos h5]
    by_cases h0 : v3 < 0
    · rw [if_pos h0, if_pos trivial, if_neg (by omega)]
    · rw [if_neg h0]
      by_cases hl : v3 ≥ (c.length : Int)
      · rw [if_pos (by simp [hl]), if_neg (by omega)]
      · rw [if_neg (by simp [hl]), copy_eq a b c (by omega) (by omega) (by omega), if_pos ⟨h5, by omega, by omega⟩]
        simp only [Option.bind_some]
        have := rret_l0 a b c v0 v1 v2 v3 a b (by omega) (by omega) (by omega) (by omega) a.length k 0 (by omega) (by omega)
        rw [mp_zero] at this
        exact this
  · rw [if_neg h5, if_pos trivial, if_neg (by omega)]
theorem pure_ (a b : List S56) (c : List Int) (p v0 v1 v2 v3 : Int) : garderobelaw17_ShapeCalls.f 5000 a b c p v0 v1 v2 v3 = some true := by
  unfold garderobelaw17_ShapeCalls.f garderobelaw17_great.f
  by_cases ga : (a.length : Int) > 300
  · rw [if_pos ga]; rfl
  rw [if_neg ga]
  by_cases gb : (b.length : Int) > 300
  · rw [if_pos gb]; rfl
  rw [if_neg gb]
  simp only [Option.bind_some]
  by_cases gc : (c.length : Int) > 20
  · rw [if_pos (by simpa using gc)]; rfl
  rw [if_neg (by simpa using gc), copy_eq a b c (by omega) (by omega) (by omega), call_eq a b c p (by omega) (by omega) (by omega) 5000 (by omega), rcall_eq a b c p (by omega) (by omega) (by omega) 5000 (by omega)]
  simp only [Option.bind_some]
  have hso : ∀ k, 2000 < k → garderoberef17_Same.f k (opened a b c p).1 (opened a b c p).2.1 (opened a b c p).2.2.1 (opened a b c p).1 (opened a b c p).2.1 (opened a b c p).2.2.1 = some true := fun k hk => by
    unfold opened
    split
    · exact same_eq [] [] [] (by simp) (by simp) (by simp) k hk
    · split
      · exact same_eq [] [] [] (by simp) (by simp) (by simp) k hk
      · exact same_eq a _ _ (by omega) (by simp; omega) (by simp; omega) k hk
  have hsc : ∀ k, 2000 < k → garderoberef17_Same.f k (closed a b c ⟨v0, ⟨v1, v2⟩, v3⟩).1 (closed a b c ⟨v0, ⟨v1, v2⟩, v3⟩).2.1 (closed a b c ⟨v0, ⟨v1, v2⟩, v3⟩).2.2.1 (closed a b c ⟨v0, ⟨v1, v2⟩, v3⟩).1 (closed a b c ⟨v0, ⟨v1, v2⟩, v3⟩).2.1 (closed a b c ⟨v0, ⟨v1, v2⟩, v3⟩).2.2.1 = some true := fun k hk => by
    unfold closed
    split
    · exact same_eq _ _ _ (by simp; omega) (by simp; omega) (by simp; omega) k hk
    · exact same_eq [] [] [] (by simp) (by simp) (by simp) k hk
  rw [hso 5000 (by omega)]
  simp only [Option.bind_some, if_true, garderobelaw17_ShapeCalls.j0, bne_self_eq_false]
  rw [ret_eq a b c v0 v1 v2 v3 (by omega) (by omega) (by omega) 4999 (by omega), rret_eq a b c v0 v1 v2 v3 (by omega) (by omega) (by omega) 4999 (by omega)]
  simp only [Option.bind_some, Bool.false_eq_true, if_false]
  rw [hsc 4999 (by omega)]
  simp [same_eq a b c (show a.length ≤ 1000 by omega) (show b.length ≤ 1000 by omega) (show c.length ≤ 1000 by omega) 4999 (by omega), garderobelaw17_lives.f]
end Go.Proofs.Ytjknnifcbcdjiaa.PShapeCalls
