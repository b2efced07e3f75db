/- What the shapes' plain functions answer: copies, likeness, subroutines that are opened and closed. -/
import Derived.Test.YtjknnifcbcdjiaaPShapeMovesx
namespace Go.Proofs.Ytjknnifcbcdjiaa.PShapeMoves
open Go.RowKit Go.Proofs.YtjknnifcbcdjiaaW.PrintWords Go.Proofs.YtjknnifcbcdjiaaW.PrintLast Go.Proofs.YtjknnifcbcdjiaaW.PrintMore
set_option linter.unusedVariables false
set_option linter.unusedSimpArgs false
abbrev V56 := S56
theorem wn (i : Nat) (h : i ≤ 100000) : wrap64 ((i : Int) + 1) = ((i + 1 : Nat) : Int) := by unfold wrap64; omega
theorem vclone_eq (a : List S56) (ha : a.length ≤ 1000) : api_Val.f a = some a := by
  unfold api_Val.f
  simp only [List.length_nil, List.nil_append]
  rw [if_pos (by omega)]
theorem iclone_eq (a : List Int) (ha : a.length ≤ 1000) : slices_Clone_int_int.f a = some a := by
  unfold slices_Clone_int_int.f
  simp only [List.length_nil, List.nil_append]
  rw [if_pos (by omega)]
theorem copied_eq (a b : List S56) (c : List Int) (ha : a.length ≤ 1000) (hb : b.length ≤ 1000) (hc : c.length ≤ 1000) : shape_copied.f a b c = some (a, b, c) := by
  unfold shape_copied.f
  rw [vclone_eq a ha, vclone_eq b hb, iclone_eq c hc]
  rfl
theorem vals_l0 (l : List S56) (hl : l.length ≤ 1000) (d : Nat) : ∀ (k i : Nat), i + d = l.length → d < k → garderoberef17_Vals.l0 k l l i = some true := by
  induction d with
  | zero =>
    intro k i hi hk
    obtain ⟨k, rfl⟩ : ∃ m, k = m + 1 := ⟨k - 1, by omega⟩
    simp only [garderoberef17_Vals.l0]
    rw [if_neg (by omega)]
  | succ d ih =>
    intro k i hi hk
    obtain ⟨k, rfl⟩ : ∃ m, k = m + 1 := ⟨k - 1, by omega⟩
    simp only [garderoberef17_Vals.l0]
    rw [if_pos (by omega), if_pos (by omega), if_pos (by omega), if_neg (by simp), wn i (by omega)]
    exact ih k (i + 1) (by omega) (by omega)
theorem vals_eq (l : List S56) (hl : l.length ≤ 1000) (k : Nat) (hk : 1000 < k) : garderoberef17_Vals.f k l l = some true := by
  unfold garderoberef17_Vals.f
  rw [if_pos rfl]
  exact vals_l0 l hl l.length k 0 (by omega) (by omega)
theorem same_l0 (a b a' b' : List S56) (l : List Int) (hl : l.length ≤ 1000) (d : Nat) : ∀ (k i : Nat), i + d = l.length → d < k → garderoberef17_Same.l0 k i a b l a' b' l = some true := by
  induction d with
  | zero =>
    intro k i hi hk
    obtain ⟨k, rfl⟩ : ∃ m, k = m + 1 := ⟨k - 1, by omega⟩
    simp only [garderoberef17_Same.l0]
    rw [if_neg (by omega)]
  | succ d ih =>
    intro k i hi hk
    obtain ⟨k, rfl⟩ : ∃ m, k = m + 1 := ⟨k - 1, by omega⟩
    simp only [garderoberef17_Same.l0]
    rw [if_pos (by omega), if_pos (by omega), if_pos (by omega), if_pos trivial, wn i (by omega)]
    exact ih k (i + 1) (by omega) (by omega)
theorem same_eq (a b : List S56) (c : List Int) (ha : a.length ≤ 1000) (hb : b.length ≤ 1000) (hc : c.length ≤ 1000) (k : Nat) (hk : 2000 < k) : garderoberef17_Same.f k a b c a b c = some true := by
  obtain ⟨k, rfl⟩ : ∃ m, k = m + 1 := ⟨k - 1, by omega⟩
  unfold garderoberef17_Same.f
  rw [vals_eq a ha (k + 1) (by omega), vals_eq b hb (k + 1) (by omega)]
  simp only [Option.bind_some, if_true, garderoberef17_Same.j0]
  rw [if_neg (by simp)]
  exact same_l0 a b a b c hc c.length k 0 (by omega) (by omega)
/-- The first i elements mapped. -/
def mp {α : Type} (g : α → α) (i : Nat) (l : List α) : List α := (l.take i).map g ++ l.drop i
theorem mp_zero {α : Type} (g : α → α) (l : List α) : mp g 0 l = l := by simp [mp]
theorem mp_all {α : Type} (g : α → α) (l : List α) : mp g l.length l = l.map g := by simp [mp]
theorem mp_len {α : Type} (g : α → α) (i : Nat) (l : List α) : (mp g i l).length = l.length := by simp [mp]; omega
theorem mp_get {α : Type} (g : α → α) (z : α) (l : List α) : ∀ (i : Nat) (h : i < l.length), (mp g i l).getD i z = l[i] := by
  induction l with
  | nil => intro i h; simp at h
  | cons x l ih =>
    intro i h
    cases i with
    | zero => rfl
    | succ i => simpa [mp] using ih i (by simpa using h)
theorem mp_set {α : Type} (g : α → α) (l : List α) : ∀ (i : Nat) (h : i < l.length), (mp g i l).set i (g l[i]) = mp g (i + 1) l := by
  induction l with
  | nil => intro i h; simp at h
  | cons x l ih =>
    intro i h
    cases i with
    | zero => simp [mp]
    | succ i => simpa [mp] using ih i (by simpa using h)
theorem mp_skip {α : Type} (g : α → α) (l : List α) : ∀ (i : Nat) (h : i < l.length), g l[i] = l[i] → mp g i l = mp g (i + 1) l := by
  induction l with
  | nil => intro i h; simp at h
  | cons x l ih =>
    intro i h hg
    cases i with
    | zero => simp at hg; simp [mp, hg]
    | succ i => simpa [mp] using ih i (by simpa using h) (by simpa using hg)
end Go.Proofs.Ytjknnifcbcdjiaa.PShapeMoves
