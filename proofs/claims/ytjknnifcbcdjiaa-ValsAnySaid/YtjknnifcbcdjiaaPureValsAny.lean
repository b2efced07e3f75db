/- The plain law: each call answers something, of any world. -/
import Derived.Test.YtjknnifcbcdjiaaPValsAnyx
import Derived.OpenShut
namespace Go.Proofs.Ytjknnifcbcdjiaa.PValsAny
open Go.RowKit Go.Proofs.YtjknnifcbcdjiaaW.PrintWords Go.Proofs.YtjknnifcbcdjiaaW.PrintLast Go.Proofs.YtjknnifcbcdjiaaW.PrintMore
set_option linter.unusedVariables false
set_option linter.unusedSimpArgs false
theorem tof_s (k : Nat) (a : Int) : ∃ r, types_of.f (k + 1) a = some r := by
  unfold types_of.f
  (repeat' split) <;> simp only [types_of.j0] <;> (repeat' split) <;> exact ⟨_, rfl⟩
theorem tmay_s (k : Nat) (a b : Int) : ∃ r, types_May.f (k + 1) a b = some r := by
  obtain ⟨r, hr⟩ := tof_s k a
  unfold types_May.f
  rw [hr]
  simp only [Option.bind_some]
  (repeat' split) <;> exact ⟨_, rfl⟩
theorem size_s (k : Nat) (a b : Int) : ∃ r, types_Size.f (k + 1) a b = some r := by
  unfold types_Size.f
  (repeat' split) <;> simp only [types_Size.j0] <;> (repeat' split) <;> exact ⟨_, rfl⟩
theorem isref_s (k : Nat) (a b : Int) : ∃ r, types_IsRef.f (k + 1) a b = some r := by
  obtain ⟨r, hr⟩ := size_s k a b
  unfold types_IsRef.f types_IsArray.f
  rw [hr]
  simp only [Option.bind_some]
  (repeat' split) <;> exact ⟨_, rfl⟩
section
variable (l0 : List S103) (l1 : List S38) (l2 : List S206) (l3 : List S117)
theorem vmay_s (k : Nat) (a b c d : Int) : ∃ r, vals_May.f (k + 2) l0 l1 l2 l3 a b c d = some r := by
  have h : ∀ x8 x9, ∃ r, vals_May.j0 (k + 2) x8 x9 l0 l1 l2 l3 a b c d = some r := fun x8 x9 => by
    obtain ⟨m, hm⟩ := tmay_s k b c
    obtain ⟨i, hi⟩ := isref_s k b c
    simp only [vals_May.j0, hm, hi, vals_class.f, Option.bind_some]
    (repeat' split) <;> exact ⟨_, rfl⟩
  unfold vals_May.f
  (repeat' split) <;> exact h _ _
theorem join_s (hk : okC l0 = true) (k : Nat) (a b c d e f g i : Int) : ∃ r, vals_Join.f (k + 5) l0 l1 l2 l3 a b c d e f g i = some r := by
  have h2 : ∀ x38, ∃ r, vals_Join.j2 (k + 3) x38 l0 l1 l2 l3 a b c d e f g i 1 0 0 0 = some r := fun x38 => by
    simp only [vals_Join.j2, hier_Common.f, hk, if_true, vals_object.f, Option.bind_some]
    (repeat' split) <;> exact ⟨_, rfl⟩
  have h1 : ∀ x28, ∃ r, vals_Join.j1 (k + 4) x28 l0 l1 l2 l3 a b c d e f g i 1 0 0 0 = some r := fun x28 => by
    simp only [vals_Join.j1]
    (repeat' split) <;> first | exact ⟨_, rfl⟩ | exact h2 _
  have h0 : ∀ x21, ∃ r, vals_Join.j0 (k + 5) x21 l0 l1 l2 l3 a b c d e f g i 1 0 0 0 = some r := fun x21 => by
    simp only [vals_Join.j0]
    (repeat' split) <;> first | exact ⟨_, rfl⟩ | exact h1 _
  obtain ⟨m, hm⟩ := vmay_s l0 l1 l2 l3 (k + 3) a b c d
  obtain ⟨m2, hm2⟩ := vmay_s l0 l1 l2 l3 (k + 3) e f g i
  unfold vals_Join.f
  rw [hm, hm2]
  simp only [Option.bind_some]
  (repeat' split) <;> exact h0 _
theorem hof_s (k : Nat) (a b : Int) : ∃ r, hier_of.f (k + 2) l0 l1 l2 l3 a b = some r ∧ (r = 2 → 0 ≤ wrap64 b ∧ wrap64 b < l0.length) := by
  have h1 : ∀ x6 x14, ∃ r, hier_of.j1 (k + 1) x6 x14 l0 l1 l2 l3 a b = some r ∧ (r = 2 → 0 ≤ wrap64 b ∧ wrap64 b < l0.length) := fun x6 x14 => by
    simp only [hier_of.j1, hier_there.f]
    by_cases h0 : wrap64 b ≥ 0
    · by_cases h1 : wrap64 b < (l0.length : Int)
      · simp only [h0, h1, if_true, Option.bind_some, decide_true]
        (repeat' split) <;> exact ⟨_, rfl, fun _ => by first | exact ⟨h0, h1⟩ | exact ⟨trivial, trivial⟩ | simp⟩
      · simp only [h0, h1, if_true, Option.bind_some, decide_false, Bool.false_eq_true, if_false]
        (repeat' split) <;> exact ⟨_, rfl, by simp⟩
    · simp only [h0, if_false, Option.bind_some, Bool.false_eq_true]
      (repeat' split) <;> exact ⟨_, rfl, by simp⟩
  have h0 : ∀ x6 x7, ∃ r, hier_of.j0 (k + 2) x6 x7 l0 l1 l2 l3 a b = some r ∧ (r = 2 → 0 ≤ wrap64 b ∧ wrap64 b < l0.length) := fun x6 x7 => by
    simp only [hier_of.j0]
    (repeat' split) <;> first | exact h1 _ _ | exact ⟨_, rfl, by simp⟩
  unfold hier_of.f
  (repeat' split) <;> exact h0 _ _
theorem hfits_s (hk : okC l0 = true) (k : Nat) (a b c d : Int) : ∃ r, hier_Fits.f (k + 2) l0 l1 l2 l3 a b c d = some r := by
  obtain ⟨r1, hr1, g1⟩ := hof_s l0 l1 l2 l3 k a b
  obtain ⟨r2, hr2, g2⟩ := hof_s l0 l1 l2 l3 k c d
  have h0 : ∀ x16, ∃ r, hier_Fits.j0 (k + 2) r1 r2 x16 l0 l1 l2 l3 a b c d = some r := fun x16 => by
    simp only [hier_Fits.j0, hier_From.f, hk, if_true, Option.bind_some]
    by_cases e2 : r2 = 2
    · have i2 : ∃ v, hier_iface.f l0 l1 l2 l3 (wrap64 d) = some v := by
        unfold hier_iface.f
        rw [if_pos (g2 e2).1, if_pos (g2 e2).2]
        exact ⟨_, rfl⟩
      obtain ⟨v2, hv2⟩ := i2
      rw [hv2]
      simp only [Option.bind_some]
      by_cases e1 : r1 = 2
      · have i1 : ∃ v, hier_iface.f l0 l1 l2 l3 (wrap64 b) = some v := by
          unfold hier_iface.f
          rw [if_pos (g1 e1).1, if_pos (g1 e1).2]
          exact ⟨_, rfl⟩
        obtain ⟨v1, hv1⟩ := i1
        rw [hv1]
        simp only [Option.bind_some]
        (repeat' split) <;> exact ⟨_, rfl⟩
      · simp only [e1, if_false]
        (repeat' split) <;> exact ⟨_, rfl⟩
    · simp only [e2, if_false]
      (repeat' split) <;> exact ⟨_, rfl⟩
  unfold hier_Fits.f
  rw [hr1, hr2]
  simp only [Option.bind_some]
  (repeat' split) <;> exact h0 _
theorem vfits_s (hk : okC l0 = true) (k : Nat) (a b c d e f : Int) : ∃ r, vals_Fits.f (k + 5) l0 l1 l2 l3 a b c d e f = some r := by
  obtain ⟨m, hm⟩ := vmay_s l0 l1 l2 l3 (k + 3) a b c d
  obtain ⟨m2, hm2⟩ := tmay_s (k + 4) e f
  obtain ⟨i, hi⟩ := isref_s (k + 3) e f
  obtain ⟨h, hh⟩ := hfits_s l0 l1 l2 l3 hk (k + 2) b c e f
  have h0 : ∀ x15, ∃ r, vals_Fits.j0 (k + 5) x15 l0 l1 l2 l3 a b c d e f = some r := fun x15 => by
    simp only [vals_Fits.j0, hi, hh, Option.bind_some]
    (repeat' split) <;> exact ⟨_, rfl⟩
  unfold vals_Fits.f
  rw [hm, hm2]
  simp only [Option.bind_some]
  (repeat' split) <;> exact h0 _
end
theorem lives_s : garderobelaw16_lives.f 5000 = some true := by kernel_rfl
theorem pure_ (l0 : List S103) (l1 : List S38) (l2 : List S206) (l3 : List S117) (a b c d e f g i t u : Int) (hg : ∀ x ∈ l0, x.f3.length ≤ maxLen) : garderobelaw16_ValsAny.f 5000 l0 l1 l2 l3 a b c d e f g i t u = some true := by
  unfold garderobelaw16_ValsAny.f
  rw [lives_s]
  by_cases hn : (l0.length : Int) > 100
  · rw [if_pos hn]; rfl
  have hk : okC l0 = true := by
    simp only [okC, Bool.and_eq_true, decide_eq_true_eq, List.all_eq_true]
    exact ⟨by omega, fun x hx => by have := hg x hx; unfold maxLen at this; omega⟩
  obtain ⟨r1, h1⟩ := join_s l0 l1 l2 l3 hk 4995 a b c d e f g i
  obtain ⟨r2, h2⟩ := vfits_s l0 l1 l2 l3 hk 4995 a b c d t u
  obtain ⟨r3, h3⟩ := vmay_s l0 l1 l2 l3 4998 a b c d
  unfold vals_Below.f
  rw [if_neg hn, h1, h2, h3]
  rfl
end Go.Proofs.Ytjknnifcbcdjiaa.PValsAny
