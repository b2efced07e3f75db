/- The plain law: each call answers something, of any world that is small. -/
import Derived.Test.YtjknnifcbcdjiaaPFireAnyx
import Derived.OpenShut
set_option linter.unusedVariables false
set_option linter.unusedSimpArgs false
namespace Go.Proofs.Ytjknnifcbcdjiaa.PFireAny
open Go.RowKit Go.Proofs.YtjknnifcbcdjiaaW.PrintWords Go.Proofs.YtjknnifcbcdjiaaW.PrintLast Go.Proofs.YtjknnifcbcdjiaaW.PrintMore
theorem size_s (k : Nat) (a b : Int) : ∃ r, types_Size.f (k + 1) a b = some r := by
  unfold types_Size.f
  (repeat' split) <;> simp only [types_Size.j0] <;> (repeat' split) <;> exact ⟨_, rfl⟩
theorem class_s (k : Nat) (a b c d e f : Int) : ∃ r, fire_class.f (k + 1) a b c d e f = some r := by
  obtain ⟨r, hr⟩ := size_s k a 0
  unfold fire_class.f types_IsArray.f
  rw [hr]
  simp only [Option.bind_some]
  (repeat' split) <;> exact ⟨_, rfl⟩
section
variable (l0 : List S103) (l1 : List S38) (l2 : List S206) (l3 : List S117)
theorem share_s (a : Int) : ∃ r, fire_shareable.f l0 l1 l2 l3 a = some r := by
  unfold fire_shareable.f
  by_cases h : a ≥ 0
  · rw [if_pos h]
    by_cases h1 : a < (l0.length : Int)
    · rw [if_pos h1, if_pos (by omega)]; exact ⟨_, rfl⟩
    · rw [if_neg h1]; exact ⟨_, rfl⟩
  · rw [if_neg h]; exact ⟨_, rfl⟩
theorem may_s (hI : okI l0 = true) (k : Nat) (a b c d e f g i j : Int) : ∃ r, fire_May.f (k + 5) l0 l1 l2 l3 a b c d e f g i j = some r := by
  obtain ⟨rs, hs⟩ := share_s l0 l1 l2 l3 j
  obtain ⟨rc, hc⟩ := class_s (k + 1) b c d e f g
  have h2 : ∀ x9 x19 x31, ∃ r, fire_May.j2 (k + 3) x9 x19 x31 l0 l1 l2 l3 b c d e f g i j = some r := fun x9 x19 x31 => by
    simp only [fire_May.j2, hs, hc, fire_entry.f, fire_global.f, hier_From.f, hier_Shared.f, okI_c hI, hI, if_true, Option.bind_some]
    (repeat' split) <;> exact ⟨_, rfl⟩
  have h1 : ∀ x9 x19 x20, ∃ r, fire_May.j1 (k + 4) x9 x19 x20 l0 l1 l2 l3 b c d e f g i j = some r := fun x9 x19 x20 => by
    simp only [fire_May.j1, fire_global.f, Option.bind_some]
    (repeat' split) <;> first | exact ⟨_, rfl⟩ | exact h2 _ _ _
  have h0 : ∀ x9, ∃ r, fire_May.j0 (k + 5) x9 l0 l1 l2 l3 b c d e f g i j = some r := fun x9 => by
    simp only [fire_May.j0]
    (repeat' split) <;> exact h1 _ _ _
  unfold fire_May.f
  (repeat' split) <;> exact h0 _
end
theorem pure_ (l0 : List S103) (l1 : List S38) (l2 : List S206) (l3 : List S117) (a b c d e f g i j : Int) (hI : okI l0 = true) : garderobelaw21_FireAny.f 10 l0 l1 l2 l3 a b c d e f g i j = some true := by
  obtain ⟨r1, h1⟩ := may_s l0 l1 l2 l3 hI 5 a b c d e f g i j
  obtain ⟨r2, h2⟩ := may_s l0 l1 l2 l3 hI 5 0 b c d e f g i j
  unfold garderobelaw21_FireAny.f garderobelaw21_lives.f
  split
  · rfl
  · rw [h1, h2]
    rfl
end Go.Proofs.Ytjknnifcbcdjiaa.PFireAny
