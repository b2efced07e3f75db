/- The plain law: each call answers something, of any world that is small. -/
import Derived.Test.YtjknnifcbcdjiaaPHierAnyx
import Derived.OpenShut
set_option linter.unusedVariables false
set_option linter.unusedSimpArgs false
namespace Go.Proofs.Ytjknnifcbcdjiaa.PHierAny
open Go.RowKit Go.Proofs.YtjknnifcbcdjiaaW.PrintWords Go.Proofs.YtjknnifcbcdjiaaW.PrintLast Go.Proofs.YtjknnifcbcdjiaaW.PrintMore
section
variable (l0 : List S103) (l1 : List S38) (l2 : List S206) (l3 : List S117)
theorem hof_s (k : Nat) (a b : Int) : ∃ r, hier_of.f (k + 2) l0 l1 l2 l3 a b = some r ∧ (r = 2 → 0 ≤ wrap64 b ∧ wrap64 b < l0.length) := by
  have h1 : ∀ x6 x14, ∃ r, hier_of.j1 (k + 1) x6 x14 l0 l1 l2 l3 a b = some r ∧ (r = 2 → 0 ≤ wrap64 b ∧ wrap64 b < l0.length) := fun x6 x14 => by
    simp only [hier_of.j1, hier_there.f]
    by_cases h0 : wrap64 b ≥ 0
    · by_cases h1 : wrap64 b < (l0.length : Int)
      · simp only [h0, h1, if_true, Option.bind_some, decide_true]
        (repeat' split) <;> exact ⟨_, rfl, fun _ => by first | exact ⟨h0, h1⟩ | exact ⟨trivial, trivial⟩ | simp⟩
      · simp only [h0, h1, if_true, Option.bind_some, decide_false, Bool.false_eq_true, if_false]
        (repeat' split) <;> exact ⟨_, rfl, by simp⟩
    · simp only [h0, if_false, Option.bind_some, Bool.false_eq_true]
      (repeat' split) <;> exact ⟨_, rfl, by simp⟩
  have h0 : ∀ x6 x7, ∃ r, hier_of.j0 (k + 2) x6 x7 l0 l1 l2 l3 a b = some r ∧ (r = 2 → 0 ≤ wrap64 b ∧ wrap64 b < l0.length) := fun x6 x7 => by
    simp only [hier_of.j0]
    (repeat' split) <;> first | exact h1 _ _ | exact ⟨_, rfl, by simp⟩
  unfold hier_of.f
  (repeat' split) <;> exact h0 _ _
theorem hfits_s (hk : okC l0 = true) (k : Nat) (a b c d : Int) : ∃ r, hier_Fits.f (k + 2) l0 l1 l2 l3 a b c d = some r := by
  obtain ⟨r1, hr1, g1⟩ := hof_s l0 l1 l2 l3 k a b
  obtain ⟨r2, hr2, g2⟩ := hof_s l0 l1 l2 l3 k c d
  have h0 : ∀ x16, ∃ r, hier_Fits.j0 (k + 2) r1 r2 x16 l0 l1 l2 l3 a b c d = some r := fun x16 => by
    simp only [hier_Fits.j0, hier_From.f, hk, if_true, Option.bind_some]
    by_cases e2 : r2 = 2
    · have i2 : ∃ v, hier_iface.f l0 l1 l2 l3 (wrap64 d) = some v := by
        unfold hier_iface.f
        rw [if_pos (g2 e2).1, if_pos (g2 e2).2]
        exact ⟨_, rfl⟩
      obtain ⟨v2, hv2⟩ := i2
      rw [hv2]
      simp only [Option.bind_some]
      by_cases e1 : r1 = 2
      · have i1 : ∃ v, hier_iface.f l0 l1 l2 l3 (wrap64 b) = some v := by
          unfold hier_iface.f
          rw [if_pos (g1 e1).1, if_pos (g1 e1).2]
          exact ⟨_, rfl⟩
        obtain ⟨v1, hv1⟩ := i1
        rw [hv1]
        simp only [Option.bind_some]
        (repeat' split) <;> exact ⟨_, rfl⟩
      · simp only [e1, if_false]
        (repeat' split) <;> exact ⟨_, rfl⟩
    · simp only [e2, if_false]
      (repeat' split) <;> exact ⟨_, rfl⟩
  unfold hier_Fits.f
  rw [hr1, hr2]
  simp only [Option.bind_some]
  (repeat' split) <;> exact h0 _
end
theorem works_s : garderobelaw13_works.f 100 = some true := by kernel_rfl
theorem pure_ (l0 : List S103) (l1 : List S38) (l2 : List S206) (l3 : List S117) (a b c d e f : Int) (hI : okI l0 = true) : garderobelaw13_HierAny.f 100 l0 l1 l2 l3 a b c d e f = some true := by
  obtain ⟨r, hr⟩ := hfits_s l0 l1 l2 l3 (okI_c hI) 98 c d e f
  unfold garderobelaw13_HierAny.f
  rw [works_s, hr]
  simp only [hier_Up.f, hier_From.f, hier_Common.f, hier_Ifaces.f, hier_Shared.f, okI_u hI, okI_c hI, hI, if_true, Option.bind_some]
end Go.Proofs.Ytjknnifcbcdjiaa.PHierAny
