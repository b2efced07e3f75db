/- lib.World's world is the reference's. -/
import Derived.Test.YtjknnifcbcdjiaaDoorLibW
set_option linter.unusedVariables false
namespace Go.Proofs.YtjknnifcbcdjiaaDoor.TabL
open Go.Proofs.YtjknnifcbcdjiaaDoor.Tab
instance : DecidableEq ClsM := fun a b => decidable_of_iff (a.flags = b.flags ∧ a.super = b.super ∧ a.fields = b.fields ∧ a.virtuals = b.virtuals) ⟨fun h => by cases a; cases b; simp_all, fun h => h ▸ ⟨rfl, rfl, rfl, rfl⟩⟩
instance : DecidableEq MetM := fun a b => decidable_of_iff (a.f = b.f ∧ a.cl = b.cl ∧ a.ps = b.ps ∧ a.k = b.k ∧ a.c = b.c ∧ a.n = b.n) ⟨fun h => by cases a; cases b; simp_all, fun h => h ▸ ⟨rfl, rfl, rfl, rfl, rfl, rfl⟩⟩
instance : DecidableEq ExpM := fun a b => decidable_of_iff (a.cl = b.cl ∧ a.ms = b.ms) ⟨fun h => by cases a; cases b; simp_all, fun h => h ▸ ⟨rfl, rfl⟩⟩
set_option maxRecDepth 100000 in
theorem wst_same : TabL.wst 17 = Tab.wst 17 := by decide +kernel
theorem world_said (w : World) (hG : Gl w) : Calls Tryd.prog 5 #[] w fun e w' => WorldPost w e w' := by
  have h := world_any w hG
  rw [wst_same] at h
  exact h
end Go.Proofs.YtjknnifcbcdjiaaDoor.TabL
