/- The walks of the reference's memory, and of what the statements share: bytes that are the same, bytes that are spoilt. -/
import Derived.Test.YtjeaidmmhplglaaRam
import Derived.Deep.LoopGhost
set_option linter.unusedVariables false
set_option linter.unusedSimpArgs false
namespace Go.Proofs.Ytjeaidmmhplglaa.Ram
open Go.RowKit Go.Proofs.Ytjeaidmmhplglaa.Base
theorem zap_getD (l : List Int) (a n j : Nat) : (zap l a n).getD j 0 = if a ≤ j ∧ j < a + n then 0 else l.getD j 0 := by
  rw [List.getD_eq_getElem?_getD, List.getD_eq_getElem?_getD, zap, List.getElem?_mapIdx]
  cases l[j]? with
  | none => simp
  | some x => simp
theorem zs_getD (j : Nat) : zs.getD j 0 = 0 := by
  rw [List.getD_eq_getElem?_getD, zs, List.getElem?_replicate]
  split <;> rfl
theorem zs_len : zs.length = 1024 := by rw [zs, List.length_replicate]
end Go.Proofs.Ytjeaidmmhplglaa.Ram
