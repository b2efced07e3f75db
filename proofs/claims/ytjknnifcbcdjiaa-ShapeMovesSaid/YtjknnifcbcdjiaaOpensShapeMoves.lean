/- From arguments that read as data to what the walks know of them. -/
import Derived.Test.YtjknnifcbcdjiaaOpen
import Derived.Test.YtjknnifcbcdjiaaPShapeMovesx0
set_option linter.unusedVariables false
namespace Go.Proofs.Ytjknnifcbcdjiaa.PShapeMoves
open Go.RowKit Go.Proofs.Ytjknnifcbcdjiaa.Opn Go.Proofs.YtjknnifcbcdjiaaW.PrintWords Go.Proofs.YtjknnifcbcdjiaaW.PrintLast
set_option maxRecDepth 100000
theorem o32 : Opens Try.prog k32 32 (fun _ => True) :=
  opens_mono (opens_iso (fun y => ⟨y.1, y.2⟩) (fun _ => rfl) (opens_struct Try.underlying32 (by kernel_rfl) (opensF_cons rfl (by kernel_rfl) (opens_mono (opens_int Try.underlying29) (fun _ _ => trivial)) (opensF_last rfl (by kernel_rfl) (opens_mono (opens_int Try.underlying30) (fun _ _ => trivial)))))) (fun _ _ => trivial)
theorem o56 : Opens Try.prog k56 56 (fun _ => True) :=
  opens_mono (opens_iso (fun y => ⟨y.1, y.2.1, y.2.2⟩) (fun _ => rfl) (opens_struct Try.underlying56 (by kernel_rfl) (opensF_cons rfl (by kernel_rfl) (opens_mono (opens_int Try.underlying54) (fun _ _ => trivial)) (opensF_cons rfl (by kernel_rfl) o32 (opensF_last rfl (by kernel_rfl) (opens_mono (opens_int Try.underlying3) (fun _ _ => trivial))))))) (fun _ _ => trivial)
structure S53 where
  f0 : (List S56)
  f1 : (List S56)
  f2 : (List Int)
def k53 : Kd S53 := Kd.iso (Kd.pair (Kd.slice 56 k56) (Kd.pair (Kd.slice 56 k56) (Kd.slice 3 (Kd.int .i64)))) (fun x : S53 => (x.f0, x.f1, x.f2))
theorem k53_open {w : World} {x : S53} {cs : List Value} (h : k53.K w x cs) : ∃ A0 c0 A1 c1 A2 c2, cs = [.slice A0 x.f0.length c0, .slice A1 x.f1.length c1, .slice A2 x.f2.length c2] ∧ x.f0.length ≤ c0 ∧ k56.C w A0 x.f0.length x.f0 ∧ x.f1.length ≤ c1 ∧ k56.C w A1 x.f1.length x.f1 ∧ x.f2.length ≤ c2 ∧ (Kd.int .i64).C w A2 x.f2.length x.f2 := by
  obtain ⟨_, _, rfl, h0, _, _, rfl, h1, h2⟩ := h
  obtain ⟨A0, c0, rfl, hl0, hr0⟩ := h0
  obtain ⟨A1, c1, rfl, hl1, hr1⟩ := h1
  obtain ⟨A2, c2, rfl, hl2, hr2⟩ := h2
  exact ⟨A0, c0, A1, c1, A2, c2, rfl, hl0, hr0, hl1, hr1, hl2, hr2⟩
theorem o53 : Opens Try.prog k53 53 (fun _ => True) :=
  opens_mono (opens_iso (fun y => ⟨y.1, y.2.1, y.2.2⟩) (fun _ => rfl) (opens_struct Try.underlying53 (by kernel_rfl) (opensF_cons rfl (by kernel_rfl) (opens_mono (opens_slice Try.underlying50 (by kernel_rfl) o56) (fun _ _ => trivial)) (opensF_cons rfl (by kernel_rfl) (opens_mono (opens_slice Try.underlying50 (by kernel_rfl) o56) (fun _ _ => trivial)) (opensF_last rfl (by kernel_rfl) (opens_mono (opens_slice Try.underlying51 (by kernel_rfl) (opens_mono (opens_int Try.underlying3) (fun _ _ => trivial))) (fun _ _ => trivial))))))) (fun _ _ => trivial)
end Go.Proofs.Ytjknnifcbcdjiaa.PShapeMoves
