/- From arguments that read as data to what the walks know of them. -/
import Derived.Test.YtjknnifcbcdjiaaOpen
import Derived.Test.YtjknnifcbcdjiaaPFireOfx0
set_option linter.unusedVariables false
namespace Go.Proofs.Ytjknnifcbcdjiaa.PFireOf
open Go.RowKit Go.Proofs.Ytjknnifcbcdjiaa.Opn Go.Proofs.YtjknnifcbcdjiaaW.PrintWords Go.Proofs.YtjknnifcbcdjiaaW.PrintLast
set_option maxRecDepth 100000
structure S96 where
  f0 : Int
  f1 : Int
  f2 : Int
  f3 : Int
  f4 : Int
  f5 : Int
  f6 : Int
  f7 : (List Int)
  f8 : (List Int)
  f9 : Int
def k96 : Kd S96 := Kd.iso (Kd.pair (Kd.int .i64) (Kd.pair (Kd.int .u8) (Kd.pair (Kd.int .i64) (Kd.pair (Kd.int .u8) (Kd.pair (Kd.int .u16) (Kd.pair (Kd.int .i64) (Kd.pair (Kd.int .i64) (Kd.pair (Kd.slice 3 (Kd.int .i64)) (Kd.pair (Kd.slice 30 (Kd.int .u16)) (Kd.int .u16)))))))))) (fun x : S96 => (x.f0, x.f1, x.f2, x.f3, x.f4, x.f5, x.f6, x.f7, x.f8, x.f9))
theorem k96_open {w : World} {x : S96} {cs : List Value} (h : k96.K w x cs) : ∃ A7 c7 A8 c8, cs = [.int .i64 x.f0, .int .u8 x.f1, .int .i64 x.f2, .int .u8 x.f3, .int .u16 x.f4, .int .i64 x.f5, .int .i64 x.f6, .slice A7 x.f7.length c7, .slice A8 x.f8.length c8, .int .u16 x.f9] ∧ x.f7.length ≤ c7 ∧ (Kd.int .i64).C w A7 x.f7.length x.f7 ∧ x.f8.length ≤ c8 ∧ (Kd.int .u16).C w A8 x.f8.length x.f8 := by
  obtain ⟨_, _, rfl, h0, _, _, rfl, h1, _, _, rfl, h2, _, _, rfl, h3, _, _, rfl, h4, _, _, rfl, h5, _, _, rfl, h6, _, _, rfl, h7, _, _, rfl, h8, h9⟩ := h
  obtain rfl := (h0 : _ = [_])
  obtain rfl := (h1 : _ = [_])
  obtain rfl := (h2 : _ = [_])
  obtain rfl := (h3 : _ = [_])
  obtain rfl := (h4 : _ = [_])
  obtain rfl := (h5 : _ = [_])
  obtain rfl := (h6 : _ = [_])
  obtain ⟨A7, c7, rfl, hl7, hr7⟩ := h7
  obtain ⟨A8, c8, rfl, hl8, hr8⟩ := h8
  obtain rfl := (h9 : _ = [_])
  exact ⟨A7, c7, A8, c8, rfl, hl7, hr7, hl8, hr8⟩
theorem o96 : Opens Try.prog k96 96 (fun _ => True) :=
  opens_mono (opens_iso (fun y => ⟨y.1, y.2.1, y.2.2.1, y.2.2.2.1, y.2.2.2.2.1, y.2.2.2.2.2.1, y.2.2.2.2.2.2.1, y.2.2.2.2.2.2.2.1, y.2.2.2.2.2.2.2.2.1, y.2.2.2.2.2.2.2.2.2⟩) (fun _ => rfl) (opens_struct Try.underlying96 (by kernel_rfl) (opensF_cons rfl (by kernel_rfl) (opens_mono (opens_int Try.underlying3) (fun _ _ => trivial)) (opensF_cons rfl (by kernel_rfl) (opens_mono (opens_int Try.underlying93) (fun _ _ => trivial)) (opensF_cons rfl (by kernel_rfl) (opens_mono (opens_int Try.underlying3) (fun _ _ => trivial)) (opensF_cons rfl (by kernel_rfl) (opens_mono (opens_int Try.underlying5) (fun _ _ => trivial)) (opensF_cons rfl (by kernel_rfl) (opens_mono (opens_int Try.underlying30) (fun _ _ => trivial)) (opensF_cons rfl (by kernel_rfl) (opens_mono (opens_int Try.underlying3) (fun _ _ => trivial)) (opensF_cons rfl (by kernel_rfl) (opens_mono (opens_int Try.underlying3) (fun _ _ => trivial)) (opensF_cons rfl (by kernel_rfl) (opens_mono (opens_slice Try.underlying51 (by kernel_rfl) (opens_mono (opens_int Try.underlying3) (fun _ _ => trivial))) (fun _ _ => trivial)) (opensF_cons rfl (by kernel_rfl) (opens_mono (opens_slice Try.underlying94 (by kernel_rfl) (opens_mono (opens_int Try.underlying30) (fun _ _ => trivial))) (fun _ _ => trivial)) (opensF_last rfl (by kernel_rfl) (opens_mono (opens_int Try.underlying30) (fun _ _ => trivial)))))))))))))) (fun _ _ => trivial)
end Go.Proofs.Ytjknnifcbcdjiaa.PFireOf
