/- From arguments that read as data to what the walks know of them. -/
import Derived.Test.YtjknnifcbcdjiaaOpen
import Derived.Test.YtjknnifcbcdjiaaPFireAnyx0
set_option linter.unusedVariables false
set_option linter.unusedSimpArgs false
namespace Go.Proofs.Ytjknnifcbcdjiaa.PFireAny
open Go.RowKit Go.Proofs.Ytjknnifcbcdjiaa.Opn Go.Proofs.YtjknnifcbcdjiaaW.PrintWords Go.Proofs.YtjknnifcbcdjiaaW.PrintLast
set_option maxRecDepth 100000
theorem o109 : Opens Try.prog k109 109 (fun _ => True) :=
  opens_mono (opens_iso (fun y => ⟨y.1, y.2⟩) (fun _ => rfl) (opens_struct Try.underlying109 (by kernel_rfl) (opensF_cons rfl (by kernel_rfl) (opens_mono (opens_int Try.underlying3) (fun _ _ => trivial)) (opensF_last rfl (by kernel_rfl) (opens_mono (opens_slice Try.underlying51 (by kernel_rfl) (opens_mono (opens_int Try.underlying3) (fun _ _ => trivial))) (fun _ _ => trivial)))))) (fun _ _ => trivial)
theorem o32 : Opens Try.prog k32 32 (fun _ => True) :=
  opens_mono (opens_iso (fun y => ⟨y.1, y.2⟩) (fun _ => rfl) (opens_struct Try.underlying32 (by kernel_rfl) (opensF_cons rfl (by kernel_rfl) (opens_mono (opens_int Try.underlying29) (fun _ _ => trivial)) (opensF_last rfl (by kernel_rfl) (opens_mono (opens_int Try.underlying30) (fun _ _ => trivial)))))) (fun _ _ => trivial)
theorem o34 : Opens Try.prog k34 34 (fun _ => True) :=
  opens_mono (opens_iso (fun y => ⟨y.1, y.2⟩) (fun _ => rfl) (opens_struct Try.underlying34 (by kernel_rfl) (opensF_cons rfl (by kernel_rfl) (opens_mono (opens_slice Try.underlying28 (by kernel_rfl) o32) (fun _ _ => trivial)) (opensF_last rfl (by kernel_rfl) o32)))) (fun _ _ => trivial)
theorem o103 : Opens Try.prog k103 103 (fun _ => True) :=
  opens_mono (opens_iso (fun y => ⟨y.1, y.2.1, y.2.2.1, y.2.2.2.1, y.2.2.2.2.1, y.2.2.2.2.2.1, y.2.2.2.2.2.2⟩) (fun _ => rfl) (opens_struct Try.underlying103 (by kernel_rfl) (opensF_cons rfl (by kernel_rfl) (opens_mono (opens_int Try.underlying3) (fun _ _ => trivial)) (opensF_cons rfl (by kernel_rfl) (opens_mono (opens_int Try.underlying5) (fun _ _ => trivial)) (opensF_cons rfl (by kernel_rfl) (opens_mono (opens_int Try.underlying3) (fun _ _ => trivial)) (opensF_cons rfl (by kernel_rfl) (opens_mono (opens_slice Try.underlying100 (by kernel_rfl) o109) (fun _ _ => trivial)) (opensF_cons rfl (by kernel_rfl) (opens_mono (opens_slice Try.underlying28 (by kernel_rfl) o32) (fun _ _ => trivial)) (opensF_cons rfl (by kernel_rfl) (opens_mono (opens_slice Try.underlying51 (by kernel_rfl) (opens_mono (opens_int Try.underlying3) (fun _ _ => trivial))) (fun _ _ => trivial)) (opensF_last rfl (by kernel_rfl) (opens_mono (opens_slice Try.underlying101 (by kernel_rfl) o34) (fun _ _ => trivial))))))))))) (fun _ _ => trivial)
theorem o96 : Opens Try.prog k96 96 (fun _ => True) :=
  opens_mono (opens_iso (fun y => ⟨y.1, y.2.1, y.2.2.1, y.2.2.2.1, y.2.2.2.2.1, y.2.2.2.2.2.1, y.2.2.2.2.2.2.1, y.2.2.2.2.2.2.2.1, y.2.2.2.2.2.2.2.2.1, y.2.2.2.2.2.2.2.2.2⟩) (fun _ => rfl) (opens_struct Try.underlying96 (by kernel_rfl) (opensF_cons rfl (by kernel_rfl) (opens_mono (opens_int Try.underlying3) (fun _ _ => trivial)) (opensF_cons rfl (by kernel_rfl) (opens_mono (opens_int Try.underlying93) (fun _ _ => trivial)) (opensF_cons rfl (by kernel_rfl) (opens_mono (opens_int Try.underlying3) (fun _ _ => trivial)) (opensF_cons rfl (by kernel_rfl) (opens_mono (opens_int Try.underlying5) (fun _ _ => trivial)) (opensF_cons rfl (by kernel_rfl) (opens_mono (opens_int Try.underlying30) (fun _ _ => trivial)) (opensF_cons rfl (by kernel_rfl) (opens_mono (opens_int Try.underlying3) (fun _ _ => trivial)) (opensF_cons rfl (by kernel_rfl) (opens_mono (opens_int Try.underlying3) (fun _ _ => trivial)) (opensF_cons rfl (by kernel_rfl) (opens_mono (opens_slice Try.underlying51 (by kernel_rfl) (opens_mono (opens_int Try.underlying3) (fun _ _ => trivial))) (fun _ _ => trivial)) (opensF_cons rfl (by kernel_rfl) (opens_mono (opens_slice Try.underlying94 (by kernel_rfl) (opens_mono (opens_int Try.underlying30) (fun _ _ => trivial))) (fun _ _ => trivial)) (opensF_last rfl (by kernel_rfl) (opens_mono (opens_int Try.underlying30) (fun _ _ => trivial)))))))))))))) (fun _ _ => trivial)
theorem o124 : Opens Try.prog k124 124 (fun _ => True) :=
  opens_mono (opens_iso (fun y => ⟨y.1, y.2.1, y.2.2.1, y.2.2.2⟩) (fun _ => rfl) (opens_struct Try.underlying124 (by kernel_rfl) (opensF_cons rfl (by kernel_rfl) (opens_mono (opens_int Try.underlying3) (fun _ _ => trivial)) (opensF_cons rfl (by kernel_rfl) (opens_mono (opens_int Try.underlying3) (fun _ _ => trivial)) (opensF_cons rfl (by kernel_rfl) (opens_mono (opens_int Try.underlying3) (fun _ _ => trivial)) (opensF_last rfl (by kernel_rfl) (opens_mono (opens_int Try.underlying3) (fun _ _ => trivial)))))))) (fun _ _ => trivial)
theorem o38 : Opens Try.prog k38 38 (fun _ => True) :=
  opens_mono (opens_iso (fun y => ⟨y.1, y.2.1, y.2.2.1, y.2.2.2.1, y.2.2.2.2.1, y.2.2.2.2.2.1, y.2.2.2.2.2.2.1, y.2.2.2.2.2.2.2.1, y.2.2.2.2.2.2.2.2⟩) (fun _ => rfl) (opens_struct Try.underlying38 (by kernel_rfl) (opensF_cons rfl (by kernel_rfl) (opens_mono (opens_int Try.underlying3) (fun _ _ => trivial)) (opensF_cons rfl (by kernel_rfl) (opens_mono (opens_int Try.underlying5) (fun _ _ => trivial)) (opensF_cons rfl (by kernel_rfl) (opens_mono (opens_int Try.underlying3) (fun _ _ => trivial)) (opensF_cons rfl (by kernel_rfl) o34 (opensF_cons rfl (by kernel_rfl) (opens_mono (opens_int Try.underlying3) (fun _ _ => trivial)) (opensF_cons rfl (by kernel_rfl) (opens_mono (opens_int Try.underlying3) (fun _ _ => trivial)) (opensF_cons rfl (by kernel_rfl) (opens_mono (opens_slice Try.underlying35 (by kernel_rfl) o96) (fun _ _ => trivial)) (opensF_cons rfl (by kernel_rfl) (opens_mono (opens_slice Try.underlying36 (by kernel_rfl) o124) (fun _ _ => trivial)) (opensF_last rfl (by kernel_rfl) (opens_mono (opens_int Try.underlying3) (fun _ _ => trivial))))))))))))) (fun _ _ => trivial)
theorem o206 : Opens Try.prog k206 206 (fun _ => True) :=
  opens_mono (opens_iso (fun y => ⟨y.1, y.2⟩) (fun _ => rfl) (opens_struct Try.underlying206 (by kernel_rfl) (opensF_cons rfl (by kernel_rfl) (opens_mono (opens_int Try.underlying3) (fun _ _ => trivial)) (opensF_last rfl (by kernel_rfl) o32)))) (fun _ _ => trivial)
theorem o113 : Opens Try.prog k113 113 (fun _ => True) :=
  opens_mono (opens_iso (fun y => ⟨y.1, y.2⟩) (fun _ => rfl) (opens_struct Try.underlying113 (by kernel_rfl) (opensF_cons rfl (by kernel_rfl) (opens_mono (opens_int Try.underlying5) (fun _ _ => trivial)) (opensF_last rfl (by kernel_rfl) (opens_mono (opens_int Try.underlying5) (fun _ _ => trivial)))))) (fun _ _ => trivial)
theorem o154 : Opens Try.prog k154 154 (fun _ => True) :=
  opens_mono (opens_iso (fun y => ⟨y.1, y.2.1, y.2.2⟩) (fun _ => rfl) (opens_struct Try.underlying154 (by kernel_rfl) (opensF_cons rfl (by kernel_rfl) (opens_mono (opens_int Try.underlying3) (fun _ _ => trivial)) (opensF_cons rfl (by kernel_rfl) (opens_mono (opens_slice Try.underlying51 (by kernel_rfl) (opens_mono (opens_int Try.underlying3) (fun _ _ => trivial))) (fun _ _ => trivial)) (opensF_last rfl (by kernel_rfl) (opens_mono (opens_slice Try.underlying51 (by kernel_rfl) (opens_mono (opens_int Try.underlying3) (fun _ _ => trivial))) (fun _ _ => trivial))))))) (fun _ _ => trivial)
theorem o119 : Opens Try.prog k119 119 (fun _ => True) :=
  opens_mono (opens_iso (fun y => ⟨y.1, y.2⟩) (fun _ => rfl) (opens_struct Try.underlying119 (by kernel_rfl) (opensF_cons rfl (by kernel_rfl) (opens_mono (opens_slice Try.underlying39 (by kernel_rfl) (opens_mono (opens_int Try.underlying5) (fun _ _ => trivial))) (fun _ _ => trivial)) (opensF_last rfl (by kernel_rfl) (opens_mono (opens_int Try.underlying3) (fun _ _ => trivial)))))) (fun _ _ => trivial)
theorem o117 : Opens Try.prog k117 117 (fun _ => True) :=
  opens_mono (opens_iso (fun y => ⟨y.1, y.2.1, y.2.2.1, y.2.2.2.1, y.2.2.2.2⟩) (fun _ => rfl) (opens_struct Try.underlying117 (by kernel_rfl) (opensF_cons rfl (by kernel_rfl) (opens_mono (opens_slice Try.underlying39 (by kernel_rfl) (opens_mono (opens_int Try.underlying5) (fun _ _ => trivial))) (fun _ _ => trivial)) (opensF_cons rfl (by kernel_rfl) o113 (opensF_cons rfl (by kernel_rfl) (opens_mono (opens_bool Try.underlying4) (fun _ _ => trivial)) (opensF_cons rfl (by kernel_rfl) (opens_mono (opens_slice Try.underlying114 (by kernel_rfl) o154) (fun _ _ => trivial)) (opensF_last rfl (by kernel_rfl) (opens_mono (opens_slice Try.underlying115 (by kernel_rfl) o119) (fun _ _ => trivial))))))))) (fun _ _ => trivial)
structure S27 where
  f0 : (List S103)
  f1 : (List S38)
  f2 : (List S206)
  f3 : (List S117)
def k27 : Kd S27 := Kd.iso (Kd.pair (Kd.slice 103 k103) (Kd.pair (Kd.slice 38 k38) (Kd.pair (Kd.slice 206 k206) (Kd.slice 117 k117)))) (fun x : S27 => (x.f0, x.f1, x.f2, x.f3))
theorem k27_open {w : World} {x : S27} {cs : List Value} (h : k27.K w x cs) : ∃ A0 c0 A1 c1 A2 c2 A3 c3, cs = [.slice A0 x.f0.length c0, .slice A1 x.f1.length c1, .slice A2 x.f2.length c2, .slice A3 x.f3.length c3] ∧ x.f0.length ≤ c0 ∧ k103.C w A0 x.f0.length x.f0 ∧ x.f1.length ≤ c1 ∧ k38.C w A1 x.f1.length x.f1 ∧ x.f2.length ≤ c2 ∧ k206.C w A2 x.f2.length x.f2 ∧ x.f3.length ≤ c3 ∧ k117.C w A3 x.f3.length x.f3 := by
  obtain ⟨_, _, rfl, h0, _, _, rfl, h1, _, _, rfl, h2, h3⟩ := h
  obtain ⟨A0, c0, rfl, hl0, hr0⟩ := h0
  obtain ⟨A1, c1, rfl, hl1, hr1⟩ := h1
  obtain ⟨A2, c2, rfl, hl2, hr2⟩ := h2
  obtain ⟨A3, c3, rfl, hl3, hr3⟩ := h3
  exact ⟨A0, c0, A1, c1, A2, c2, A3, c3, rfl, hl0, hr0, hl1, hr1, hl2, hr2, hl3, hr3⟩
theorem o27 : Opens Try.prog k27 27 (fun _ => True) :=
  opens_mono (opens_iso (fun y => ⟨y.1, y.2.1, y.2.2.1, y.2.2.2⟩) (fun _ => rfl) (opens_struct Try.underlying27 (by kernel_rfl) (opensF_cons rfl (by kernel_rfl) (opens_mono (opens_slice Try.underlying22 (by kernel_rfl) o103) (fun _ _ => trivial)) (opensF_cons rfl (by kernel_rfl) (opens_mono (opens_slice Try.underlying23 (by kernel_rfl) o38) (fun _ _ => trivial)) (opensF_cons rfl (by kernel_rfl) (opens_mono (opens_slice Try.underlying24 (by kernel_rfl) o206) (fun _ _ => trivial)) (opensF_last rfl (by kernel_rfl) (opens_mono (opens_slice Try.underlying25 (by kernel_rfl) o117) (fun _ _ => trivial)))))))) (fun _ _ => trivial)
structure S83 where
  f0 : Int
  f1 : Int
  f2 : Int
  f3 : Int
  f4 : Int
  f5 : Int
def k83 : Kd S83 := Kd.iso (Kd.pair (Kd.int .u8) (Kd.pair (Kd.int .i64) (Kd.pair (Kd.int .i64) (Kd.pair (Kd.int .i64) (Kd.pair (Kd.int .u8) (Kd.int .i64)))))) (fun x : S83 => (x.f0, x.f1, x.f2, x.f3, x.f4, x.f5))
theorem k83_open {w : World} {x : S83} {cs : List Value} (h : k83.K w x cs) : cs = [.int .u8 x.f0, .int .i64 x.f1, .int .i64 x.f2, .int .i64 x.f3, .int .u8 x.f4, .int .i64 x.f5] := by
  obtain ⟨_, _, rfl, h0, _, _, rfl, h1, _, _, rfl, h2, _, _, rfl, h3, _, _, rfl, h4, h5⟩ := h
  obtain rfl := (h0 : _ = [_])
  obtain rfl := (h1 : _ = [_])
  obtain rfl := (h2 : _ = [_])
  obtain rfl := (h3 : _ = [_])
  obtain rfl := (h4 : _ = [_])
  obtain rfl := (h5 : _ = [_])
  exact rfl
theorem o83 : Opens Try.prog k83 83 (fun _ => True) :=
  opens_mono (opens_iso (fun y => ⟨y.1, y.2.1, y.2.2.1, y.2.2.2.1, y.2.2.2.2.1, y.2.2.2.2.2⟩) (fun _ => rfl) (opens_struct Try.underlying83 (by kernel_rfl) (opensF_cons rfl (by kernel_rfl) (opens_mono (opens_int Try.underlying29) (fun _ _ => trivial)) (opensF_cons rfl (by kernel_rfl) (opens_mono (opens_int Try.underlying3) (fun _ _ => trivial)) (opensF_cons rfl (by kernel_rfl) (opens_mono (opens_int Try.underlying3) (fun _ _ => trivial)) (opensF_cons rfl (by kernel_rfl) (opens_mono (opens_int Try.underlying3) (fun _ _ => trivial)) (opensF_cons rfl (by kernel_rfl) (opens_mono (opens_int Try.underlying5) (fun _ _ => trivial)) (opensF_last rfl (by kernel_rfl) (opens_mono (opens_int Try.underlying3) (fun _ _ => trivial)))))))))) (fun _ _ => trivial)
structure S86 where
  f0 : Int
  f1 : Int
def k86 : Kd S86 := Kd.iso (Kd.pair (Kd.int .u8) (Kd.int .i64)) (fun x : S86 => (x.f0, x.f1))
theorem k86_open {w : World} {x : S86} {cs : List Value} (h : k86.K w x cs) : cs = [.int .u8 x.f0, .int .i64 x.f1] := by
  obtain ⟨_, _, rfl, h0, h1⟩ := h
  obtain rfl := (h0 : _ = [_])
  obtain rfl := (h1 : _ = [_])
  exact rfl
theorem o86 : Opens Try.prog k86 86 (fun _ => True) :=
  opens_mono (opens_iso (fun y => ⟨y.1, y.2⟩) (fun _ => rfl) (opens_struct Try.underlying86 (by kernel_rfl) (opensF_cons rfl (by kernel_rfl) (opens_mono (opens_int Try.underlying84) (fun _ _ => trivial)) (opensF_last rfl (by kernel_rfl) (opens_mono (opens_int Try.underlying3) (fun _ _ => trivial)))))) (fun _ _ => trivial)
end Go.Proofs.Ytjknnifcbcdjiaa.PFireAny
