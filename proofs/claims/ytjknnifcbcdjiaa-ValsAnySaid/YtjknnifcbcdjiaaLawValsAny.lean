/- ValsAny: of any world, linked or not, each call ends. -/
import Derived.Test.YtjknnifcbcdjiaaRows
import Derived.Test.YtjknnifcbcdjiaaPValsAnyx
import Derived.Test.YtjknnifcbcdjiaaOpensValsAny
import Derived.Test.YtjknnifcbcdjiaaPureValsAny
import Derived.WalkKit
import Derived.ProofKit
import Derived.OpenShut
import Derived.ShutString
import Derived.ChangeOld
import Derived.Below
import Derived.SizedLaws
import Derived.Carry
namespace Go.Proofs.Ytjknnifcbcdjiaa.valsAny
open Go.ChangeShapes Go.WideShapes Go.ChangeAt Go.RowKit Go.Proofs.Ytjknnifcbcdjiaa.Opn Go.Proofs.Ytjknnifcbcdjiaa.PValsAny
open Go.ChangeMaps (open_string shut_string)
set_option linter.unusedVariables false
theorem own : ownKnob Try.prog.godebug = none := by kernel_rfl
theorem laidOut : laidOutB Try.prog = true := by kernel_rfl
set_option maxRecDepth 100000 in
theorem lifted (os : Os) (started : os.Started) (H : Type) (enc : TypeId × Value → H) :
    ReturnsInHanded {} Try.checked os 7 .any (Rows.valsAnySpec.pre6 enc Try.prog Try.f7 Rows.valsAnyRow.domain false) (Rows.valsAnySpec.post enc Try.prog Try.f7 false true false false) := by
  refine returnsInHanded_of_change_sized (C := Try.checked) own started (by kernel_rfl) Try.func7
    (ChangeSpec.witness6 (enc := enc) (C := Try.checked) false ⟨#[], #[.agg #[.slice none 0 0, .slice none 0 0, .slice none 0 0, .slice none 0 0], .agg #[.int .u8 0, .int .u8 0, .int .u16 0, .int .i64 0], .agg #[.int .u8 0, .int .u8 0, .int .u16 0, .int .i64 0], .agg #[.int .u8 0, .int .u16 0]], []⟩ 8 (by kernel_rfl) (by kernel_rfl) (by kernel_rfl) (by kernel_rfl)) ?_
  intro W base args ds gs before hval0 hW hcnd hsz0 _
  have hsz : (DataW.weightsEach Try.prog (Try.f7.params.toList ++ Rows.valsAnySpec.plain.varTypes Try.prog) (ds ++ gs)).all (· ≤ reachBytes) = true := hsz0
  have hval : ∀ (j : Nat) t v, Try.f7.params[j]? = some t → args[j]? = some v → Value.okWide Try.prog W .any base t v := hval0
  have hW' := hW
  obtain ⟨p, q, hA0, hV, rfl, hfz, hnd⟩ := hW
  have hA : DataW.TrodAll enc Try.prog W 0 (fun _ => true) true Try.f7.params.toList args.toList ds p := hA0
  rw [Try.params7] at hA hval hsz
  obtain ⟨v0, vs0, d0, ds0, p0, q0, hargs, rfl, rfl, h0, r0⟩ := trodAll_cons hA
  obtain ⟨v1, vs1, d1, ds1, p1, q1, rfl, rfl, rfl, h1, r1⟩ := trodAll_cons r0
  obtain ⟨v2, vs2, d2, ds2, p2, q2, rfl, rfl, rfl, h2, r2⟩ := trodAll_cons r1
  obtain ⟨v3, vs3, d3, ds3, p3, q3, rfl, rfl, rfl, h3, r3⟩ := trodAll_cons r2
  obtain ⟨rfl, rfl, rfl⟩ := trodAll_nil r3
  obtain rfl : args = #[v0, v1, v2, v3] := by cases args; simp_all
  obtain ⟨rfl, rfl⟩ := trodVars_none hV
  have k0 := h0
  have lt0 : ∀ x ∈ p0, x.block < W.heap.size := by obtain ⟨m, hm⟩ := k0; exact DataW.trod_lt m _ _ _ hm
  obtain ⟨y0, ky0, gy0⟩ := Opn.Opens.arg o27 h0
  obtain ⟨cs0, rfl, _⟩ := okWide_struct Try.underlying27 (hval 0 27 v0 rfl rfl)
  obtain ⟨A0_0, c0_0, A0_1, c0_1, A0_2, c0_2, A0_3, c0_3, e0, hl0_0, hr0_0, hl0_1, hr0_1, hl0_2, hr0_2, hl0_3, hr0_3⟩ := k27_open ky0
  obtain rfl : cs0 = #[.slice A0_0 y0.f0.length c0_0, .slice A0_1 y0.f1.length c0_1, .slice A0_2 y0.f2.length c0_2, .slice A0_3 y0.f3.length c0_3] := by rw [← Array.toList_inj]; exact e0
  have k1 := h1
  have lt1 : ∀ x ∈ p1, x.block < W.heap.size := by obtain ⟨m, hm⟩ := k1; exact DataW.trod_lt m _ _ _ hm
  obtain ⟨y1, ky1, _⟩ := Opn.Opens.arg o56 h1
  obtain ⟨cs1, rfl, _⟩ := okWide_struct Try.underlying56 (hval 1 56 v1 rfl rfl)
  obtain e1 := k56_open ky1
  obtain rfl : cs1 = #[.int .u8 y1.f0, .int .u8 y1.f1.f0, .int .u16 y1.f1.f1, .int .i64 y1.f2] := by rw [← Array.toList_inj]; exact e1
  have k2 := h2
  have lt2 : ∀ x ∈ p2, x.block < W.heap.size := by obtain ⟨m, hm⟩ := k2; exact DataW.trod_lt m _ _ _ hm
  obtain ⟨y2, ky2, _⟩ := Opn.Opens.arg o56 h2
  obtain ⟨cs2, rfl, _⟩ := okWide_struct Try.underlying56 (hval 2 56 v2 rfl rfl)
  obtain e2 := k56_open ky2
  obtain rfl : cs2 = #[.int .u8 y2.f0, .int .u8 y2.f1.f0, .int .u16 y2.f1.f1, .int .i64 y2.f2] := by rw [← Array.toList_inj]; exact e2
  have k3 := h3
  have lt3 : ∀ x ∈ p3, x.block < W.heap.size := by obtain ⟨m, hm⟩ := k3; exact DataW.trod_lt m _ _ _ hm
  obtain ⟨y3, ky3, _⟩ := Opn.Opens.arg o32 h3
  obtain ⟨cs3, rfl, _⟩ := okWide_struct Try.underlying32 (hval 3 32 v3 rfl rfl)
  obtain e3 := k32_open ky3
  obtain rfl : cs3 = #[.int .u8 y3.f0, .int .u16 y3.f1] := by rw [← Array.toList_inj]; exact e3
  clear hA0 hval0 hsz0 hsz
  refine (garderobelaw16_ValsAny.calls _ _ _ y0.f0 _ _ y0.f1 _ _ y0.f2 _ _ y0.f3 y1.f0 y1.f1.f0 y1.f1.f1 y1.f2 y2.f0 y2.f1.f0 y2.f1.f1 y2.f2 y3.f0 y3.f1 true W hr0_0 hl0_0 hr0_1 hl0_1 hr0_2 hl0_2 hr0_3 hl0_3 (pure_ y0.f0 y0.f1 y0.f2 y0.f3 y1.f0 y1.f1.f0 y1.f1.f1 y1.f2 y2.f0 y2.f1.f0 y2.f1.f1 y2.f2 y3.f0 y3.f1 gy0)).mono fun e W' ⟨he, bel⟩ => ?_
  subst he
  exact ⟨_, rfl, _, _, _, [], _, [], hW', trodAll_mk1 (shut_bool Try.underlying4 _), (trodAll_cons_mk (Below.trod laidOut (by kernel_rfl) (of_decide_eq_true (by kernel_rfl)) k0 bel lt0) (trodAll_cons_mk (Below.trod laidOut (by kernel_rfl) (of_decide_eq_true (by kernel_rfl)) k1 bel lt1) (trodAll_cons_mk (Below.trod laidOut (by kernel_rfl) (of_decide_eq_true (by kernel_rfl)) k2 bel lt2) (trodAll_cons_mk (Below.trod laidOut (by kernel_rfl) (of_decide_eq_true (by kernel_rfl)) k3 bel lt3) trodAll_mk0)))), rfl, bel.frame _, fun h => by cases h⟩
theorem over : Rows.valsAnyRow.holds Try.pinned (OpenSpec.ofChange Rows.valsAnySpec) :=
  OpenClaim.holds_of_wide 7 Try.f7 rfl rfl rfl rfl rfl rfl rfl ⟨rfl, rfl, rfl, rfl, rfl⟩ rfl rfl rfl rfl rfl (by kernel_rfl) Try.func7 (by kernel_rfl)
    (of_decide_eq_true (by kernel_rfl)) (by unfold Func.isWrapper; first | (rw [if_pos (by decide +kernel)]; kernel_rfl) | (rw [if_neg (by decide +kernel)]; exact ⟨rfl, rfl⟩))
    (fun os started H enc _ => lifted os started H enc)
theorem proved : Rows.ValsAnySaid := over
end Go.Proofs.Ytjknnifcbcdjiaa.valsAny
namespace Go.Proofs.Ytjknnifcbcdjiaa
/-- The row, under a short name, for the claim. -/
theorem valsAny_holds : Rows.ValsAnySaid := valsAny.proved
end Go.Proofs.Ytjknnifcbcdjiaa
