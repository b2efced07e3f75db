/- FindAny: of whatever world each call ends, and answers something. -/
import Derived.Test.YtjknnifcbcdjiaaRows
import Derived.Test.YtjknnifcbcdjiaaPFindAnyx
import Derived.Test.YtjknnifcbcdjiaaOpensFindAny
import Derived.Test.YtjknnifcbcdjiaaPureFindAny
import Derived.Test.YtjknnifcbcdjiaaCount
import Derived.WalkKit
import Derived.ProofKit
import Derived.OpenShut
import Derived.ShutString
import Derived.ChangeOld
import Derived.Below
import Derived.SizedLaws
import Derived.Carry
namespace Go.Proofs.Ytjknnifcbcdjiaa.findAny
open Go.ChangeShapes Go.WideShapes Go.ChangeAt Go.RowKit Go.Proofs.Ytjknnifcbcdjiaa.Opn Go.Proofs.Ytjknnifcbcdjiaa.PFindAny
open Go.ChangeMaps (open_string shut_string)
set_option linter.unusedVariables false
set_option linter.unusedSimpArgs false
theorem own : ownKnob Try.prog.godebug = none := by kernel_rfl
theorem laidOut : laidOutB Try.prog = true := by kernel_rfl
set_option maxRecDepth 100000 in
theorem lifted (os : Os) (started : os.Started) (H : Type) (enc : TypeId × Value → H) :
    ReturnsInHanded {} Try.checked os 3 .any (Rows.findAnySpec.pre6 enc Try.prog Try.f3 Rows.findAnyRow.domain false) (Rows.findAnySpec.post enc Try.prog Try.f3 false true false false) := by
  refine returnsInHanded_of_change_sized (C := Try.checked) own started (by kernel_rfl) Try.func3
    (ChangeSpec.witness6 (enc := enc) (C := Try.checked) false ⟨#[], #[.agg #[.slice none 0 0, .slice none 0 0, .slice none 0 0, .slice none 0 0], .int .i64 0, .int .i64 0, .int .i64 0, .int .i64 0, .agg #[.int .i64 0, .int .u8 0, .int .i64 0, .slice none 0 0, .int .u8 0, .int .u16 0, .int .i64 0, .int .i64 0, .slice none 0 0, .slice none 0 0, .int .i64 0], .slice none 0 0], []⟩ 8 (by kernel_rfl) (by kernel_rfl) (by kernel_rfl) (by kernel_rfl)) ?_
  intro W base args ds gs before hval0 hW hcnd hsz0 _
  have hsz : (DataW.weightsEach Try.prog (Try.f3.params.toList ++ Rows.findAnySpec.plain.varTypes Try.prog) (ds ++ gs)).all (· ≤ reachBytes) = true := hsz0
  have hval : ∀ (j : Nat) t v, Try.f3.params[j]? = some t → args[j]? = some v → Value.okWide Try.prog W .any base t v := hval0
  have hW' := hW
  obtain ⟨p, q, hA0, hV, rfl, hfz, hnd⟩ := hW
  have hA : DataW.TrodAll enc Try.prog W 0 (fun _ => true) true Try.f3.params.toList args.toList ds p := hA0
  rw [Try.params3] at hA hval hsz
  obtain ⟨v0, vs0, d0, ds0, p0, q0, hargs, rfl, rfl, h0, r0⟩ := trodAll_cons hA
  obtain ⟨v1, vs1, d1, ds1, p1, q1, rfl, rfl, rfl, h1, r1⟩ := trodAll_cons r0
  obtain ⟨v2, vs2, d2, ds2, p2, q2, rfl, rfl, rfl, h2, r2⟩ := trodAll_cons r1
  obtain ⟨v3, vs3, d3, ds3, p3, q3, rfl, rfl, rfl, h3, r3⟩ := trodAll_cons r2
  obtain ⟨v4, vs4, d4, ds4, p4, q4, rfl, rfl, rfl, h4, r4⟩ := trodAll_cons r3
  obtain ⟨v5, vs5, d5, ds5, p5, q5, rfl, rfl, rfl, h5, r5⟩ := trodAll_cons r4
  obtain ⟨v6, vs6, d6, ds6, p6, q6, rfl, rfl, rfl, h6, r6⟩ := trodAll_cons r5
  obtain ⟨rfl, rfl, rfl⟩ := trodAll_nil r6
  obtain rfl : args = #[v0, v1, v2, v3, v4, v5, v6] := by cases args; simp_all
  obtain ⟨rfl, rfl⟩ := trodVars_none hV
  have k0 := h0
  have lt0 : ∀ x ∈ p0, x.block < W.heap.size := by obtain ⟨m, hm⟩ := k0; exact DataW.trod_lt m _ _ _ hm
  obtain ⟨y0, ky0, _⟩ := Opn.Opens.arg o27 h0
  obtain ⟨cs0, rfl, _⟩ := okWide_struct Try.underlying27 (hval 0 27 v0 rfl rfl)
  obtain ⟨A0_0, c0_0, A0_1, c0_1, A0_2, c0_2, A0_3, c0_3, e0, hl0_0, hr0_0, hl0_1, hr0_1, hl0_2, hr0_2, hl0_3, hr0_3⟩ := k27_open ky0
  obtain rfl : cs0 = #[.slice A0_0 y0.f0.length c0_0, .slice A0_1 y0.f1.length c0_1, .slice A0_2 y0.f2.length c0_2, .slice A0_3 y0.f3.length c0_3] := by rw [← Array.toList_inj]; exact e0
  obtain ⟨a1, rfl, rfl, rfl, w1⟩ := open_int Try.underlying3 (hval 1 3 v1 rfl rfl) h1
  obtain ⟨a2, rfl, rfl, rfl, w2⟩ := open_int Try.underlying3 (hval 2 3 v2 rfl rfl) h2
  obtain ⟨a3, rfl, rfl, rfl, w3⟩ := open_int Try.underlying3 (hval 3 3 v3 rfl rfl) h3
  obtain ⟨a4, rfl, rfl, rfl, w4⟩ := open_int Try.underlying3 (hval 4 3 v4 rfl rfl) h4
  have k5 := h5
  have lt5 : ∀ x ∈ p5, x.block < W.heap.size := by obtain ⟨m, hm⟩ := k5; exact DataW.trod_lt m _ _ _ hm
  obtain ⟨y5, ky5, _⟩ := Opn.Opens.arg o38 h5
  obtain ⟨cs5, rfl, _⟩ := okWide_struct Try.underlying38 (hval 5 38 v5 rfl rfl)
  obtain ⟨A5_3, c5_3, A5_8, c5_8, A5_9, c5_9, e5, hl5_3, hr5_3, hl5_8, hr5_8, hl5_9, hr5_9⟩ := k38_open ky5
  obtain rfl : cs5 = #[.int .i64 y5.f0, .int .u8 y5.f1, .int .i64 y5.f2, .slice A5_3 y5.f3.f0.length c5_3, .int .u8 y5.f3.f1.f0, .int .u16 y5.f3.f1.f1, .int .i64 y5.f4, .int .i64 y5.f5, .slice A5_8 y5.f6.length c5_8, .slice A5_9 y5.f7.length c5_9, .int .i64 y5.f8] := by rw [← Array.toList_inj]; exact e5
  have k6 := h6
  have lt6 : ∀ x ∈ p6, x.block < W.heap.size := by obtain ⟨m, hm⟩ := k6; exact DataW.trod_lt m _ _ _ hm
  obtain ⟨y6, ky6, _⟩ := Opn.Opens.arg (opens_mono (opens_slice Try.underlying39 (by kernel_rfl) (opens_mono (opens_int Try.underlying5) (fun _ _ => trivial))) (fun _ _ => trivial)) h6
  obtain ⟨a6, len6, cap6, rfl⟩ := okWide_slice Try.underlying39 (hval 6 39 v6 rfl rfl)
  obtain ⟨A6_, c6_, e6, hl6, hr6⟩ := ky6
  simp only [Value.cells, List.cons.injEq, Value.slice.injEq, and_true] at e6
  obtain ⟨rfl, rfl, rfl⟩ := e6
  have hn0 : y0.f0.length * Try.prog.bytesOf 103 ≤ reachBytes := Opn.field_len 0 Try.underlying27 rfl Try.underlying22 (by kernel_rfl) h0 rfl (Opn.each_weights hsz (j := 0) rfl rfl)
  have hn1 : Try.prog.bytesOf 103 = 120 := by kernel_rfl
  have hn2 : y0.f0.length ≤ 10000000000000 := by rw [hn1] at hn0; unfold reachBytes at hn0; omega
  clear hA0 hval0 hsz0 hsz
  refine (garderobelaw15_FindAny.calls _ _ _ y0.f0 _ _ y0.f1 _ _ y0.f2 _ _ y0.f3 a1 a2 a3 a4 y5.f0 y5.f1 y5.f2 _ _ y5.f3.f0 y5.f3.f1.f0 y5.f3.f1.f1 y5.f4 y5.f5 _ _ y5.f6 _ _ y5.f7 y5.f8 _ _ y6 true W hr0_0 hl0_0 hr0_1 hl0_1 hr0_2 hl0_2 hr0_3 hl0_3 hr5_3 hl5_3 hr5_8 hl5_8 hr5_9 hl5_9 hr6 hl6 (pure_ y0.f0 y0.f1 y0.f2 y0.f3 a1 a2 a3 a4 y5.f0 y5.f1 y5.f2 y5.f3.f0 y5.f3.f1.f0 y5.f3.f1.f1 y5.f4 y5.f5 y5.f6 y5.f7 y5.f8 y6 hr0_0 hr0_3 hr5_9 hn2)).mono fun e W' ⟨he, bel⟩ => ?_
  subst he
  exact ⟨_, rfl, _, _, _, [], _, [], hW', trodAll_mk1 (shut_bool Try.underlying4 _), (trodAll_cons_mk (Below.trod laidOut (by kernel_rfl) (of_decide_eq_true (by kernel_rfl)) k0 bel lt0) (trodAll_cons_mk (shut_int Try.underlying3 w1) (trodAll_cons_mk (shut_int Try.underlying3 w2) (trodAll_cons_mk (shut_int Try.underlying3 w3) (trodAll_cons_mk (shut_int Try.underlying3 w4) (trodAll_cons_mk (Below.trod laidOut (by kernel_rfl) (of_decide_eq_true (by kernel_rfl)) k5 bel lt5) (trodAll_cons_mk (Below.trod laidOut (by kernel_rfl) (of_decide_eq_true (by kernel_rfl)) k6 bel lt6) trodAll_mk0))))))), rfl, bel.frame _, fun h => by cases h⟩
theorem over : Rows.findAnyRow.holds Try.pinned (OpenSpec.ofChange Rows.findAnySpec) :=
  OpenClaim.holds_of_wide 3 Try.f3 rfl rfl rfl rfl rfl rfl rfl ⟨rfl, rfl, rfl, rfl, rfl⟩ rfl rfl rfl rfl rfl (by kernel_rfl) Try.func3 (by kernel_rfl)
    (of_decide_eq_true (by kernel_rfl)) (by unfold Func.isWrapper; first | (rw [if_pos (by decide +kernel)]; kernel_rfl) | (rw [if_neg (by decide +kernel)]; exact ⟨rfl, rfl⟩))
    (fun os started H enc _ => lifted os started H enc)
theorem proved : Rows.FindAnySaid := over
end Go.Proofs.Ytjknnifcbcdjiaa.findAny
namespace Go.Proofs.Ytjknnifcbcdjiaa
/-- The row, under a short name, for the claim. -/
theorem findAny_holds : Rows.FindAnySaid := findAny.proved
end Go.Proofs.Ytjknnifcbcdjiaa
