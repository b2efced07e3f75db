/- Printed by a program of this session (pr.py). -/
import Derived.Test.YtjknnifcbcdjiaaPShapeMovesx0
import Derived.Test.YtjknnifcbcdjiaaPShapeMovesx1
import Derived.Test.YtjknnifcbcdjiaaPShapeMovesx2
import Derived.Test.YtjknnifcbcdjiaaPShapeMovesx3
import Derived.Test.YtjknnifcbcdjiaaShort
namespace Go.Proofs.Ytjknnifcbcdjiaa.PShapeMoves
open Go.RowKit Go.Proofs.YtjknnifcbcdjiaaW.PrintWords Go.Proofs.YtjknnifcbcdjiaaW.PrintLast Go.Proofs.YtjknnifcbcdjiaaW.PrintMore Go.Proofs.Ytjknnifcbcdjiaa.Short
attribute [local go_sem] max2_int min2_int max_two min_two max_three min_three max_four min_four   -- for this text's walks alone
set_option linter.unusedVariables false
set_option linter.unusedSimpArgs false

attribute [local go_sem high] eqA56
/-! ### garderobelaw17_ShapeMoves: function 4 -/
mutual
def garderobelaw17_ShapeMoves.j0 : Nat → Int → Int → Int → List (S56) → Bool → List (S56) → List (S56) → List Int → Int → Int → Int → Int → Option (Bool)
 | 0, _, _, _, _, _, _, _, _, _, _, _, _ => none
 | k + 1, x1, x2, x3, x4, x31, x237000, x237001, x237002, x238000, x238001, x238002, x238003 => if x31 = true then ((garderobelaw17_lives.f).bind fun t239 => (some t239)) else ((garderoberef17_Copy.f x237000 x237001 x237002).bind fun bt240 => ((shape_Push.f x237000 x237001 x237002 x1 x4).bind fun bt250 => ((garderoberef17_Push.f x237000 x237001 x237002 x1 x4).bind fun bt261 => ((garderoberef17_Same.f k bt250.1 bt250.2.1 bt250.2.2.1 bt261.1 bt261.2.1 bt261.2.2.1).bind fun t272 => (if t272 = true then (garderobelaw17_ShapeMoves.j1 k x2 x3 (bt250.2.2.2 != bt261.2.2.2) x237000 x237001 x237002 x238000 x238001 x238002 x238003 bt240.1 bt240.2.1 bt240.2.2) else (garderobelaw17_ShapeMoves.j1 k x2 x3 true x237000 x237001 x237002 x238000 x238001 x238002 x238003 bt240.1 bt240.2.1 bt240.2.2))))))
def garderobelaw17_ShapeMoves.j1 : Nat → Int → Int → Bool → List (S56) → List (S56) → List Int → Int → Int → Int → Int → List (S56) → List (S56) → List Int → Option (Bool)
 | 0, _, _, _, _, _, _, _, _, _, _, _, _, _ => none
 | k + 1, x2, x3, x57, x237000, x237001, x237002, x238000, x238001, x238002, x238003, x250000, x250001, x250002 => if x57 = true then (none) else ((shape_Pop.f x237000 x237001 x237002 x2).bind fun bt273 => ((garderoberef17_Pop.f x237000 x237001 x237002 x2).bind fun bt287 => ((garderoberef17_Same.f k bt273.1 bt273.2.1 bt273.2.2.1 bt287.1 bt287.2.1 bt287.2.2.1).bind fun t301 => (if t301 = true then ((garderoberef17_Vals.f k bt273.2.2.2.1 bt287.2.2.2.1).bind fun t302 => (if t302 = true then (garderobelaw17_ShapeMoves.j2 k x3 (bt273.2.2.2.2 != bt287.2.2.2.2) x237000 x237001 x237002 x238000 x238001 x238002 x238003 x250000 x250001 x250002) else (garderobelaw17_ShapeMoves.j2 k x3 true x237000 x237001 x237002 x238000 x238001 x238002 x238003 x250000 x250001 x250002))) else (garderobelaw17_ShapeMoves.j2 k x3 true x237000 x237001 x237002 x238000 x238001 x238002 x238003 x250000 x250001 x250002)))))
def garderobelaw17_ShapeMoves.j2 : Nat → Int → Bool → List (S56) → List (S56) → List Int → Int → Int → Int → Int → List (S56) → List (S56) → List Int → Option (Bool)
 | 0, _, _, _, _, _, _, _, _, _, _, _, _ => none
 | k + 1, x3, x86, x237000, x237001, x237002, x238000, x238001, x238002, x238003, x250000, x250001, x250002 => if x86 = true then (none) else ((shape_Get.f x237000 x237001 x237002 x3).bind fun bt303 => ((shape_Set.f x237000 x237001 x237002 x3 x238000 x238001 x238002 x238003).bind fun bt309 => (if x3 < 0 then (garderobelaw17_ShapeMoves.j3 k x3 bt303.2.2.2.2 bt309.2.2.2 true x237000 x237001 x237002 x238000 x238001 x238002 x238003 x250000 x250001 x250002 bt303.1 bt303.2.1 bt303.2.2.1 bt303.2.2.2.1 bt309.1 bt309.2.1 bt309.2.2.1) else (garderobelaw17_ShapeMoves.j3 k x3 bt303.2.2.2.2 bt309.2.2.2 (decide (x3 ≥ (x237000.length : Int))) x237000 x237001 x237002 x238000 x238001 x238002 x238003 x250000 x250001 x250002 bt303.1 bt303.2.1 bt303.2.2.1 bt303.2.2.2.1 bt309.1 bt309.2.1 bt309.2.2.1))))
def garderobelaw17_ShapeMoves.j3 : Nat → Int → Int → Int → Bool → List (S56) → List (S56) → List Int → Int → Int → Int → Int → List (S56) → List (S56) → List Int → Int → Int → Int → Int → List (S56) → List (S56) → List Int → Option (Bool)
 | 0, _, _, _, _, _, _, _, _, _, _, _, _, _, _, _, _, _, _, _, _, _ => none
 | k + 1, x3, x15, x17, x108, x237000, x237001, x237002, x238000, x238001, x238002, x238003, x250000, x250001, x250002, x309000, x309001, x309002, x309003, x320000, x320001, x320002 => if x108 = true then (if x15 = 9 then (if x17 = 9 then ((garderoberef17_Same.f k x320000 x320001 x320002 ([] : List (S56)) ([] : List (S56)) ([] : List Int)).bind fun t320 => (if t320 = true then ((garderoberef17_Same.f k x237000 x237001 x237002 x250000 x250001 x250002).bind fun t321 => (if t321 = true then ((garderobelaw17_lives.f).bind fun t322 => (some t322)) else (none))) else (none))) else (none)) else (none)) else ((garderoberef17_Copy.f x237000 x237001 x237002).bind fun bt323 => (if 0 ≤ x3 then (if x3 < (bt323.1.length : Int) then (if x15 = 0 then (if x17 = 0 then (if x3 < (x237000.length : Int) then (if (x309000 == ((rd_T56 x237000 x3).f0) && ((x309001 == ((rd_T56 x237000 x3).f1.f0) && (x309002 == ((rd_T56 x237000 x3).f1.f1))) && (x309003 == ((rd_T56 x237000 x3).f2)))) = true then ((garderoberef17_Same.f k x320000 x320001 x320002 (bt323.1.set (x3 : Int).toNat (⟨x238000, (⟨x238001, x238002⟩ : S32), x238003⟩ : S56)) bt323.2.1 bt323.2.2).bind fun t335 => (if t335 = true then ((garderoberef17_Same.f k x237000 x237001 x237002 x250000 x250001 x250002).bind fun t336 => (if t336 = true then ((garderobelaw17_lives.f).bind fun t337 => (some t337)) else (none))) else (none))) else (none)) else (none)) else (none)) else (none)) else (none)) else (none)))
end
def garderobelaw17_ShapeMoves.f (k : Nat) (l0_0 : List (S56)) (l0_1 : List (S56)) (l0_2 : List Int) (a1 : Int) (a2 : Int) (a3 : Int) (l4 : List (S56)) (a5_0 : Int) (a5_1 : Int) (a5_2 : Int) (a5_3 : Int) : Option (Bool) := (garderobelaw17_great.f l0_0 l0_1 l0_2).bind fun t238 => (if t238 = true then (garderobelaw17_ShapeMoves.j0 k a1 a2 a3 l4 true l0_0 l0_1 l0_2 a5_0 a5_1 a5_2 a5_3) else (garderobelaw17_ShapeMoves.j0 k a1 a2 a3 l4 (decide ((l4.length : Int) > 300)) l0_0 l0_1 l0_2 a5_0 a5_1 a5_2 a5_3))
theorem garderobelaw17_ShapeMoves.mono_l : ∀ k, (∀ y0 y1 y2 y3 y4 y5 y6 y7 y8 y9 y10 y11, LeO (garderobelaw17_ShapeMoves.j0 k y0 y1 y2 y3 y4 y5 y6 y7 y8 y9 y10 y11) (garderobelaw17_ShapeMoves.j0 (k + 1) y0 y1 y2 y3 y4 y5 y6 y7 y8 y9 y10 y11)) ∧ (∀ y0 y1 y2 y3 y4 y5 y6 y7 y8 y9 y10 y11 y12, LeO (garderobelaw17_ShapeMoves.j1 k y0 y1 y2 y3 y4 y5 y6 y7 y8 y9 y10 y11 y12) (garderobelaw17_ShapeMoves.j1 (k + 1) y0 y1 y2 y3 y4 y5 y6 y7 y8 y9 y10 y11 y12)) ∧ (∀ y0 y1 y2 y3 y4 y5 y6 y7 y8 y9 y10 y11, LeO (garderobelaw17_ShapeMoves.j2 k y0 y1 y2 y3 y4 y5 y6 y7 y8 y9 y10 y11) (garderobelaw17_ShapeMoves.j2 (k + 1) y0 y1 y2 y3 y4 y5 y6 y7 y8 y9 y10 y11)) ∧ (∀ y0 y1 y2 y3 y4 y5 y6 y7 y8 y9 y10 y11 y12 y13 y14 y15 y16 y17 y18 y19 y20, LeO (garderobelaw17_ShapeMoves.j3 k y0 y1 y2 y3 y4 y5 y6 y7 y8 y9 y10 y11 y12 y13 y14 y15 y16 y17 y18 y19 y20) (garderobelaw17_ShapeMoves.j3 (k + 1) y0 y1 y2 y3 y4 y5 y6 y7 y8 y9 y10 y11 y12 y13 y14 y15 y16 y17 y18 y19 y20))
 | 0 => ⟨fun _ _ _ _ _ _ _ _ _ _ _ _ r h => by simp [garderobelaw17_ShapeMoves.j0] at h, fun _ _ _ _ _ _ _ _ _ _ _ _ _ r h => by simp [garderobelaw17_ShapeMoves.j1] at h, fun _ _ _ _ _ _ _ _ _ _ _ _ r h => by simp [garderobelaw17_ShapeMoves.j2] at h, fun _ _ _ _ _ _ _ _ _ _ _ _ _ _ _ _ _ _ _ _ _ r h => by simp [garderobelaw17_ShapeMoves.j3] at h⟩
 | k + 1 => by
  obtain ⟨ih0, ih1, ih2, ih3⟩ := garderobelaw17_ShapeMoves.mono_l k
  refine ⟨?_, ?_, ?_, ?_⟩
  ·intro y0 y1 y2 y3 y4 y5 y6 y7 y8 y9 y10 y11
   unfold garderobelaw17_ShapeMoves.j0
   repeat' first
   | (with_reducible exact ih0 _ _ _ _ _ _ _ _ _ _ _ _)
   | (with_reducible exact ih1 _ _ _ _ _ _ _ _ _ _ _ _ _)
   | (with_reducible exact ih2 _ _ _ _ _ _ _ _ _ _ _ _)
   | (with_reducible exact ih3 _ _ _ _ _ _ _ _ _ _ _ _ _ _ _ _ _ _ _ _ _)
   | (with_reducible exact garderoberef17_Same.mono _ _ _ _ _ _ _)
   | (with_reducible exact garderoberef17_Vals.mono _ _ _)
   | (with_reducible exact LeO.refl _)
   | (with_reducible exact LeO.none _)
   | (with_reducible refine LeO.ite ?_ ?_)
   | (with_reducible refine LeO.bind ?_ (fun _ => ?_))
   | exact ih0 _ _ _ _ _ _ _ _ _ _ _ _
   | exact ih1 _ _ _ _ _ _ _ _ _ _ _ _ _
   | exact ih2 _ _ _ _ _ _ _ _ _ _ _ _
   | exact ih3 _ _ _ _ _ _ _ _ _ _ _ _ _ _ _ _ _ _ _ _ _
   | exact garderoberef17_Same.mono _ _ _ _ _ _ _
   | exact garderoberef17_Vals.mono _ _ _
   | exact LeO.none _
   | refine LeO.ite ?_ ?_
   | refine LeO.bind ?_ (fun _ => ?_)
  ·intro y0 y1 y2 y3 y4 y5 y6 y7 y8 y9 y10 y11 y12
   unfold garderobelaw17_ShapeMoves.j1
   repeat' first
   | (with_reducible exact ih0 _ _ _ _ _ _ _ _ _ _ _ _)
   | (with_reducible exact ih1 _ _ _ _ _ _ _ _ _ _ _ _ _)
   | (with_reducible exact ih2 _ _ _ _ _ _ _ _ _ _ _ _)
   | (with_reducible exact ih3 _ _ _ _ _ _ _ _ _ _ _ _ _ _ _ _ _ _ _ _ _)
   | (with_reducible exact garderoberef17_Same.mono _ _ _ _ _ _ _)
   | (with_reducible exact garderoberef17_Vals.mono _ _ _)
   | (with_reducible exact LeO.refl _)
   | (with_reducible exact LeO.none _)
   | (with_reducible refine LeO.ite ?_ ?_)
   | (with_reducible refine LeO.bind ?_ (fun _ => ?_))
   | exact ih0 _ _ _ _ _ _ _ _ _ _ _ _
   | exact ih1 _ _ _ _ _ _ _ _ _ _ _ _ _
   | exact ih2 _ _ _ _ _ _ _ _ _ _ _ _
   | exact ih3 _ _ _ _ _ _ _ _ _ _ _ _ _ _ _ _ _ _ _ _ _
   | exact garderoberef17_Same.mono _ _ _ _ _ _ _
   | exact garderoberef17_Vals.mono _ _ _
   | exact LeO.none _
   | refine LeO.ite ?_ ?_
   | refine LeO.bind ?_ (fun _ => ?_)
  ·intro y0 y1 y2 y3 y4 y5 y6 y7 y8 y9 y10 y11
   unfold garderobelaw17_ShapeMoves.j2
   repeat' first
   | (with_reducible exact ih0 _ _ _ _ _ _ _ _ _ _ _ _)
   | (with_reducible exact ih1 _ _ _ _ _ _ _ _ _ _ _ _ _)
   | (with_reducible exact ih2 _ _ _ _ _ _ _ _ _ _ _ _)
   | (with_reducible exact ih3 _ _ _ _ _ _ _ _ _ _ _ _ _ _ _ _ _ _ _ _ _)
   | (with_reducible exact garderoberef17_Same.mono _ _ _ _ _ _ _)
   | (with_reducible exact garderoberef17_Vals.mono _ _ _)
   | (with_reducible exact LeO.refl _)
   | (with_reducible exact LeO.none _)
   | (with_reducible refine LeO.ite ?_ ?_)
   | (with_reducible refine LeO.bind ?_ (fun _ => ?_))
   | exact ih0 _ _ _ _ _ _ _ _ _ _ _ _
   | exact ih1 _ _ _ _ _ _ _ _ _ _ _ _ _
   | exact ih2 _ _ _ _ _ _ _ _ _ _ _ _
   | exact ih3 _ _ _ _ _ _ _ _ _ _ _ _ _ _ _ _ _ _ _ _ _
   | exact garderoberef17_Same.mono _ _ _ _ _ _ _
   | exact garderoberef17_Vals.mono _ _ _
   | exact LeO.none _
   | refine LeO.ite ?_ ?_
   | refine LeO.bind ?_ (fun _ => ?_)
  ·intro y0 y1 y2 y3 y4 y5 y6 y7 y8 y9 y10 y11 y12 y13 y14 y15 y16 y17 y18 y19 y20
   unfold garderobelaw17_ShapeMoves.j3
   repeat' first
   | (with_reducible exact ih0 _ _ _ _ _ _ _ _ _ _ _ _)
   | (with_reducible exact ih1 _ _ _ _ _ _ _ _ _ _ _ _ _)
   | (with_reducible exact ih2 _ _ _ _ _ _ _ _ _ _ _ _)
   | (with_reducible exact ih3 _ _ _ _ _ _ _ _ _ _ _ _ _ _ _ _ _ _ _ _ _)
   | (with_reducible exact garderoberef17_Same.mono _ _ _ _ _ _ _)
   | (with_reducible exact garderoberef17_Vals.mono _ _ _)
   | (with_reducible exact LeO.refl _)
   | (with_reducible exact LeO.none _)
   | (with_reducible refine LeO.ite ?_ ?_)
   | (with_reducible refine LeO.bind ?_ (fun _ => ?_))
   | exact ih0 _ _ _ _ _ _ _ _ _ _ _ _
   | exact ih1 _ _ _ _ _ _ _ _ _ _ _ _ _
   | exact ih2 _ _ _ _ _ _ _ _ _ _ _ _
   | exact ih3 _ _ _ _ _ _ _ _ _ _ _ _ _ _ _ _ _ _ _ _ _
   | exact garderoberef17_Same.mono _ _ _ _ _ _ _
   | exact garderoberef17_Vals.mono _ _ _
   | exact LeO.none _
   | refine LeO.ite ?_ ?_
   | refine LeO.bind ?_ (fun _ => ?_)
theorem garderobelaw17_ShapeMoves.mono : ∀ a0 a1 a2 a3 a4 a5 a6 a7 a8 a9 a10 k, LeO (garderobelaw17_ShapeMoves.f k a0 a1 a2 a3 a4 a5 a6 a7 a8 a9 a10) (garderobelaw17_ShapeMoves.f (k + 1) a0 a1 a2 a3 a4 a5 a6 a7 a8 a9 a10) := by
 intro a0 a1 a2 a3 a4 a5 a6 a7 a8 a9 a10 k
 obtain ⟨ih0, ih1, ih2, ih3⟩ := garderobelaw17_ShapeMoves.mono_l k
 unfold garderobelaw17_ShapeMoves.f
 repeat' first
   | (with_reducible exact ih0 _ _ _ _ _ _ _ _ _ _ _ _)
   | (with_reducible exact ih1 _ _ _ _ _ _ _ _ _ _ _ _ _)
   | (with_reducible exact ih2 _ _ _ _ _ _ _ _ _ _ _ _)
   | (with_reducible exact ih3 _ _ _ _ _ _ _ _ _ _ _ _ _ _ _ _ _ _ _ _ _)
   | (with_reducible exact garderoberef17_Same.mono _ _ _ _ _ _ _)
   | (with_reducible exact garderoberef17_Vals.mono _ _ _)
   | (with_reducible exact LeO.refl _)
   | (with_reducible exact LeO.none _)
   | (with_reducible refine LeO.ite ?_ ?_)
   | (with_reducible refine LeO.bind ?_ (fun _ => ?_))
   | exact ih0 _ _ _ _ _ _ _ _ _ _ _ _
   | exact ih1 _ _ _ _ _ _ _ _ _ _ _ _ _
   | exact ih2 _ _ _ _ _ _ _ _ _ _ _ _
   | exact ih3 _ _ _ _ _ _ _ _ _ _ _ _ _ _ _ _ _ _ _ _ _
   | exact garderoberef17_Same.mono _ _ _ _ _ _ _
   | exact garderoberef17_Vals.mono _ _ _
   | exact LeO.none _
   | refine LeO.ite ?_ ?_
   | refine LeO.bind ?_ (fun _ => ?_)
def garderobelaw17_ShapeMoves.T18 : Bool × List (List Nat × List Nat) := (true, [([], []), ([0], [0]), ([1], [1]), ([2], [2]), ([3, 2], [2, 3]), ([2, 4], [2, 4]), ([5, 2], [5]), ([6], [6]), ([6], [6]), ([8, 6], [6, 8]), ([6], [6]), ([9, 10, 6], [6, 9, 10]), ([11, 6], [6, 11]), ([7, 12, 6], [6, 7, 12]), ([6, 13], [6, 13]), ([14, 6], [14]), ([15], [15]), ([15], [15]), ([16, 17, 15, 15], [15, 16, 17]), ([15, 18], [15, 18]), ([19, 18], [19]), ([20], [20]), ([20], [20]), ([21, 22, 20, 20], [20, 21, 22]), ([20, 23], [20, 23]), ([24, 23], [24]), ([25, 25], [25]), ([25, 26], [25, 26]), ([27, 26, 0, 1, 2, 3, 4, 5, 6, 7, 8, 9, 10, 11, 12, 13, 14, 15, 16, 17, 18, 19, 20, 21, 22, 23, 24, 25, 26, 27], [27])])
def garderobelaw17_ShapeMoves.B18 : List Nat := [0, 1, 3, 7, 15, 31, 63, 127, 127, 383, 127, 1919, 3967, 8191, 16383, 32767, 65535, 65535, 262143, 524287, 1048575, 2097151, 2097151, 8388607, 16777215, 33554431, 67108863, 134217727, 268435455]
theorem garderobelaw17_ShapeMoves.tab18 : rtab .any (opsOf Try.f4 18) = garderobelaw17_ShapeMoves.T18 := by kernel_rfl
theorem garderobelaw17_ShapeMoves.bits18 : waitsOk garderobelaw17_ShapeMoves.T18.2 garderobelaw17_ShapeMoves.B18 = true := by kernel_rfl
end Go.Proofs.Ytjknnifcbcdjiaa.PShapeMoves
