/- Printed by a program of this session (pr.py). -/
import Derived.Test.YtjknnifcbcdjiaaPValsAnyx0
import Derived.Test.YtjknnifcbcdjiaaPValsAnyx2
import Derived.Test.YtjknnifcbcdjiaaPValsAnyx3
import Derived.Test.YtjknnifcbcdjiaaPValsAnyx5
import Derived.Test.YtjknnifcbcdjiaaPValsAnyx8
import Derived.Test.YtjknnifcbcdjiaaShort
namespace Go.Proofs.Ytjknnifcbcdjiaa.PValsAny
open Go.RowKit Go.Proofs.YtjknnifcbcdjiaaW.PrintWords Go.Proofs.YtjknnifcbcdjiaaW.PrintLast Go.Proofs.YtjknnifcbcdjiaaW.PrintMore Go.Proofs.Ytjknnifcbcdjiaa.Short
attribute [local go_sem] max2_int min2_int max_two min_two max_three min_three max_four min_four   -- for this text's walks alone
set_option linter.unusedVariables false
set_option linter.unusedSimpArgs false

attribute [local go_sem high] eqA56
/-! ### garderobelaw16_lives: function 33 -/
def garderobelaw16_lives.f (k : Nat)  : Option (Bool) := (garderoberef12_World.f).bind fun bt164 => ((garderoberef16_Null.f).bind fun bt177 => ((garderoberef16_Ref.f 6 0).bind fun bt181 => ((vals_Join.f k bt164.1 bt164.2.1 bt164.2.2.1 bt164.2.2.2 bt177.1 bt177.2.1 bt177.2.2.1 bt177.2.2.2 bt181.1 bt181.2.1 bt181.2.2.1 bt181.2.2.2).bind fun bt185 => ((garderoberef16_Ref.f 4 2).bind fun bt190 => ((garderoberef16_Ref.f 4 11).bind fun bt194 => ((vals_Join.f k bt164.1 bt164.2.1 bt164.2.2.1 bt164.2.2.2 bt190.1 bt190.2.1 bt190.2.2.1 bt190.2.2.2 bt194.1 bt194.2.1 bt194.2.2.1 bt194.2.2.2).bind fun bt198 => ((garderoberef16_Num.f).bind fun bt203 => ((garderoberef16_Null.f).bind fun bt207 => ((vals_Join.f k bt164.1 bt164.2.1 bt164.2.2.1 bt164.2.2.2 bt203.1 bt203.2.1 bt203.2.2.1 bt203.2.2.2 bt207.1 bt207.2.1 bt207.2.2.1 bt207.2.2.2).bind fun bt211 => ((garderoberef16_Ref.f 6 0).bind fun bt216 => (if (bt185.1 == bt216.1 && ((bt185.2.1 == bt216.2.1 && (bt185.2.2.1 == bt216.2.2.1)) && (bt185.2.2.2 == bt216.2.2.2))) = true then ((garderoberef16_Ref.f 4 1).bind fun bt220 => (if (bt198.1 == bt220.1 && ((bt198.2.1 == bt220.2.1 && (bt198.2.2.1 == bt220.2.2.1)) && (bt198.2.2.2 == bt220.2.2.2))) = true then ((garderoberef16_None.f).bind fun bt224 => (if (bt211.1 == bt224.1 && ((bt211.2.1 == bt224.2.1 && (bt211.2.2.1 == bt224.2.2.1)) && (bt211.2.2.2 == bt224.2.2.2))) = true then ((garderoberef16_Ref.f 4 11).bind fun bt228 => ((vals_Fits.f k bt164.1 bt164.2.1 bt164.2.2.1 bt164.2.2.2 bt228.1 bt228.2.1 bt228.2.2.1 bt228.2.2.2 4 1).bind fun t232 => (some t232))) else (none))) else (none))) else (none))))))))))))
theorem garderobelaw16_lives.mono : ∀ k, LeO (garderobelaw16_lives.f k ) (garderobelaw16_lives.f (k + 1) ) := by
 intro  k
 unfold garderobelaw16_lives.f
 repeat' first
   | (with_reducible exact vals_Fits.mono _ _ _ _ _ _ _ _ _ _ _)
   | (with_reducible exact vals_Join.mono _ _ _ _ _ _ _ _ _ _ _ _ _)
   | (with_reducible exact LeO.refl _)
   | (with_reducible exact LeO.none _)
   | (with_reducible refine LeO.ite ?_ ?_)
   | (with_reducible refine LeO.bind ?_ (fun _ => ?_))
   | exact vals_Fits.mono _ _ _ _ _ _ _ _ _ _ _
   | exact vals_Join.mono _ _ _ _ _ _ _ _ _ _ _ _ _
   | exact LeO.none _
   | refine LeO.ite ?_ ?_
   | refine LeO.bind ?_ (fun _ => ?_)
def garderobelaw16_lives.T5 : Bool × List (List Nat × List Nat) := (true, [([], []), ([], []), ([0, 1], [0, 1]), ([2, 1], [2]), ([3], [3]), ([3, 3], [3]), ([4, 5, 3], [3, 4, 5]), ([3, 6], [3, 6]), ([7, 5], [7]), ([8], [8]), ([8, 8], [8]), ([9, 10, 8], [8, 9, 10]), ([8, 11], [8, 11]), ([12, 10], [12]), ([13], [13]), ([13, 13], [13]), ([13], [13]), ([14, 15, 16, 15, 13], [13, 14, 15, 16]), ([13, 17], [13, 17]), ([18, 17, 0, 1, 2, 3, 4, 5, 6, 7, 8, 9, 10, 11, 12, 13, 14, 15, 16, 17, 18], [18])])
def garderobelaw16_lives.B5 : List Nat := [0, 0, 3, 7, 15, 15, 63, 127, 255, 511, 511, 2047, 4095, 8191, 16383, 16383, 16383, 131071, 262143, 524287]
theorem garderobelaw16_lives.tab5 : rtab .any (opsOf Try.f33 5) = garderobelaw16_lives.T5 := by kernel_rfl
theorem garderobelaw16_lives.bits5 : waitsOk garderobelaw16_lives.T5.2 garderobelaw16_lives.B5 = true := by kernel_rfl
set_option maxHeartbeats 8000000 in
set_option maxRecDepth 100000 in
theorem garderobelaw16_lives.calls (k : Nat)  (r : Bool) (w : World) (h : garderobelaw16_lives.f k  = some r) :
  Calls Try.prog 33 #[] w fun e w' => e = .returned (.bool r) ∧ Below w.heap.size w w' := by
 have hu27 := Try.underlying27
 have hu56 := Try.underlying56
 have hu32 := Try.underlying32
 have HB := Aside0.mk (Below.refl w.heap.size w)
 have H : ((garderoberef12_World.f).bind fun bt164 => ((garderoberef16_Null.f).bind fun bt177 => ((garderoberef16_Ref.f 6 0).bind fun bt181 => ((vals_Join.f k bt164.1 bt164.2.1 bt164.2.2.1 bt164.2.2.2 bt177.1 bt177.2.1 bt177.2.2.1 bt177.2.2.2 bt181.1 bt181.2.1 bt181.2.2.1 bt181.2.2.2).bind fun bt185 => ((garderoberef16_Ref.f 4 2).bind fun bt190 => ((garderoberef16_Ref.f 4 11).bind fun bt194 => ((vals_Join.f k bt164.1 bt164.2.1 bt164.2.2.1 bt164.2.2.2 bt190.1 bt190.2.1 bt190.2.2.1 bt190.2.2.2 bt194.1 bt194.2.1 bt194.2.2.1 bt194.2.2.2).bind fun bt198 => ((garderoberef16_Num.f).bind fun bt203 => ((garderoberef16_Null.f).bind fun bt207 => ((vals_Join.f k bt164.1 bt164.2.1 bt164.2.2.1 bt164.2.2.2 bt203.1 bt203.2.1 bt203.2.2.1 bt203.2.2.2 bt207.1 bt207.2.1 bt207.2.2.1 bt207.2.2.2).bind fun bt211 => ((garderoberef16_Ref.f 6 0).bind fun bt216 => (if (bt185.1 == bt216.1 && ((bt185.2.1 == bt216.2.1 && (bt185.2.2.1 == bt216.2.2.1)) && (bt185.2.2.2 == bt216.2.2.2))) = true then ((garderoberef16_Ref.f 4 1).bind fun bt220 => (if (bt198.1 == bt220.1 && ((bt198.2.1 == bt220.2.1 && (bt198.2.2.1 == bt220.2.2.1)) && (bt198.2.2.2 == bt220.2.2.2))) = true then ((garderoberef16_None.f).bind fun bt224 => (if (bt211.1 == bt224.1 && ((bt211.2.1 == bt224.2.1 && (bt211.2.2.1 == bt224.2.2.1)) && (bt211.2.2.2 == bt224.2.2.2))) = true then ((garderoberef16_Ref.f 4 11).bind fun bt228 => ((vals_Fits.f k bt164.1 bt164.2.1 bt164.2.2.1 bt164.2.2.2 bt228.1 bt228.2.1 bt228.2.2.1 bt228.2.2.2 4 1).bind fun t232 => (some t232))) else (none))) else (none))) else (none))))))))))))) = some r := h
 clear h
 replace H := Option.bind_eq_some_iff.mp H
 obtain ⟨⟨t164, t167, t170, t173⟩, A10, H⟩ := H
 replace H : ((garderoberef16_Null.f).bind fun bt177 => ((garderoberef16_Ref.f 6 0).bind fun bt181 => ((vals_Join.f k t164 t167 t170 t173 bt177.1 bt177.2.1 bt177.2.2.1 bt177.2.2.2 bt181.1 bt181.2.1 bt181.2.2.1 bt181.2.2.2).bind fun bt185 => ((garderoberef16_Ref.f 4 2).bind fun bt190 => ((garderoberef16_Ref.f 4 11).bind fun bt194 => ((vals_Join.f k t164 t167 t170 t173 bt190.1 bt190.2.1 bt190.2.2.1 bt190.2.2.2 bt194.1 bt194.2.1 bt194.2.2.1 bt194.2.2.2).bind fun bt198 => ((garderoberef16_Num.f).bind fun bt203 => ((garderoberef16_Null.f).bind fun bt207 => ((vals_Join.f k t164 t167 t170 t173 bt203.1 bt203.2.1 bt203.2.2.1 bt203.2.2.2 bt207.1 bt207.2.1 bt207.2.2.1 bt207.2.2.2).bind fun bt211 => ((garderoberef16_Ref.f 6 0).bind fun bt216 => (if (bt185.1 == bt216.1 && ((bt185.2.1 == bt216.2.1 && (bt185.2.2.1 == bt216.2.2.1)) && (bt185.2.2.2 == bt216.2.2.2))) = true then ((garderoberef16_Ref.f 4 1).bind fun bt220 => (if (bt198.1 == bt220.1 && ((bt198.2.1 == bt220.2.1 && (bt198.2.2.1 == bt220.2.2.1)) && (bt198.2.2.2 == bt220.2.2.2))) = true then ((garderoberef16_None.f).bind fun bt224 => (if (bt211.1 == bt224.1 && ((bt211.2.1 == bt224.2.1 && (bt211.2.2.1 == bt224.2.2.1)) && (bt211.2.2.2 == bt224.2.2.2))) = true then ((garderoberef16_Ref.f 4 11).bind fun bt228 => ((vals_Fits.f k t164 t167 t170 t173 bt228.1 bt228.2.1 bt228.2.2.1 bt228.2.2.2 4 1).bind fun t232 => (some t232))) else (none))) else (none))) else (none)))))))))))) = some r := H
 have A1 := Aside0.mk A10
 clear A10
 replace H := Option.bind_eq_some_iff.mp H
 obtain ⟨⟨t177, t178, t179, t180⟩, A20, H⟩ := H
 replace H : ((garderoberef16_Ref.f 6 0).bind fun bt181 => ((vals_Join.f k t164 t167 t170 t173 t177 t178 t179 t180 bt181.1 bt181.2.1 bt181.2.2.1 bt181.2.2.2).bind fun bt185 => ((garderoberef16_Ref.f 4 2).bind fun bt190 => ((garderoberef16_Ref.f 4 11).bind fun bt194 => ((vals_Join.f k t164 t167 t170 t173 bt190.1 bt190.2.1 bt190.2.2.1 bt190.2.2.2 bt194.1 bt194.2.1 bt194.2.2.1 bt194.2.2.2).bind fun bt198 => ((garderoberef16_Num.f).bind fun bt203 => ((garderoberef16_Null.f).bind fun bt207 => ((vals_Join.f k t164 t167 t170 t173 bt203.1 bt203.2.1 bt203.2.2.1 bt203.2.2.2 bt207.1 bt207.2.1 bt207.2.2.1 bt207.2.2.2).bind fun bt211 => ((garderoberef16_Ref.f 6 0).bind fun bt216 => (if (bt185.1 == bt216.1 && ((bt185.2.1 == bt216.2.1 && (bt185.2.2.1 == bt216.2.2.1)) && (bt185.2.2.2 == bt216.2.2.2))) = true then ((garderoberef16_Ref.f 4 1).bind fun bt220 => (if (bt198.1 == bt220.1 && ((bt198.2.1 == bt220.2.1 && (bt198.2.2.1 == bt220.2.2.1)) && (bt198.2.2.2 == bt220.2.2.2))) = true then ((garderoberef16_None.f).bind fun bt224 => (if (bt211.1 == bt224.1 && ((bt211.2.1 == bt224.2.1 && (bt211.2.2.1 == bt224.2.2.1)) && (bt211.2.2.2 == bt224.2.2.2))) = true then ((garderoberef16_Ref.f 4 11).bind fun bt228 => ((vals_Fits.f k t164 t167 t170 t173 bt228.1 bt228.2.1 bt228.2.2.1 bt228.2.2.2 4 1).bind fun t232 => (some t232))) else (none))) else (none))) else (none))))))))))) = some r := H
 have A2 := Aside0.mk A20
 clear A20
 replace H := Option.bind_eq_some_iff.mp H
 obtain ⟨⟨t181, t182, t183, t184⟩, A30, H⟩ := H
 replace H : ((vals_Join.f k t164 t167 t170 t173 t177 t178 t179 t180 t181 t182 t183 t184).bind fun bt185 => ((garderoberef16_Ref.f 4 2).bind fun bt190 => ((garderoberef16_Ref.f 4 11).bind fun bt194 => ((vals_Join.f k t164 t167 t170 t173 bt190.1 bt190.2.1 bt190.2.2.1 bt190.2.2.2 bt194.1 bt194.2.1 bt194.2.2.1 bt194.2.2.2).bind fun bt198 => ((garderoberef16_Num.f).bind fun bt203 => ((garderoberef16_Null.f).bind fun bt207 => ((vals_Join.f k t164 t167 t170 t173 bt203.1 bt203.2.1 bt203.2.2.1 bt203.2.2.2 bt207.1 bt207.2.1 bt207.2.2.1 bt207.2.2.2).bind fun bt211 => ((garderoberef16_Ref.f 6 0).bind fun bt216 => (if (bt185.1 == bt216.1 && ((bt185.2.1 == bt216.2.1 && (bt185.2.2.1 == bt216.2.2.1)) && (bt185.2.2.2 == bt216.2.2.2))) = true then ((garderoberef16_Ref.f 4 1).bind fun bt220 => (if (bt198.1 == bt220.1 && ((bt198.2.1 == bt220.2.1 && (bt198.2.2.1 == bt220.2.2.1)) && (bt198.2.2.2 == bt220.2.2.2))) = true then ((garderoberef16_None.f).bind fun bt224 => (if (bt211.1 == bt224.1 && ((bt211.2.1 == bt224.2.1 && (bt211.2.2.1 == bt224.2.2.1)) && (bt211.2.2.2 == bt224.2.2.2))) = true then ((garderoberef16_Ref.f 4 11).bind fun bt228 => ((vals_Fits.f k t164 t167 t170 t173 bt228.1 bt228.2.1 bt228.2.2.1 bt228.2.2.2 4 1).bind fun t232 => (some t232))) else (none))) else (none))) else (none)))))))))) = some r := H
 have A3 := Aside0.mk A30
 clear A30
 replace H := Option.bind_eq_some_iff.mp H
 obtain ⟨⟨t185, t186, t187, t188⟩, A40, H⟩ := H
 replace H : ((garderoberef16_Ref.f 4 2).bind fun bt190 => ((garderoberef16_Ref.f 4 11).bind fun bt194 => ((vals_Join.f k t164 t167 t170 t173 bt190.1 bt190.2.1 bt190.2.2.1 bt190.2.2.2 bt194.1 bt194.2.1 bt194.2.2.1 bt194.2.2.2).bind fun bt198 => ((garderoberef16_Num.f).bind fun bt203 => ((garderoberef16_Null.f).bind fun bt207 => ((vals_Join.f k t164 t167 t170 t173 bt203.1 bt203.2.1 bt203.2.2.1 bt203.2.2.2 bt207.1 bt207.2.1 bt207.2.2.1 bt207.2.2.2).bind fun bt211 => ((garderoberef16_Ref.f 6 0).bind fun bt216 => (if (t185 == bt216.1 && ((t186 == bt216.2.1 && (t187 == bt216.2.2.1)) && (t188 == bt216.2.2.2))) = true then ((garderoberef16_Ref.f 4 1).bind fun bt220 => (if (bt198.1 == bt220.1 && ((bt198.2.1 == bt220.2.1 && (bt198.2.2.1 == bt220.2.2.1)) && (bt198.2.2.2 == bt220.2.2.2))) = true then ((garderoberef16_None.f).bind fun bt224 => (if (bt211.1 == bt224.1 && ((bt211.2.1 == bt224.2.1 && (bt211.2.2.1 == bt224.2.2.1)) && (bt211.2.2.2 == bt224.2.2.2))) = true then ((garderoberef16_Ref.f 4 11).bind fun bt228 => ((vals_Fits.f k t164 t167 t170 t173 bt228.1 bt228.2.1 bt228.2.2.1 bt228.2.2.2 4 1).bind fun t232 => (some t232))) else (none))) else (none))) else (none))))))))) = some r := H
 have A4 := Aside0.mk A40
 clear A40
 replace H := Option.bind_eq_some_iff.mp H
 obtain ⟨⟨t190, t191, t192, t193⟩, A50, H⟩ := H
 replace H : ((garderoberef16_Ref.f 4 11).bind fun bt194 => ((vals_Join.f k t164 t167 t170 t173 t190 t191 t192 t193 bt194.1 bt194.2.1 bt194.2.2.1 bt194.2.2.2).bind fun bt198 => ((garderoberef16_Num.f).bind fun bt203 => ((garderoberef16_Null.f).bind fun bt207 => ((vals_Join.f k t164 t167 t170 t173 bt203.1 bt203.2.1 bt203.2.2.1 bt203.2.2.2 bt207.1 bt207.2.1 bt207.2.2.1 bt207.2.2.2).bind fun bt211 => ((garderoberef16_Ref.f 6 0).bind fun bt216 => (if (t185 == bt216.1 && ((t186 == bt216.2.1 && (t187 == bt216.2.2.1)) && (t188 == bt216.2.2.2))) = true then ((garderoberef16_Ref.f 4 1).bind fun bt220 => (if (bt198.1 == bt220.1 && ((bt198.2.1 == bt220.2.1 && (bt198.2.2.1 == bt220.2.2.1)) && (bt198.2.2.2 == bt220.2.2.2))) = true then ((garderoberef16_None.f).bind fun bt224 => (if (bt211.1 == bt224.1 && ((bt211.2.1 == bt224.2.1 && (bt211.2.2.1 == bt224.2.2.1)) && (bt211.2.2.2 == bt224.2.2.2))) = true then ((garderoberef16_Ref.f 4 11).bind fun bt228 => ((vals_Fits.f k t164 t167 t170 t173 bt228.1 bt228.2.1 bt228.2.2.1 bt228.2.2.2 4 1).bind fun t232 => (some t232))) else (none))) else (none))) else (none)))))))) = some r := H
 have A5 := Aside0.mk A50
 clear A50
 replace H := Option.bind_eq_some_iff.mp H
 obtain ⟨⟨t194, t195, t196, t197⟩, A60, H⟩ := H
 replace H : ((vals_Join.f k t164 t167 t170 t173 t190 t191 t192 t193 t194 t195 t196 t197).bind fun bt198 => ((garderoberef16_Num.f).bind fun bt203 => ((garderoberef16_Null.f).bind fun bt207 => ((vals_Join.f k t164 t167 t170 t173 bt203.1 bt203.2.1 bt203.2.2.1 bt203.2.2.2 bt207.1 bt207.2.1 bt207.2.2.1 bt207.2.2.2).bind fun bt211 => ((garderoberef16_Ref.f 6 0).bind fun bt216 => (if (t185 == bt216.1 && ((t186 == bt216.2.1 && (t187 == bt216.2.2.1)) && (t188 == bt216.2.2.2))) = true then ((garderoberef16_Ref.f 4 1).bind fun bt220 => (if (bt198.1 == bt220.1 && ((bt198.2.1 == bt220.2.1 && (bt198.2.2.1 == bt220.2.2.1)) && (bt198.2.2.2 == bt220.2.2.2))) = true then ((garderoberef16_None.f).bind fun bt224 => (if (bt211.1 == bt224.1 && ((bt211.2.1 == bt224.2.1 && (bt211.2.2.1 == bt224.2.2.1)) && (bt211.2.2.2 == bt224.2.2.2))) = true then ((garderoberef16_Ref.f 4 11).bind fun bt228 => ((vals_Fits.f k t164 t167 t170 t173 bt228.1 bt228.2.1 bt228.2.2.1 bt228.2.2.2 4 1).bind fun t232 => (some t232))) else (none))) else (none))) else (none))))))) = some r := H
 have A6 := Aside0.mk A60
 clear A60
 replace H := Option.bind_eq_some_iff.mp H
 obtain ⟨⟨t198, t199, t200, t201⟩, A70, H⟩ := H
 replace H : ((garderoberef16_Num.f).bind fun bt203 => ((garderoberef16_Null.f).bind fun bt207 => ((vals_Join.f k t164 t167 t170 t173 bt203.1 bt203.2.1 bt203.2.2.1 bt203.2.2.2 bt207.1 bt207.2.1 bt207.2.2.1 bt207.2.2.2).bind fun bt211 => ((garderoberef16_Ref.f 6 0).bind fun bt216 => (if (t185 == bt216.1 && ((t186 == bt216.2.1 && (t187 == bt216.2.2.1)) && (t188 == bt216.2.2.2))) = true then ((garderoberef16_Ref.f 4 1).bind fun bt220 => (if (t198 == bt220.1 && ((t199 == bt220.2.1 && (t200 == bt220.2.2.1)) && (t201 == bt220.2.2.2))) = true then ((garderoberef16_None.f).bind fun bt224 => (if (bt211.1 == bt224.1 && ((bt211.2.1 == bt224.2.1 && (bt211.2.2.1 == bt224.2.2.1)) && (bt211.2.2.2 == bt224.2.2.2))) = true then ((garderoberef16_Ref.f 4 11).bind fun bt228 => ((vals_Fits.f k t164 t167 t170 t173 bt228.1 bt228.2.1 bt228.2.2.1 bt228.2.2.2 4 1).bind fun t232 => (some t232))) else (none))) else (none))) else (none)))))) = some r := H
 have A7 := Aside0.mk A70
 clear A70
 replace H := Option.bind_eq_some_iff.mp H
 obtain ⟨⟨t203, t204, t205, t206⟩, A80, H⟩ := H
 replace H : ((garderoberef16_Null.f).bind fun bt207 => ((vals_Join.f k t164 t167 t170 t173 t203 t204 t205 t206 bt207.1 bt207.2.1 bt207.2.2.1 bt207.2.2.2).bind fun bt211 => ((garderoberef16_Ref.f 6 0).bind fun bt216 => (if (t185 == bt216.1 && ((t186 == bt216.2.1 && (t187 == bt216.2.2.1)) && (t188 == bt216.2.2.2))) = true then ((garderoberef16_Ref.f 4 1).bind fun bt220 => (if (t198 == bt220.1 && ((t199 == bt220.2.1 && (t200 == bt220.2.2.1)) && (t201 == bt220.2.2.2))) = true then ((garderoberef16_None.f).bind fun bt224 => (if (bt211.1 == bt224.1 && ((bt211.2.1 == bt224.2.1 && (bt211.2.2.1 == bt224.2.2.1)) && (bt211.2.2.2 == bt224.2.2.2))) = true then ((garderoberef16_Ref.f 4 11).bind fun bt228 => ((vals_Fits.f k t164 t167 t170 t173 bt228.1 bt228.2.1 bt228.2.2.1 bt228.2.2.2 4 1).bind fun t232 => (some t232))) else (none))) else (none))) else (none))))) = some r := H
 have A8 := Aside0.mk A80
 clear A80
 replace H := Option.bind_eq_some_iff.mp H
 obtain ⟨⟨t207, t208, t209, t210⟩, A90, H⟩ := H
 replace H : ((vals_Join.f k t164 t167 t170 t173 t203 t204 t205 t206 t207 t208 t209 t210).bind fun bt211 => ((garderoberef16_Ref.f 6 0).bind fun bt216 => (if (t185 == bt216.1 && ((t186 == bt216.2.1 && (t187 == bt216.2.2.1)) && (t188 == bt216.2.2.2))) = true then ((garderoberef16_Ref.f 4 1).bind fun bt220 => (if (t198 == bt220.1 && ((t199 == bt220.2.1 && (t200 == bt220.2.2.1)) && (t201 == bt220.2.2.2))) = true then ((garderoberef16_None.f).bind fun bt224 => (if (bt211.1 == bt224.1 && ((bt211.2.1 == bt224.2.1 && (bt211.2.2.1 == bt224.2.2.1)) && (bt211.2.2.2 == bt224.2.2.2))) = true then ((garderoberef16_Ref.f 4 11).bind fun bt228 => ((vals_Fits.f k t164 t167 t170 t173 bt228.1 bt228.2.1 bt228.2.2.1 bt228.2.2.2 4 1).bind fun t232 => (some t232))) else (none))) else (none))) else (none)))) = some r := H
 have A9 := Aside0.mk A90
 clear A90
 replace H := Option.bind_eq_some_iff.mp H
 obtain ⟨⟨t211, t212, t213, t214⟩, A100, H⟩ := H
 replace H : ((garderoberef16_Ref.f 6 0).bind fun bt216 => (if (t185 == bt216.1 && ((t186 == bt216.2.1 && (t187 == bt216.2.2.1)) && (t188 == bt216.2.2.2))) = true then ((garderoberef16_Ref.f 4 1).bind fun bt220 => (if (t198 == bt220.1 && ((t199 == bt220.2.1 && (t200 == bt220.2.2.1)) && (t201 == bt220.2.2.2))) = true then ((garderoberef16_None.f).bind fun bt224 => (if (t211 == bt224.1 && ((t212 == bt224.2.1 && (t213 == bt224.2.2.1)) && (t214 == bt224.2.2.2))) = true then ((garderoberef16_Ref.f 4 11).bind fun bt228 => ((vals_Fits.f k t164 t167 t170 t173 bt228.1 bt228.2.1 bt228.2.2.1 bt228.2.2.2 4 1).bind fun t232 => (some t232))) else (none))) else (none))) else (none))) = some r := H
 have A10 := Aside0.mk A100
 clear A100
 replace H := Option.bind_eq_some_iff.mp H
 obtain ⟨⟨t216, t217, t218, t219⟩, A110, H⟩ := H
 replace H : (if (t185 == t216 && ((t186 == t217 && (t187 == t218)) && (t188 == t219))) = true then ((garderoberef16_Ref.f 4 1).bind fun bt220 => (if (t198 == bt220.1 && ((t199 == bt220.2.1 && (t200 == bt220.2.2.1)) && (t201 == bt220.2.2.2))) = true then ((garderoberef16_None.f).bind fun bt224 => (if (t211 == bt224.1 && ((t212 == bt224.2.1 && (t213 == bt224.2.2.1)) && (t214 == bt224.2.2.2))) = true then ((garderoberef16_Ref.f 4 11).bind fun bt228 => ((vals_Fits.f k t164 t167 t170 t173 bt228.1 bt228.2.1 bt228.2.2.1 bt228.2.2.2 4 1).bind fun t232 => (some t232))) else (none))) else (none))) else (none)) = some r := H
 have A11 := Aside0.mk A110
 clear A110
 by_cases c12 : (t185 == t216 && ((t186 == t217 && (t187 == t218)) && (t188 == t219))) = true
 ·rw [if_pos c12] at H
  have c12b0 : (t185 == t216 && ((t186 == t217 && (t187 == t218)) && (t188 == t219))) = true := c12
  (try (have c12b1 : decide (t185 = t216 && ((t186 == t217 && (t187 == t218)) && (t188 == t219))) = true := by simpa using c12))
  (try (have c12b2 : (t185 == t216 && ((t186 == t217 && (t187 == t218)) && (t188 == t219))) = true := by simpa using c12))
  clear c12
  replace H := Option.bind_eq_some_iff.mp H
  obtain ⟨⟨t220, t221, t222, t223⟩, A130, H⟩ := H
  replace H : (if (t198 == t220 && ((t199 == t221 && (t200 == t222)) && (t201 == t223))) = true then ((garderoberef16_None.f).bind fun bt224 => (if (t211 == bt224.1 && ((t212 == bt224.2.1 && (t213 == bt224.2.2.1)) && (t214 == bt224.2.2.2))) = true then ((garderoberef16_Ref.f 4 11).bind fun bt228 => ((vals_Fits.f k t164 t167 t170 t173 bt228.1 bt228.2.1 bt228.2.2.1 bt228.2.2.2 4 1).bind fun t232 => (some t232))) else (none))) else (none)) = some r := H
  have A13 := Aside0.mk A130
  clear A130
  by_cases c14 : (t198 == t220 && ((t199 == t221 && (t200 == t222)) && (t201 == t223))) = true
  ·rw [if_pos c14] at H
   have c14b0 : (t198 == t220 && ((t199 == t221 && (t200 == t222)) && (t201 == t223))) = true := c14
   (try (have c14b1 : decide (t198 = t220 && ((t199 == t221 && (t200 == t222)) && (t201 == t223))) = true := by simpa using c14))
   (try (have c14b2 : (t198 == t220 && ((t199 == t221 && (t200 == t222)) && (t201 == t223))) = true := by simpa using c14))
   clear c14
   replace H := Option.bind_eq_some_iff.mp H
   obtain ⟨⟨t224, t225, t226, t227⟩, A150, H⟩ := H
   replace H : (if (t211 == t224 && ((t212 == t225 && (t213 == t226)) && (t214 == t227))) = true then ((garderoberef16_Ref.f 4 11).bind fun bt228 => ((vals_Fits.f k t164 t167 t170 t173 bt228.1 bt228.2.1 bt228.2.2.1 bt228.2.2.2 4 1).bind fun t232 => (some t232))) else (none)) = some r := H
   have A15 := Aside0.mk A150
   clear A150
   by_cases c16 : (t211 == t224 && ((t212 == t225 && (t213 == t226)) && (t214 == t227))) = true
   ·rw [if_pos c16] at H
    have c16b0 : (t211 == t224 && ((t212 == t225 && (t213 == t226)) && (t214 == t227))) = true := c16
    (try (have c16b1 : decide (t211 = t224 && ((t212 == t225 && (t213 == t226)) && (t214 == t227))) = true := by simpa using c16))
    (try (have c16b2 : (t211 == t224 && ((t212 == t225 && (t213 == t226)) && (t214 == t227))) = true := by simpa using c16))
    clear c16
    replace H := Option.bind_eq_some_iff.mp H
    obtain ⟨⟨t228, t229, t230, t231⟩, A170, H⟩ := H
    replace H : ((vals_Fits.f k t164 t167 t170 t173 t228 t229 t230 t231 4 1).bind fun t232 => (some t232)) = some r := H
    have A17 := Aside0.mk A170
    clear A170
    replace H := Option.bind_eq_some_iff.mp H
    obtain ⟨t232, A180, H⟩ := H
    replace H : (some t232) = some r := H
    have A18 := Aside0.mk A180
    clear A180
    obtain rfl := Option.some.inj H
    go_enter Try.func33, Try.ntmps33
    try go_wp2_with (first | ((with_reducible refine gate_callee (f := 57) rfl ?_); refine goesL_ (some 5) rfl rfl Try.func57 (by kernel_rfl) rfl #[] rfl (by (try simp only [List.map_toArray, List.map_cons, List.map_nil]); first | done | rfl | (simp only [List.length_drop, List.length_take]; rfl)) ?_; (with_reducible refine (garderoberef12_World.calls  t164 t167 t170 t173 _ A1.out).mono ?_); rintro e w19 ⟨v165, v168, v171, v174, rfl, ho0, ho1, ho2, ho3, hb⟩; refine ⟨_, rfl, ?_⟩; have n0_ := Aside0.mk (Kd.R_lower ho0 (below_size (qW HB.out))); have n1_ := Aside0.mk (Kd.R_lower ho1 (below_size (qW HB.out))); have n2_ := Aside0.mk (Kd.R_lower ho2 (below_size (qW HB.out))); have n3_ := Aside0.mk (Kd.R_lower ho3 (below_size (qW HB.out))); have n4_ := Aside0.mk (below_step (qW HB.out) hb); clear HB; have HO166 := n0_; have HO169 := n1_; have HO172 := n2_; have HO175 := n3_; have HB := n4_; clear n0_ n1_ n2_ n3_ n4_; (try clear hb); (try clear hb2); (try clear hk); (try clear hi); (try clear ho0); (try clear ho1); (try clear ho2); (try clear ho3)) | ((with_reducible refine gate_dst (N := 1) rfl ?_); refine box_event ?hg (N := 1) ?hd (cs := #[.slice none 0 0, .slice none 0 0, .slice none 0 0, .slice none 0 0]) (t := 27) ?hr ?_; (case hd => rfl); (case hg => rfl); (case hr => first | (go_simp; done) | (go_simp; rfl)); intro gb176 hg w20 hbox hb; have n0_ := Aside0.mk (Kd.R_below (qR HO166.out) hb); have n1_ := Aside0.mk (Kd.R_below (qR HO169.out) hb); have n2_ := Aside0.mk (Kd.R_below (qR HO172.out) hb); have n3_ := Aside0.mk (Kd.R_below (qR HO175.out) hb); have n4_ := Aside0.mk (below_step (qW HB.out) hb); have n5_ := Aside0.mk (hbox); have n6_ := Aside0.mk ((by rw [hg]; exact (below_size (qW HB.out)) : w.heap.size ≤ gb176)); have n7_ := Aside0.mk ((by rw [hg]; exact (below_size (qW HB.out)) : w.heap.size ≤ gb176)); clear HO166 HO169 HO172 HO175 HB; have HO166 := n0_; have HO169 := n1_; have HO172 := n2_; have HO175 := n3_; have HB := n4_; have BK176 := n5_; have GW176 := n6_; have GE176 := n7_; clear n0_ n1_ n2_ n3_ n4_ n5_ n6_ n7_; clear hb hbox hg; obtain ⟨Ao21, co21, eo21⟩ := Kd.R_slice HO166.out; subst eo21; have hcz22_0 : w20.cell? ⟨gb176, 0, none⟩ = some (.slice none 0 0) := (blk_cell BK176.out 0).trans rfl; have hcz22_1 : w20.cell? ⟨gb176, 1, none⟩ = some (.slice none 0 0) := (blk_cell BK176.out 1).trans rfl; have hcz22_2 : w20.cell? ⟨gb176, 2, none⟩ = some (.slice none 0 0) := (blk_cell BK176.out 2).trans rfl; have hcz22_3 : w20.cell? ⟨gb176, 3, none⟩ = some (.slice none 0 0) := (blk_cell BK176.out 3).trans rfl; have hfz22_0 := blk_frozen BK176.out 0; have hfz22_1 := blk_frozen BK176.out 1; have hfz22_2 := blk_frozen BK176.out 2; have hfz22_3 := blk_frozen BK176.out 3; obtain ⟨Ao23, co23, eo23⟩ := Kd.R_slice HO169.out; subst eo23; obtain ⟨Ao24, co24, eo24⟩ := Kd.R_slice HO172.out; subst eo24; obtain ⟨Ao25, co25, eo25⟩ := Kd.R_slice HO175.out; subst eo25))
    have n0_ : Aside0 (Kd.R k103 103 ((((w20.setCell ⟨gb176, 0, none⟩ (.slice Ao21 t164.length co21)).setCell ⟨gb176, 1, none⟩ (.slice Ao23 t167.length co23)).setCell ⟨gb176, 2, none⟩ (.slice Ao24 t170.length co24)).setCell ⟨gb176, 3, none⟩ (.slice Ao25 t173.length co25)) w.heap.size (fun _ => True) (.slice Ao21 t164.length co21) t164) := ⟨by (with_reducible repeat (first | apply Kd.R_alloc | apply Kd.R_drewN | apply Kd.R_drew)); exact Kd.R_mono (Kd.R_far (p := ⟨gb176, 3, none⟩) (Kd.R_far (p := ⟨gb176, 2, none⟩) (Kd.R_far (p := ⟨gb176, 1, none⟩) (Kd.R_far (p := ⟨gb176, 0, none⟩) (Kd.R_types HO166.out BK176.out (by decide)) (fun _ hk => hk.2) (.slice Ao21 t164.length co21)) (fun _ hk => hk.2) (.slice Ao23 t167.length co23)) (fun _ hk => hk.2) (.slice Ao24 t170.length co24)) (fun _ hk => hk.2) (.slice Ao25 t173.length co25)) (fun _ hk => trivial)⟩
    have n1_ : Aside0 (Kd.R k38 38 ((((w20.setCell ⟨gb176, 0, none⟩ (.slice Ao21 t164.length co21)).setCell ⟨gb176, 1, none⟩ (.slice Ao23 t167.length co23)).setCell ⟨gb176, 2, none⟩ (.slice Ao24 t170.length co24)).setCell ⟨gb176, 3, none⟩ (.slice Ao25 t173.length co25)) w.heap.size (fun _ => True) (.slice Ao23 t167.length co23) t167) := ⟨by (with_reducible repeat (first | apply Kd.R_alloc | apply Kd.R_drewN | apply Kd.R_drew)); exact Kd.R_mono (Kd.R_far (p := ⟨gb176, 3, none⟩) (Kd.R_far (p := ⟨gb176, 2, none⟩) (Kd.R_far (p := ⟨gb176, 1, none⟩) (Kd.R_far (p := ⟨gb176, 0, none⟩) (Kd.R_types HO169.out BK176.out (by decide)) (fun _ hk => hk.2) (.slice Ao21 t164.length co21)) (fun _ hk => hk.2) (.slice Ao23 t167.length co23)) (fun _ hk => hk.2) (.slice Ao24 t170.length co24)) (fun _ hk => hk.2) (.slice Ao25 t173.length co25)) (fun _ hk => trivial)⟩
    have n2_ : Aside0 (Kd.R k206 206 ((((w20.setCell ⟨gb176, 0, none⟩ (.slice Ao21 t164.length co21)).setCell ⟨gb176, 1, none⟩ (.slice Ao23 t167.length co23)).setCell ⟨gb176, 2, none⟩ (.slice Ao24 t170.length co24)).setCell ⟨gb176, 3, none⟩ (.slice Ao25 t173.length co25)) w.heap.size (fun _ => True) (.slice Ao24 t170.length co24) t170) := ⟨by (with_reducible repeat (first | apply Kd.R_alloc | apply Kd.R_drewN | apply Kd.R_drew)); exact Kd.R_mono (Kd.R_far (p := ⟨gb176, 3, none⟩) (Kd.R_far (p := ⟨gb176, 2, none⟩) (Kd.R_far (p := ⟨gb176, 1, none⟩) (Kd.R_far (p := ⟨gb176, 0, none⟩) (Kd.R_types HO172.out BK176.out (by decide)) (fun _ hk => hk.2) (.slice Ao21 t164.length co21)) (fun _ hk => hk.2) (.slice Ao23 t167.length co23)) (fun _ hk => hk.2) (.slice Ao24 t170.length co24)) (fun _ hk => hk.2) (.slice Ao25 t173.length co25)) (fun _ hk => trivial)⟩
    have n3_ : Aside0 (Kd.R k117 117 ((((w20.setCell ⟨gb176, 0, none⟩ (.slice Ao21 t164.length co21)).setCell ⟨gb176, 1, none⟩ (.slice Ao23 t167.length co23)).setCell ⟨gb176, 2, none⟩ (.slice Ao24 t170.length co24)).setCell ⟨gb176, 3, none⟩ (.slice Ao25 t173.length co25)) w.heap.size (fun _ => True) (.slice Ao25 t173.length co25) t173) := ⟨by (with_reducible repeat (first | apply Kd.R_alloc | apply Kd.R_drewN | apply Kd.R_drew)); exact Kd.R_mono (Kd.R_far (p := ⟨gb176, 3, none⟩) (Kd.R_far (p := ⟨gb176, 2, none⟩) (Kd.R_far (p := ⟨gb176, 1, none⟩) (Kd.R_far (p := ⟨gb176, 0, none⟩) (Kd.R_types HO175.out BK176.out (by decide)) (fun _ hk => hk.2) (.slice Ao21 t164.length co21)) (fun _ hk => hk.2) (.slice Ao23 t167.length co23)) (fun _ hk => hk.2) (.slice Ao24 t170.length co24)) (fun _ hk => hk.2) (.slice Ao25 t173.length co25)) (fun _ hk => trivial)⟩
    have n4_ : Aside0 (((((w20.setCell ⟨gb176, 0, none⟩ (.slice Ao21 t164.length co21)).setCell ⟨gb176, 1, none⟩ (.slice Ao23 t167.length co23)).setCell ⟨gb176, 2, none⟩ (.slice Ao24 t170.length co24)).setCell ⟨gb176, 3, none⟩ (.slice Ao25 t173.length co25)).heap[gb176]? = some (.cells #[.slice Ao21 t164.length co21, .slice Ao23 t167.length co23, .slice Ao24 t170.length co24, .slice Ao25 t173.length co25] 27 (0, 0))) := ⟨by (with_reducible repeat (first | refine blk_drewN ?_ _ | refine blk_drew ?_ | refine blk_alloc ?_ _)); refine blk_put (cs := #[.slice Ao21 t164.length co21, .slice Ao23 t167.length co23, .slice Ao24 t170.length co24, .slice none 0 0]) ?_ 3 _ rfl; (with_reducible repeat (first | refine blk_drewN ?_ _ | refine blk_drew ?_ | refine blk_alloc ?_ _)); refine blk_put (cs := #[.slice Ao21 t164.length co21, .slice Ao23 t167.length co23, .slice none 0 0, .slice none 0 0]) ?_ 2 _ rfl; (with_reducible repeat (first | refine blk_drewN ?_ _ | refine blk_drew ?_ | refine blk_alloc ?_ _)); refine blk_put (cs := #[.slice Ao21 t164.length co21, .slice none 0 0, .slice none 0 0, .slice none 0 0]) ?_ 1 _ rfl; (with_reducible repeat (first | refine blk_drewN ?_ _ | refine blk_drew ?_ | refine blk_alloc ?_ _)); refine blk_put (cs := #[.slice none 0 0, .slice none 0 0, .slice none 0 0, .slice none 0 0]) ?_ 0 _ rfl; (with_reducible repeat (first | refine blk_drewN ?_ _ | refine blk_drew ?_ | refine blk_alloc ?_ _)); exact BK176.out⟩
    have n5_ : Aside0 (Below w.heap.size w ((((w20.setCell ⟨gb176, 0, none⟩ (.slice Ao21 t164.length co21)).setCell ⟨gb176, 1, none⟩ (.slice Ao23 t167.length co23)).setCell ⟨gb176, 2, none⟩ (.slice Ao24 t170.length co24)).setCell ⟨gb176, 3, none⟩ (.slice Ao25 t173.length co25))) := ⟨qW HB.out⟩
    (try clear HO166)
    (try clear HO169)
    (try clear HO172)
    (try clear HO175)
    (try clear BK176)
    (try clear HB)
    generalize ((((w20.setCell ⟨gb176, 0, none⟩ (.slice Ao21 t164.length co21)).setCell ⟨gb176, 1, none⟩ (.slice Ao23 t167.length co23)).setCell ⟨gb176, 2, none⟩ (.slice Ao24 t170.length co24)).setCell ⟨gb176, 3, none⟩ (.slice Ao25 t173.length co25)) = w26 at n0_ n1_ n2_ n3_ n4_ n5_ ⊢
    have HO166 := n0_
    have HO169 := n1_
    have HO172 := n2_
    have HO175 := n3_
    have BK176 := n4_
    have HB := n5_
    clear n0_ n1_ n2_ n3_ n4_ n5_
    have n0_ := Aside0.mk (Kd.R_drew HO166.out)
    have n1_ := Aside0.mk (Kd.R_drew HO169.out)
    have n2_ := Aside0.mk (Kd.R_drew HO172.out)
    have n3_ := Aside0.mk (Kd.R_drew HO175.out)
    have n4_ := Aside0.mk (blk_drew BK176.out)
    have n5_ := Aside0.mk (below_drew1 HB.out)
    clear HO166
    clear HO169
    clear HO172
    clear HO175
    clear BK176
    clear HB
    have HO166 := n0_
    have HO169 := n1_
    have HO172 := n2_
    have HO175 := n3_
    have BK176 := n4_
    have HB := n5_
    clear n0_ n1_ n2_ n3_ n4_ n5_
    refine start_ (n := 6) (S := fun w' => w'.cell? ⟨gb176, 0, none⟩ = some (.slice Ao21 t164.length co21) ∧ w'.cell? ⟨gb176, 1, none⟩ = some (.slice Ao23 t167.length co23) ∧ w'.cell? ⟨gb176, 2, none⟩ = some (.slice Ao24 t170.length co24) ∧ w'.cell? ⟨gb176, 3, none⟩ = some (.slice Ao25 t173.length co25)) (ds := []) #[false, false, false, false, false, false] (by kernel_rfl) rfl rfl ⟨(blk_cell BK176.out 0).trans rfl, (blk_cell BK176.out 1).trans rfl, (blk_cell BK176.out 2).trans rfl, (blk_cell BK176.out 3).trans rfl⟩ (fun hHeld => ?_)
    generalize w26.drew = w27 at HO166 HO169 HO172 HO175 BK176 HB hHeld ⊢
    refine take_ (i := 0) (N := some 6) (v := ?_) (a' := ?_) #[true, false, false, false, false, false] rfl rfl (by kernel_rfl) (fun _ _ _ h => h) (Or.inl ⟨by rfl, ?_⟩) hHeld ?_ ?_
    rotate_left
    ·rintro w' ⟨s0, s1, s2, s3⟩
     go_simp
     with_reducible rfl
    rotate_left
    ·simp only [Act.put, List.setIfInBounds_toArray, List.set_cons_zero, List.set_cons_succ, i64_w, i32_w]
     rfl
    refine join_ (σ := Nat) 1 #[true, true, true, true, true, false] (fun s_ => [(7, .agg #[.int .u8 t177, .int .u8 t178, .int .u16 t179, .int .i64 t180]), (8, .agg #[.int .u8 t181, .int .u8 t182, .int .u16 t183, .int .i64 t184]), (9, .agg #[.int .u8 t185, .int .u8 t186, .int .u16 t187, .int .i64 t188]), (2, .pointer (some ⟨s_, 0, none⟩))]) (fun s_ w' => (w'.cell? ⟨gb176, 0, none⟩ = some (.slice Ao21 t164.length co21) ∧ w'.cell? ⟨gb176, 1, none⟩ = some (.slice Ao23 t167.length co23) ∧ w'.cell? ⟨gb176, 2, none⟩ = some (.slice Ao24 t170.length co24) ∧ w'.cell? ⟨gb176, 3, none⟩ = some (.slice Ao25 t173.length co25)) ∧ (Kd.R k103 103 w' w.heap.size (fun _ => True) (.slice Ao21 t164.length co21) t164) ∧ (Kd.R k38 38 w' w.heap.size (fun _ => True) (.slice Ao23 t167.length co23) t167) ∧ (Kd.R k206 206 w' w.heap.size (fun _ => True) (.slice Ao24 t170.length co24) t170) ∧ (Kd.R k117 117 w' w.heap.size (fun _ => True) (.slice Ao25 t173.length co25) t173) ∧ (w'.heap[gb176]? = some (.cells #[.slice Ao21 t164.length co21, .slice Ao23 t167.length co23, .slice Ao24 t170.length co24, .slice Ao25 t173.length co25] 27 (0, 0))) ∧ (w'.heap[s_]? = some (.cells #[.int .u8 0, .int .u8 0, .int .u16 0, .int .i64 0] 56 (0, 0))) ∧ (w.heap.size ≤ s_) ∧ (w.heap.size ≤ s_) ∧ (gb176 ≠ s_) ∧ (s_ ≠ gb176) ∧ (Below w.heap.size w w')) ?_ ?_
    rotate_left
    ·intro hCont
     refine two_ (i := 1) (j := 4) (Ni := some 7) (Nj := some 2) #[true, true, false, false, false, false] #[true, false, false, false, true, false] rfl rfl rfl rfl (by kernel_rfl) (by decide) (by decide) (fun K hK => ?_) (fun K hK => ?_)
     ·skip
      refine goes_ Try.func65 (by kernel_rfl) rfl #[] (by rfl) rfl rfl (by (try simp only [List.map_toArray, List.map_cons, List.map_nil]); first | done | rfl | (simp only [List.length_drop, List.length_take]; rfl)) ?_
      with_reducible refine (garderoberef16_Null.calls  t177 t178 t179 t180 _ A2.out).mono ?_
      rintro e w28 ⟨rfl, hb⟩
      refine ⟨_, rfl, ?_⟩
      have n0_ := Aside0.mk (Kd.R_below (qR HO166.out) hb)
      have n1_ := Aside0.mk (Kd.R_below (qR HO169.out) hb)
      have n2_ := Aside0.mk (Kd.R_below (qR HO172.out) hb)
      have n3_ := Aside0.mk (Kd.R_below (qR HO175.out) hb)
      have n4_ := Aside0.mk (blk_below (qb BK176.out) hb)
      have n5_ := Aside0.mk (below_step (qW HB.out) hb)
      clear HO166
      clear HO169
      clear HO172
      clear HO175
      clear BK176
      clear HB
      have HO166 := n0_
      have HO169 := n1_
      have HO172 := n2_
      have HO175 := n3_
      have BK176 := n4_
      have HB := n5_
      clear n0_ n1_ n2_ n3_ n4_ n5_
      (try clear hb)
      (try clear hb2)
      (try clear hk)
      (try clear hi)
      refine hK.out _ _ ⟨(blk_cell BK176.out 0).trans rfl, (blk_cell BK176.out 1).trans rfl, (blk_cell BK176.out 2).trans rfl, (blk_cell BK176.out 3).trans rfl⟩ (fun hHeld => ?_)
      clear hK K
      refine norm_ (a' := ?_) ?_ ?_
      rotate_left
      ·show Act.put _ (some 7) _ = _
       simp only [Act.put, List.setIfInBounds_toArray, List.set_cons_zero, List.set_cons_succ, i64_w, i32_w]
       rfl
      refine two_ (i := 2) (j := 4) (Ni := some 8) (Nj := some 2) #[true, true, true, false, false, false] #[true, true, false, false, true, false] rfl rfl rfl rfl (by kernel_rfl) (by decide) (by decide) (fun K hK => ?_) (fun K hK => ?_)
      ·skip
       refine goes_ Try.func66 (by kernel_rfl) rfl #[.int .u8 6, .int .i64 0] (by rfl) rfl rfl (by (try simp only [List.map_toArray, List.map_cons, List.map_nil]); first | done | rfl | (simp only [List.length_drop, List.length_take]; rfl)) ?_
       with_reducible refine (garderoberef16_Ref.calls 6 0 t181 t182 t183 t184 _ A3.out).mono ?_
       rintro e w29 ⟨rfl, hb⟩
       refine ⟨_, rfl, ?_⟩
       have n0_ := Aside0.mk (Kd.R_below (qR HO166.out) hb)
       have n1_ := Aside0.mk (Kd.R_below (qR HO169.out) hb)
       have n2_ := Aside0.mk (Kd.R_below (qR HO172.out) hb)
       have n3_ := Aside0.mk (Kd.R_below (qR HO175.out) hb)
       have n4_ := Aside0.mk (blk_below (qb BK176.out) hb)
       have n5_ := Aside0.mk (below_step (qW HB.out) hb)
       clear HO166
       clear HO169
       clear HO172
       clear HO175
       clear BK176
       clear HB
       have HO166 := n0_
       have HO169 := n1_
       have HO172 := n2_
       have HO175 := n3_
       have BK176 := n4_
       have HB := n5_
       clear n0_ n1_ n2_ n3_ n4_ n5_
       (try clear hb)
       (try clear hb2)
       (try clear hk)
       (try clear hi)
       refine hK.out _ _ ⟨(blk_cell BK176.out 0).trans rfl, (blk_cell BK176.out 1).trans rfl, (blk_cell BK176.out 2).trans rfl, (blk_cell BK176.out 3).trans rfl⟩ (fun hHeld => ?_)
       clear hK K
       refine norm_ (a' := ?_) ?_ ?_
       rotate_left
       ·show Act.put _ (some 8) _ = _
        simp only [Act.put, List.setIfInBounds_toArray, List.set_cons_zero, List.set_cons_succ, i64_w, i32_w]
        rfl
       refine two_ (i := 3) (j := 4) (Ni := some 9) (Nj := some 2) #[true, true, true, true, false, false] #[true, true, true, false, true, false] rfl rfl rfl rfl (by kernel_rfl) (by decide) (by decide) (fun K hK => ?_) (fun K hK => ?_)
       ·skip
        refine goes_ Try.func34 (by kernel_rfl) rfl #[.agg #[.slice Ao21 t164.length co21, .slice Ao23 t167.length co23, .slice Ao24 t170.length co24, .slice Ao25 t173.length co25], .agg #[.int .u8 t177, .int .u8 t178, .int .u16 t179, .int .i64 t180], .agg #[.int .u8 t181, .int .u8 t182, .int .u16 t183, .int .i64 t184]] (by rfl) rfl rfl (by (try simp only [List.map_toArray, List.map_cons, List.map_nil]); first | done | rfl | (simp only [List.length_drop, List.length_take]; rfl)) ?_
        with_reducible refine (vals_Join.calls k _ _ t164 _ _ t167 _ _ t170 _ _ t173 t177 t178 t179 t180 t181 t182 t183 t184 t185 t186 t187 t188 _ ?side1 ?side2 ?side3 ?side4 ?side5 ?side6 ?side7 ?side8 A4.out).mono ?_
        (case side1 => exact qC (Kd.R_reads' HO166.out).2.2)
        (case side2 => exact (Kd.R_reads' HO166.out).2.1)
        (case side3 => exact qC (Kd.R_reads' HO169.out).2.2)
        (case side4 => exact (Kd.R_reads' HO169.out).2.1)
        (case side5 => exact qC (Kd.R_reads' HO172.out).2.2)
        (case side6 => exact (Kd.R_reads' HO172.out).2.1)
        (case side7 => exact qC (Kd.R_reads' HO175.out).2.2)
        (case side8 => exact (Kd.R_reads' HO175.out).2.1)
        rintro e w30 ⟨rfl, hb⟩
        refine ⟨_, rfl, ?_⟩
        have n0_ := Aside0.mk (Kd.R_below (qR HO166.out) hb)
        have n1_ := Aside0.mk (Kd.R_below (qR HO169.out) hb)
        have n2_ := Aside0.mk (Kd.R_below (qR HO172.out) hb)
        have n3_ := Aside0.mk (Kd.R_below (qR HO175.out) hb)
        have n4_ := Aside0.mk (blk_below (qb BK176.out) hb)
        have n5_ := Aside0.mk (below_step (qW HB.out) hb)
        clear HO166
        clear HO169
        clear HO172
        clear HO175
        clear BK176
        clear HB
        have HO166 := n0_
        have HO169 := n1_
        have HO172 := n2_
        have HO175 := n3_
        have BK176 := n4_
        have HB := n5_
        clear n0_ n1_ n2_ n3_ n4_ n5_
        (try clear hb)
        (try clear hb2)
        (try clear hk)
        (try clear hi)
        refine hK.out _ _ ⟨(blk_cell BK176.out 0).trans rfl, (blk_cell BK176.out 1).trans rfl, (blk_cell BK176.out 2).trans rfl, (blk_cell BK176.out 3).trans rfl⟩ (fun hHeld => ?_)
        clear hK K
        refine norm_ (a' := ?_) ?_ ?_
        rotate_left
        ·show Act.put _ (some 9) _ = _
         simp only [Act.put, List.setIfInBounds_toArray, List.set_cons_zero, List.set_cons_succ, i64_w, i32_w]
         rfl
        refine one_ (i := 4) (N := some 2) #[true, true, true, true, true, false] rfl rfl (by kernel_rfl) (by decide) (fun K hK => ?_)
        refine box_step ?hg (N := 2) ?hd (cs := #[.int .u8 0, .int .u8 0, .int .u16 0, .int .i64 0]) (t := 56) ?hr ?_; (case hd => rfl); (case hg => rfl); (case hr => first | (go_simp; done) | (go_simp; rfl))
        intro gb189 hg w31 hbox hb
        have n0_ := Aside0.mk (Kd.R_below (qR HO166.out) hb)
        have n1_ := Aside0.mk (Kd.R_below (qR HO169.out) hb)
        have n2_ := Aside0.mk (Kd.R_below (qR HO172.out) hb)
        have n3_ := Aside0.mk (Kd.R_below (qR HO175.out) hb)
        have n4_ := Aside0.mk (blk_below (qb BK176.out) hb)
        have n5_ := Aside0.mk (below_step (qW HB.out) hb)
        have n6_ := Aside0.mk (hbox)
        have n7_ := Aside0.mk ((by rw [hg]; exact (below_size (qW HB.out)) : w.heap.size ≤ gb189))
        have n8_ := Aside0.mk ((by rw [hg]; exact (below_size (qW HB.out)) : w.heap.size ≤ gb189))
        have n9_ := Aside0.mk ((by rw [hg]; exact Nat.ne_of_lt (blk_lt (qb BK176.out)) : gb176 ≠ gb189))
        have n10_ := Aside0.mk ((by rw [hg]; exact Nat.ne_of_gt (blk_lt (qb BK176.out)) : gb189 ≠ gb176))
        clear HO166
        clear HO169
        clear HO172
        clear HO175
        clear BK176
        clear HB
        have HO166 := n0_
        have HO169 := n1_
        have HO172 := n2_
        have HO175 := n3_
        have BK176 := n4_
        have HB := n5_
        have BK189 := n6_
        have GW189 := n7_
        have GE189 := n8_
        have NB176_189 := n9_
        have NB189_176 := n10_
        clear n0_ n1_ n2_ n3_ n4_ n5_ n6_ n7_ n8_ n9_ n10_
        clear hb hbox hg
        refine hK.out _ _ ⟨(blk_cell BK176.out 0).trans rfl, (blk_cell BK176.out 1).trans rfl, (blk_cell BK176.out 2).trans rfl, (blk_cell BK176.out 3).trans rfl⟩ (fun hHeld => ?_)
        clear hK K
        refine norm_ (a' := ?_) ?_ ?_
        rotate_left
        ·show Act.put _ (some 2) _ = _
         simp only [Act.put, List.setIfInBounds_toArray, List.set_cons_zero, List.set_cons_succ, i64_w, i32_w]
         rfl
        exact norm_ (by simp only [putAll, Act.put, List.setIfInBounds_toArray, List.set_cons_zero, List.set_cons_succ]) (hCont (gb189) _ ⟨hHeld, (qR HO166.out), (qR HO169.out), (qR HO172.out), (qR HO175.out), (qb BK176.out), (qb BK189.out), GW189.out, GE189.out, NB176_189.out, NB189_176.out, (qW HB.out)⟩)
       ·skip
        refine box_step ?hg (N := 2) ?hd (cs := #[.int .u8 0, .int .u8 0, .int .u16 0, .int .i64 0]) (t := 56) ?hr ?_; (case hd => rfl); (case hg => rfl); (case hr => first | (go_simp; done) | (go_simp; rfl))
        intro gb189 hg w30 hbox hb
        have n0_ := Aside0.mk (Kd.R_below (qR HO166.out) hb)
        have n1_ := Aside0.mk (Kd.R_below (qR HO169.out) hb)
        have n2_ := Aside0.mk (Kd.R_below (qR HO172.out) hb)
        have n3_ := Aside0.mk (Kd.R_below (qR HO175.out) hb)
        have n4_ := Aside0.mk (blk_below (qb BK176.out) hb)
        have n5_ := Aside0.mk (below_step (qW HB.out) hb)
        have n6_ := Aside0.mk (hbox)
        have n7_ := Aside0.mk ((by rw [hg]; exact (below_size (qW HB.out)) : w.heap.size ≤ gb189))
        have n8_ := Aside0.mk ((by rw [hg]; exact (below_size (qW HB.out)) : w.heap.size ≤ gb189))
        have n9_ := Aside0.mk ((by rw [hg]; exact Nat.ne_of_lt (blk_lt (qb BK176.out)) : gb176 ≠ gb189))
        have n10_ := Aside0.mk ((by rw [hg]; exact Nat.ne_of_gt (blk_lt (qb BK176.out)) : gb189 ≠ gb176))
        clear HO166
        clear HO169
        clear HO172
        clear HO175
        clear BK176
        clear HB
        have HO166 := n0_
        have HO169 := n1_
        have HO172 := n2_
        have HO175 := n3_
        have BK176 := n4_
        have HB := n5_
        have BK189 := n6_
        have GW189 := n7_
        have GE189 := n8_
        have NB176_189 := n9_
        have NB189_176 := n10_
        clear n0_ n1_ n2_ n3_ n4_ n5_ n6_ n7_ n8_ n9_ n10_
        clear hb hbox hg
        refine hK.out _ _ ⟨(blk_cell BK176.out 0).trans rfl, (blk_cell BK176.out 1).trans rfl, (blk_cell BK176.out 2).trans rfl, (blk_cell BK176.out 3).trans rfl⟩ (fun hHeld => ?_)
        clear hK K
        refine norm_ (a' := ?_) ?_ ?_
        rotate_left
        ·show Act.put _ (some 2) _ = _
         simp only [Act.put, List.setIfInBounds_toArray, List.set_cons_zero, List.set_cons_succ, i64_w, i32_w]
         rfl
        refine one_ (i := 3) (N := some 9) #[true, true, true, true, true, false] rfl rfl (by kernel_rfl) (by decide) (fun K hK => ?_)
        refine goes_ Try.func34 (by kernel_rfl) rfl #[.agg #[.slice Ao21 t164.length co21, .slice Ao23 t167.length co23, .slice Ao24 t170.length co24, .slice Ao25 t173.length co25], .agg #[.int .u8 t177, .int .u8 t178, .int .u16 t179, .int .i64 t180], .agg #[.int .u8 t181, .int .u8 t182, .int .u16 t183, .int .i64 t184]] (by rfl) rfl rfl (by (try simp only [List.map_toArray, List.map_cons, List.map_nil]); first | done | rfl | (simp only [List.length_drop, List.length_take]; rfl)) ?_
        with_reducible refine (vals_Join.calls k _ _ t164 _ _ t167 _ _ t170 _ _ t173 t177 t178 t179 t180 t181 t182 t183 t184 t185 t186 t187 t188 _ ?side1 ?side2 ?side3 ?side4 ?side5 ?side6 ?side7 ?side8 A4.out).mono ?_
        (case side1 => exact qC (Kd.R_reads' HO166.out).2.2)
        (case side2 => exact (Kd.R_reads' HO166.out).2.1)
        (case side3 => exact qC (Kd.R_reads' HO169.out).2.2)
        (case side4 => exact (Kd.R_reads' HO169.out).2.1)
        (case side5 => exact qC (Kd.R_reads' HO172.out).2.2)
        (case side6 => exact (Kd.R_reads' HO172.out).2.1)
        (case side7 => exact qC (Kd.R_reads' HO175.out).2.2)
        (case side8 => exact (Kd.R_reads' HO175.out).2.1)
        rintro e w31 ⟨rfl, hb⟩
        refine ⟨_, rfl, ?_⟩
        have n0_ := Aside0.mk (Kd.R_below (qR HO166.out) hb)
        have n1_ := Aside0.mk (Kd.R_below (qR HO169.out) hb)
        have n2_ := Aside0.mk (Kd.R_below (qR HO172.out) hb)
        have n3_ := Aside0.mk (Kd.R_below (qR HO175.out) hb)
        have n4_ := Aside0.mk (blk_below (qb BK176.out) hb)
        have n5_ := Aside0.mk (blk_below (qb BK189.out) hb)
        have n6_ := Aside0.mk (below_step (qW HB.out) hb)
        clear HO166
        clear HO169
        clear HO172
        clear HO175
        clear BK176
        clear BK189
        clear HB
        have HO166 := n0_
        have HO169 := n1_
        have HO172 := n2_
        have HO175 := n3_
        have BK176 := n4_
        have BK189 := n5_
        have HB := n6_
        clear n0_ n1_ n2_ n3_ n4_ n5_ n6_
        (try clear hb)
        (try clear hb2)
        (try clear hk)
        (try clear hi)
        refine hK.out _ _ ⟨(blk_cell BK176.out 0).trans rfl, (blk_cell BK176.out 1).trans rfl, (blk_cell BK176.out 2).trans rfl, (blk_cell BK176.out 3).trans rfl⟩ (fun hHeld => ?_)
        clear hK K
        refine norm_ (a' := ?_) ?_ ?_
        rotate_left
        ·show Act.put _ (some 9) _ = _
         simp only [Act.put, List.setIfInBounds_toArray, List.set_cons_zero, List.set_cons_succ, i64_w, i32_w]
         rfl
        exact norm_ (by simp only [putAll, Act.put, List.setIfInBounds_toArray, List.set_cons_zero, List.set_cons_succ]) (hCont (gb189) _ ⟨hHeld, (qR HO166.out), (qR HO169.out), (qR HO172.out), (qR HO175.out), (qb BK176.out), (qb BK189.out), GW189.out, GE189.out, NB176_189.out, NB189_176.out, (qW HB.out)⟩)
      ·skip
       refine box_step ?hg (N := 2) ?hd (cs := #[.int .u8 0, .int .u8 0, .int .u16 0, .int .i64 0]) (t := 56) ?hr ?_; (case hd => rfl); (case hg => rfl); (case hr => first | (go_simp; done) | (go_simp; rfl))
       intro gb189 hg w29 hbox hb
       have n0_ := Aside0.mk (Kd.R_below (qR HO166.out) hb)
       have n1_ := Aside0.mk (Kd.R_below (qR HO169.out) hb)
       have n2_ := Aside0.mk (Kd.R_below (qR HO172.out) hb)
       have n3_ := Aside0.mk (Kd.R_below (qR HO175.out) hb)
       have n4_ := Aside0.mk (blk_below (qb BK176.out) hb)
       have n5_ := Aside0.mk (below_step (qW HB.out) hb)
       have n6_ := Aside0.mk (hbox)
       have n7_ := Aside0.mk ((by rw [hg]; exact (below_size (qW HB.out)) : w.heap.size ≤ gb189))
       have n8_ := Aside0.mk ((by rw [hg]; exact (below_size (qW HB.out)) : w.heap.size ≤ gb189))
       have n9_ := Aside0.mk ((by rw [hg]; exact Nat.ne_of_lt (blk_lt (qb BK176.out)) : gb176 ≠ gb189))
       have n10_ := Aside0.mk ((by rw [hg]; exact Nat.ne_of_gt (blk_lt (qb BK176.out)) : gb189 ≠ gb176))
       clear HO166
       clear HO169
       clear HO172
       clear HO175
       clear BK176
       clear HB
       have HO166 := n0_
       have HO169 := n1_
       have HO172 := n2_
       have HO175 := n3_
       have BK176 := n4_
       have HB := n5_
       have BK189 := n6_
       have GW189 := n7_
       have GE189 := n8_
       have NB176_189 := n9_
       have NB189_176 := n10_
       clear n0_ n1_ n2_ n3_ n4_ n5_ n6_ n7_ n8_ n9_ n10_
       clear hb hbox hg
       refine hK.out _ _ ⟨(blk_cell BK176.out 0).trans rfl, (blk_cell BK176.out 1).trans rfl, (blk_cell BK176.out 2).trans rfl, (blk_cell BK176.out 3).trans rfl⟩ (fun hHeld => ?_)
       clear hK K
       refine norm_ (a' := ?_) ?_ ?_
       rotate_left
       ·show Act.put _ (some 2) _ = _
        simp only [Act.put, List.setIfInBounds_toArray, List.set_cons_zero, List.set_cons_succ, i64_w, i32_w]
        rfl
       refine one_ (i := 2) (N := some 8) #[true, true, true, false, true, false] rfl rfl (by kernel_rfl) (by decide) (fun K hK => ?_)
       refine goes_ Try.func66 (by kernel_rfl) rfl #[.int .u8 6, .int .i64 0] (by rfl) rfl rfl (by (try simp only [List.map_toArray, List.map_cons, List.map_nil]); first | done | rfl | (simp only [List.length_drop, List.length_take]; rfl)) ?_
       with_reducible refine (garderoberef16_Ref.calls 6 0 t181 t182 t183 t184 _ A3.out).mono ?_
       rintro e w30 ⟨rfl, hb⟩
       refine ⟨_, rfl, ?_⟩
       have n0_ := Aside0.mk (Kd.R_below (qR HO166.out) hb)
       have n1_ := Aside0.mk (Kd.R_below (qR HO169.out) hb)
       have n2_ := Aside0.mk (Kd.R_below (qR HO172.out) hb)
       have n3_ := Aside0.mk (Kd.R_below (qR HO175.out) hb)
       have n4_ := Aside0.mk (blk_below (qb BK176.out) hb)
       have n5_ := Aside0.mk (blk_below (qb BK189.out) hb)
       have n6_ := Aside0.mk (below_step (qW HB.out) hb)
       clear HO166
       clear HO169
       clear HO172
       clear HO175
       clear BK176
       clear BK189
       clear HB
       have HO166 := n0_
       have HO169 := n1_
       have HO172 := n2_
       have HO175 := n3_
       have BK176 := n4_
       have BK189 := n5_
       have HB := n6_
       clear n0_ n1_ n2_ n3_ n4_ n5_ n6_
       (try clear hb)
       (try clear hb2)
       (try clear hk)
       (try clear hi)
       refine hK.out _ _ ⟨(blk_cell BK176.out 0).trans rfl, (blk_cell BK176.out 1).trans rfl, (blk_cell BK176.out 2).trans rfl, (blk_cell BK176.out 3).trans rfl⟩ (fun hHeld => ?_)
       clear hK K
       refine norm_ (a' := ?_) ?_ ?_
       rotate_left
       ·show Act.put _ (some 8) _ = _
        simp only [Act.put, List.setIfInBounds_toArray, List.set_cons_zero, List.set_cons_succ, i64_w, i32_w]
        rfl
       refine one_ (i := 3) (N := some 9) #[true, true, true, true, true, false] rfl rfl (by kernel_rfl) (by decide) (fun K hK => ?_)
       refine goes_ Try.func34 (by kernel_rfl) rfl #[.agg #[.slice Ao21 t164.length co21, .slice Ao23 t167.length co23, .slice Ao24 t170.length co24, .slice Ao25 t173.length co25], .agg #[.int .u8 t177, .int .u8 t178, .int .u16 t179, .int .i64 t180], .agg #[.int .u8 t181, .int .u8 t182, .int .u16 t183, .int .i64 t184]] (by rfl) rfl rfl (by (try simp only [List.map_toArray, List.map_cons, List.map_nil]); first | done | rfl | (simp only [List.length_drop, List.length_take]; rfl)) ?_
       with_reducible refine (vals_Join.calls k _ _ t164 _ _ t167 _ _ t170 _ _ t173 t177 t178 t179 t180 t181 t182 t183 t184 t185 t186 t187 t188 _ ?side1 ?side2 ?side3 ?side4 ?side5 ?side6 ?side7 ?side8 A4.out).mono ?_
       (case side1 => exact qC (Kd.R_reads' HO166.out).2.2)
       (case side2 => exact (Kd.R_reads' HO166.out).2.1)
       (case side3 => exact qC (Kd.R_reads' HO169.out).2.2)
       (case side4 => exact (Kd.R_reads' HO169.out).2.1)
       (case side5 => exact qC (Kd.R_reads' HO172.out).2.2)
       (case side6 => exact (Kd.R_reads' HO172.out).2.1)
       (case side7 => exact qC (Kd.R_reads' HO175.out).2.2)
       (case side8 => exact (Kd.R_reads' HO175.out).2.1)
       rintro e w31 ⟨rfl, hb⟩
       refine ⟨_, rfl, ?_⟩
       have n0_ := Aside0.mk (Kd.R_below (qR HO166.out) hb)
       have n1_ := Aside0.mk (Kd.R_below (qR HO169.out) hb)
       have n2_ := Aside0.mk (Kd.R_below (qR HO172.out) hb)
       have n3_ := Aside0.mk (Kd.R_below (qR HO175.out) hb)
       have n4_ := Aside0.mk (blk_below (qb BK176.out) hb)
       have n5_ := Aside0.mk (blk_below (qb BK189.out) hb)
       have n6_ := Aside0.mk (below_step (qW HB.out) hb)
       clear HO166
       clear HO169
       clear HO172
       clear HO175
       clear BK176
       clear BK189
       clear HB
       have HO166 := n0_
       have HO169 := n1_
       have HO172 := n2_
       have HO175 := n3_
       have BK176 := n4_
       have BK189 := n5_
       have HB := n6_
       clear n0_ n1_ n2_ n3_ n4_ n5_ n6_
       (try clear hb)
       (try clear hb2)
       (try clear hk)
       (try clear hi)
       refine hK.out _ _ ⟨(blk_cell BK176.out 0).trans rfl, (blk_cell BK176.out 1).trans rfl, (blk_cell BK176.out 2).trans rfl, (blk_cell BK176.out 3).trans rfl⟩ (fun hHeld => ?_)
       clear hK K
       refine norm_ (a' := ?_) ?_ ?_
       rotate_left
       ·show Act.put _ (some 9) _ = _
        simp only [Act.put, List.setIfInBounds_toArray, List.set_cons_zero, List.set_cons_succ, i64_w, i32_w]
        rfl
       exact norm_ (by simp only [putAll, Act.put, List.setIfInBounds_toArray, List.set_cons_zero, List.set_cons_succ]) (hCont (gb189) _ ⟨hHeld, (qR HO166.out), (qR HO169.out), (qR HO172.out), (qR HO175.out), (qb BK176.out), (qb BK189.out), GW189.out, GE189.out, NB176_189.out, NB189_176.out, (qW HB.out)⟩)
     ·skip
      refine box_step ?hg (N := 2) ?hd (cs := #[.int .u8 0, .int .u8 0, .int .u16 0, .int .i64 0]) (t := 56) ?hr ?_; (case hd => rfl); (case hg => rfl); (case hr => first | (go_simp; done) | (go_simp; rfl))
      intro gb189 hg w28 hbox hb
      have n0_ := Aside0.mk (Kd.R_below (qR HO166.out) hb)
      have n1_ := Aside0.mk (Kd.R_below (qR HO169.out) hb)
      have n2_ := Aside0.mk (Kd.R_below (qR HO172.out) hb)
      have n3_ := Aside0.mk (Kd.R_below (qR HO175.out) hb)
      have n4_ := Aside0.mk (blk_below (qb BK176.out) hb)
      have n5_ := Aside0.mk (below_step (qW HB.out) hb)
      have n6_ := Aside0.mk (hbox)
      have n7_ := Aside0.mk ((by rw [hg]; exact (below_size (qW HB.out)) : w.heap.size ≤ gb189))
      have n8_ := Aside0.mk ((by rw [hg]; exact (below_size (qW HB.out)) : w.heap.size ≤ gb189))
      have n9_ := Aside0.mk ((by rw [hg]; exact Nat.ne_of_lt (blk_lt (qb BK176.out)) : gb176 ≠ gb189))
      have n10_ := Aside0.mk ((by rw [hg]; exact Nat.ne_of_gt (blk_lt (qb BK176.out)) : gb189 ≠ gb176))
      clear HO166
      clear HO169
      clear HO172
      clear HO175
      clear BK176
      clear HB
      have HO166 := n0_
      have HO169 := n1_
      have HO172 := n2_
      have HO175 := n3_
      have BK176 := n4_
      have HB := n5_
      have BK189 := n6_
      have GW189 := n7_
      have GE189 := n8_
      have NB176_189 := n9_
      have NB189_176 := n10_
      clear n0_ n1_ n2_ n3_ n4_ n5_ n6_ n7_ n8_ n9_ n10_
      clear hb hbox hg
      refine hK.out _ _ ⟨(blk_cell BK176.out 0).trans rfl, (blk_cell BK176.out 1).trans rfl, (blk_cell BK176.out 2).trans rfl, (blk_cell BK176.out 3).trans rfl⟩ (fun hHeld => ?_)
      clear hK K
      refine norm_ (a' := ?_) ?_ ?_
      rotate_left
      ·show Act.put _ (some 2) _ = _
       simp only [Act.put, List.setIfInBounds_toArray, List.set_cons_zero, List.set_cons_succ, i64_w, i32_w]
       rfl
      refine one_ (i := 1) (N := some 7) #[true, true, false, false, true, false] rfl rfl (by kernel_rfl) (by decide) (fun K hK => ?_)
      refine goes_ Try.func65 (by kernel_rfl) rfl #[] (by rfl) rfl rfl (by (try simp only [List.map_toArray, List.map_cons, List.map_nil]); first | done | rfl | (simp only [List.length_drop, List.length_take]; rfl)) ?_
      with_reducible refine (garderoberef16_Null.calls  t177 t178 t179 t180 _ A2.out).mono ?_
      rintro e w29 ⟨rfl, hb⟩
      refine ⟨_, rfl, ?_⟩
      have n0_ := Aside0.mk (Kd.R_below (qR HO166.out) hb)
      have n1_ := Aside0.mk (Kd.R_below (qR HO169.out) hb)
      have n2_ := Aside0.mk (Kd.R_below (qR HO172.out) hb)
      have n3_ := Aside0.mk (Kd.R_below (qR HO175.out) hb)
      have n4_ := Aside0.mk (blk_below (qb BK176.out) hb)
      have n5_ := Aside0.mk (blk_below (qb BK189.out) hb)
      have n6_ := Aside0.mk (below_step (qW HB.out) hb)
      clear HO166
      clear HO169
      clear HO172
      clear HO175
      clear BK176
      clear BK189
      clear HB
      have HO166 := n0_
      have HO169 := n1_
      have HO172 := n2_
      have HO175 := n3_
      have BK176 := n4_
      have BK189 := n5_
      have HB := n6_
      clear n0_ n1_ n2_ n3_ n4_ n5_ n6_
      (try clear hb)
      (try clear hb2)
      (try clear hk)
      (try clear hi)
      refine hK.out _ _ ⟨(blk_cell BK176.out 0).trans rfl, (blk_cell BK176.out 1).trans rfl, (blk_cell BK176.out 2).trans rfl, (blk_cell BK176.out 3).trans rfl⟩ (fun hHeld => ?_)
      clear hK K
      refine norm_ (a' := ?_) ?_ ?_
      rotate_left
      ·show Act.put _ (some 7) _ = _
       simp only [Act.put, List.setIfInBounds_toArray, List.set_cons_zero, List.set_cons_succ, i64_w, i32_w]
       rfl
      refine one_ (i := 2) (N := some 8) #[true, true, true, false, true, false] rfl rfl (by kernel_rfl) (by decide) (fun K hK => ?_)
      refine goes_ Try.func66 (by kernel_rfl) rfl #[.int .u8 6, .int .i64 0] (by rfl) rfl rfl (by (try simp only [List.map_toArray, List.map_cons, List.map_nil]); first | done | rfl | (simp only [List.length_drop, List.length_take]; rfl)) ?_
      with_reducible refine (garderoberef16_Ref.calls 6 0 t181 t182 t183 t184 _ A3.out).mono ?_
      rintro e w30 ⟨rfl, hb⟩
      refine ⟨_, rfl, ?_⟩
      have n0_ := Aside0.mk (Kd.R_below (qR HO166.out) hb)
      have n1_ := Aside0.mk (Kd.R_below (qR HO169.out) hb)
      have n2_ := Aside0.mk (Kd.R_below (qR HO172.out) hb)
      have n3_ := Aside0.mk (Kd.R_below (qR HO175.out) hb)
      have n4_ := Aside0.mk (blk_below (qb BK176.out) hb)
      have n5_ := Aside0.mk (blk_below (qb BK189.out) hb)
      have n6_ := Aside0.mk (below_step (qW HB.out) hb)
      clear HO166
      clear HO169
      clear HO172
      clear HO175
      clear BK176
      clear BK189
      clear HB
      have HO166 := n0_
      have HO169 := n1_
      have HO172 := n2_
      have HO175 := n3_
      have BK176 := n4_
      have BK189 := n5_
      have HB := n6_
      clear n0_ n1_ n2_ n3_ n4_ n5_ n6_
      (try clear hb)
      (try clear hb2)
      (try clear hk)
      (try clear hi)
      refine hK.out _ _ ⟨(blk_cell BK176.out 0).trans rfl, (blk_cell BK176.out 1).trans rfl, (blk_cell BK176.out 2).trans rfl, (blk_cell BK176.out 3).trans rfl⟩ (fun hHeld => ?_)
      clear hK K
      refine norm_ (a' := ?_) ?_ ?_
      rotate_left
      ·show Act.put _ (some 8) _ = _
       simp only [Act.put, List.setIfInBounds_toArray, List.set_cons_zero, List.set_cons_succ, i64_w, i32_w]
       rfl
      refine one_ (i := 3) (N := some 9) #[true, true, true, true, true, false] rfl rfl (by kernel_rfl) (by decide) (fun K hK => ?_)
      refine goes_ Try.func34 (by kernel_rfl) rfl #[.agg #[.slice Ao21 t164.length co21, .slice Ao23 t167.length co23, .slice Ao24 t170.length co24, .slice Ao25 t173.length co25], .agg #[.int .u8 t177, .int .u8 t178, .int .u16 t179, .int .i64 t180], .agg #[.int .u8 t181, .int .u8 t182, .int .u16 t183, .int .i64 t184]] (by rfl) rfl rfl (by (try simp only [List.map_toArray, List.map_cons, List.map_nil]); first | done | rfl | (simp only [List.length_drop, List.length_take]; rfl)) ?_
      with_reducible refine (vals_Join.calls k _ _ t164 _ _ t167 _ _ t170 _ _ t173 t177 t178 t179 t180 t181 t182 t183 t184 t185 t186 t187 t188 _ ?side1 ?side2 ?side3 ?side4 ?side5 ?side6 ?side7 ?side8 A4.out).mono ?_
      (case side1 => exact qC (Kd.R_reads' HO166.out).2.2)
      (case side2 => exact (Kd.R_reads' HO166.out).2.1)
      (case side3 => exact qC (Kd.R_reads' HO169.out).2.2)
      (case side4 => exact (Kd.R_reads' HO169.out).2.1)
      (case side5 => exact qC (Kd.R_reads' HO172.out).2.2)
      (case side6 => exact (Kd.R_reads' HO172.out).2.1)
      (case side7 => exact qC (Kd.R_reads' HO175.out).2.2)
      (case side8 => exact (Kd.R_reads' HO175.out).2.1)
      rintro e w31 ⟨rfl, hb⟩
      refine ⟨_, rfl, ?_⟩
      have n0_ := Aside0.mk (Kd.R_below (qR HO166.out) hb)
      have n1_ := Aside0.mk (Kd.R_below (qR HO169.out) hb)
      have n2_ := Aside0.mk (Kd.R_below (qR HO172.out) hb)
      have n3_ := Aside0.mk (Kd.R_below (qR HO175.out) hb)
      have n4_ := Aside0.mk (blk_below (qb BK176.out) hb)
      have n5_ := Aside0.mk (blk_below (qb BK189.out) hb)
      have n6_ := Aside0.mk (below_step (qW HB.out) hb)
      clear HO166
      clear HO169
      clear HO172
      clear HO175
      clear BK176
      clear BK189
      clear HB
      have HO166 := n0_
      have HO169 := n1_
      have HO172 := n2_
      have HO175 := n3_
      have BK176 := n4_
      have BK189 := n5_
      have HB := n6_
      clear n0_ n1_ n2_ n3_ n4_ n5_ n6_
      (try clear hb)
      (try clear hb2)
      (try clear hk)
      (try clear hi)
      refine hK.out _ _ ⟨(blk_cell BK176.out 0).trans rfl, (blk_cell BK176.out 1).trans rfl, (blk_cell BK176.out 2).trans rfl, (blk_cell BK176.out 3).trans rfl⟩ (fun hHeld => ?_)
      clear hK K
      refine norm_ (a' := ?_) ?_ ?_
      rotate_left
      ·show Act.put _ (some 9) _ = _
       simp only [Act.put, List.setIfInBounds_toArray, List.set_cons_zero, List.set_cons_succ, i64_w, i32_w]
       rfl
      exact norm_ (by simp only [putAll, Act.put, List.setIfInBounds_toArray, List.set_cons_zero, List.set_cons_succ]) (hCont (gb189) _ ⟨hHeld, (qR HO166.out), (qR HO169.out), (qR HO172.out), (qR HO175.out), (qb BK176.out), (qb BK189.out), GW189.out, GE189.out, NB176_189.out, NB189_176.out, (qW HB.out)⟩)
    rintro gb189 w32 ⟨hS_, h0_, h1_, h2_, h3_, h4_, h5_, h6_, h7_, h8_, h9_, h10_⟩
    have n0_ : Aside0 (Kd.R k103 103 w32 w.heap.size (fun _ => True) (.slice Ao21 t164.length co21) t164) := ⟨h0_⟩
    have n1_ : Aside0 (Kd.R k38 38 w32 w.heap.size (fun _ => True) (.slice Ao23 t167.length co23) t167) := ⟨h1_⟩
    have n2_ : Aside0 (Kd.R k206 206 w32 w.heap.size (fun _ => True) (.slice Ao24 t170.length co24) t170) := ⟨h2_⟩
    have n3_ : Aside0 (Kd.R k117 117 w32 w.heap.size (fun _ => True) (.slice Ao25 t173.length co25) t173) := ⟨h3_⟩
    have n4_ : Aside0 (w32.heap[gb176]? = some (.cells #[.slice Ao21 t164.length co21, .slice Ao23 t167.length co23, .slice Ao24 t170.length co24, .slice Ao25 t173.length co25] 27 (0, 0))) := ⟨h4_⟩
    have n5_ : Aside0 (w32.heap[gb189]? = some (.cells #[.int .u8 0, .int .u8 0, .int .u16 0, .int .i64 0] 56 (0, 0))) := ⟨h5_⟩
    have n6_ : Aside0 (w.heap.size ≤ gb189) := ⟨h6_⟩
    have n7_ : Aside0 (w.heap.size ≤ gb189) := ⟨h7_⟩
    have n8_ : Aside0 (gb176 ≠ gb189) := ⟨h8_⟩
    have n9_ : Aside0 (gb189 ≠ gb176) := ⟨h9_⟩
    have n10_ : Aside0 (Below w.heap.size w w32) := ⟨h10_⟩
    clear HO166
    clear HO169
    clear HO172
    clear HO175
    clear BK176
    clear HB
    clear h0_ h1_ h2_ h3_ h4_ h5_ h6_ h7_ h8_ h9_ h10_
    have HO166 := n0_
    have HO169 := n1_
    have HO172 := n2_
    have HO175 := n3_
    have BK176 := n4_
    have BK189 := n5_
    have GW189 := n6_
    have GE189 := n7_
    have NB176_189 := n8_
    have NB189_176 := n9_
    have HB := n10_
    clear n0_ n1_ n2_ n3_ n4_ n5_ n6_ n7_ n8_ n9_ n10_
    have hHeld : w32.cell? ⟨gb176, 0, none⟩ = some (.slice Ao21 t164.length co21) ∧ w32.cell? ⟨gb176, 1, none⟩ = some (.slice Ao23 t167.length co23) ∧ w32.cell? ⟨gb176, 2, none⟩ = some (.slice Ao24 t170.length co24) ∧ w32.cell? ⟨gb176, 3, none⟩ = some (.slice Ao25 t173.length co25) := hS_
    refine norm_ (a' := ?_) ?_ ?_
    rotate_left
    ·simp only [putAll, Act.put, List.setIfInBounds_toArray, List.set_cons_zero, List.set_cons_succ]
     rfl
    refine one_ (i := 5) (N := none) #[true, true, true, true, true, true] rfl rfl (by kernel_rfl) (by decide) (fun K hK => ?_)
    have hs33 : w32.cell? ⟨gb189, 0, none⟩ = some (.int .u8 0) := (blk_cell BK189.out 0).trans rfl
    have hfs33 := blk_frozen BK189.out 0
    have hns33_0 := NB176_189.out
    have hms33_0 := NB189_176.out
    have hs34 : w32.cell? ⟨gb189, 1, none⟩ = some (.int .u8 0) := (blk_cell BK189.out 1).trans rfl
    have hfs34 := blk_frozen BK189.out 1
    have hns34_0 := NB176_189.out
    have hms34_0 := NB189_176.out
    have hs35 : w32.cell? ⟨gb189, 2, none⟩ = some (.int .u16 0) := (blk_cell BK189.out 2).trans rfl
    have hfs35 := blk_frozen BK189.out 2
    have hns35_0 := NB176_189.out
    have hms35_0 := NB189_176.out
    have hs36 : w32.cell? ⟨gb189, 3, none⟩ = some (.int .i64 0) := (blk_cell BK189.out 3).trans rfl
    have hfs36 := blk_frozen BK189.out 3
    have hns36_0 := NB176_189.out
    have hms36_0 := NB189_176.out
    refine skip_ (w1 := ?_) (by rfl) rfl ?_ ?_
    rotate_left
    ·go_simp
     rfl
    refine hK.out _ _ ⟨((cell_far (p := ⟨gb189, _, none⟩) NB176_189.out _).trans (((cell_far (p := ⟨gb189, _, none⟩) NB176_189.out _).trans (((cell_far (p := ⟨gb189, _, none⟩) NB176_189.out _).trans (((cell_far (p := ⟨gb189, _, none⟩) NB176_189.out _).trans (hHeld.1)))))))), ((cell_far (p := ⟨gb189, _, none⟩) NB176_189.out _).trans (((cell_far (p := ⟨gb189, _, none⟩) NB176_189.out _).trans (((cell_far (p := ⟨gb189, _, none⟩) NB176_189.out _).trans (((cell_far (p := ⟨gb189, _, none⟩) NB176_189.out _).trans (hHeld.2.1)))))))), ((cell_far (p := ⟨gb189, _, none⟩) NB176_189.out _).trans (((cell_far (p := ⟨gb189, _, none⟩) NB176_189.out _).trans (((cell_far (p := ⟨gb189, _, none⟩) NB176_189.out _).trans (((cell_far (p := ⟨gb189, _, none⟩) NB176_189.out _).trans (hHeld.2.2.1)))))))), ((cell_far (p := ⟨gb189, _, none⟩) NB176_189.out _).trans (((cell_far (p := ⟨gb189, _, none⟩) NB176_189.out _).trans (((cell_far (p := ⟨gb189, _, none⟩) NB176_189.out _).trans (((cell_far (p := ⟨gb189, _, none⟩) NB176_189.out _).trans (hHeld.2.2.2))))))))⟩ (fun hHeld => ?_)
    clear hK K
    refine done_ (by kernel_rfl) ?_
    try go_wp2
    have n0_ : Aside0 (Kd.R k103 103 ((((w32.setCell ⟨gb189, 0, none⟩ (.int .u8 t185)).setCell ⟨gb189, 1, none⟩ (.int .u8 t186)).setCell ⟨gb189, 2, none⟩ (.int .u16 t187)).setCell ⟨gb189, 3, none⟩ (.int .i64 t188)) w.heap.size (fun _ => True) (.slice Ao21 t164.length co21) t164) := ⟨by (with_reducible repeat (first | apply Kd.R_alloc | apply Kd.R_drewN | apply Kd.R_drew)); exact Kd.R_mono (Kd.R_far (p := ⟨gb189, 3, none⟩) (Kd.R_far (p := ⟨gb189, 2, none⟩) (Kd.R_far (p := ⟨gb189, 1, none⟩) (Kd.R_far (p := ⟨gb189, 0, none⟩) (Kd.R_types HO166.out BK189.out (by decide)) (fun _ hk => hk.2) (.int .u8 t185)) (fun _ hk => hk.2) (.int .u8 t186)) (fun _ hk => hk.2) (.int .u16 t187)) (fun _ hk => hk.2) (.int .i64 t188)) (fun _ hk => trivial)⟩
    have n1_ : Aside0 (Kd.R k38 38 ((((w32.setCell ⟨gb189, 0, none⟩ (.int .u8 t185)).setCell ⟨gb189, 1, none⟩ (.int .u8 t186)).setCell ⟨gb189, 2, none⟩ (.int .u16 t187)).setCell ⟨gb189, 3, none⟩ (.int .i64 t188)) w.heap.size (fun _ => True) (.slice Ao23 t167.length co23) t167) := ⟨by (with_reducible repeat (first | apply Kd.R_alloc | apply Kd.R_drewN | apply Kd.R_drew)); exact Kd.R_mono (Kd.R_far (p := ⟨gb189, 3, none⟩) (Kd.R_far (p := ⟨gb189, 2, none⟩) (Kd.R_far (p := ⟨gb189, 1, none⟩) (Kd.R_far (p := ⟨gb189, 0, none⟩) (Kd.R_types HO169.out BK189.out (by decide)) (fun _ hk => hk.2) (.int .u8 t185)) (fun _ hk => hk.2) (.int .u8 t186)) (fun _ hk => hk.2) (.int .u16 t187)) (fun _ hk => hk.2) (.int .i64 t188)) (fun _ hk => trivial)⟩
    have n2_ : Aside0 (Kd.R k206 206 ((((w32.setCell ⟨gb189, 0, none⟩ (.int .u8 t185)).setCell ⟨gb189, 1, none⟩ (.int .u8 t186)).setCell ⟨gb189, 2, none⟩ (.int .u16 t187)).setCell ⟨gb189, 3, none⟩ (.int .i64 t188)) w.heap.size (fun _ => True) (.slice Ao24 t170.length co24) t170) := ⟨by (with_reducible repeat (first | apply Kd.R_alloc | apply Kd.R_drewN | apply Kd.R_drew)); exact Kd.R_mono (Kd.R_far (p := ⟨gb189, 3, none⟩) (Kd.R_far (p := ⟨gb189, 2, none⟩) (Kd.R_far (p := ⟨gb189, 1, none⟩) (Kd.R_far (p := ⟨gb189, 0, none⟩) (Kd.R_types HO172.out BK189.out (by decide)) (fun _ hk => hk.2) (.int .u8 t185)) (fun _ hk => hk.2) (.int .u8 t186)) (fun _ hk => hk.2) (.int .u16 t187)) (fun _ hk => hk.2) (.int .i64 t188)) (fun _ hk => trivial)⟩
    have n3_ : Aside0 (Kd.R k117 117 ((((w32.setCell ⟨gb189, 0, none⟩ (.int .u8 t185)).setCell ⟨gb189, 1, none⟩ (.int .u8 t186)).setCell ⟨gb189, 2, none⟩ (.int .u16 t187)).setCell ⟨gb189, 3, none⟩ (.int .i64 t188)) w.heap.size (fun _ => True) (.slice Ao25 t173.length co25) t173) := ⟨by (with_reducible repeat (first | apply Kd.R_alloc | apply Kd.R_drewN | apply Kd.R_drew)); exact Kd.R_mono (Kd.R_far (p := ⟨gb189, 3, none⟩) (Kd.R_far (p := ⟨gb189, 2, none⟩) (Kd.R_far (p := ⟨gb189, 1, none⟩) (Kd.R_far (p := ⟨gb189, 0, none⟩) (Kd.R_types HO175.out BK189.out (by decide)) (fun _ hk => hk.2) (.int .u8 t185)) (fun _ hk => hk.2) (.int .u8 t186)) (fun _ hk => hk.2) (.int .u16 t187)) (fun _ hk => hk.2) (.int .i64 t188)) (fun _ hk => trivial)⟩
    have n4_ : Aside0 (((((w32.setCell ⟨gb189, 0, none⟩ (.int .u8 t185)).setCell ⟨gb189, 1, none⟩ (.int .u8 t186)).setCell ⟨gb189, 2, none⟩ (.int .u16 t187)).setCell ⟨gb189, 3, none⟩ (.int .i64 t188)).heap[gb176]? = some (.cells #[.slice Ao21 t164.length co21, .slice Ao23 t167.length co23, .slice Ao24 t170.length co24, .slice Ao25 t173.length co25] 27 (0, 0))) := ⟨qf BK176.out⟩
    have n5_ : Aside0 (((((w32.setCell ⟨gb189, 0, none⟩ (.int .u8 t185)).setCell ⟨gb189, 1, none⟩ (.int .u8 t186)).setCell ⟨gb189, 2, none⟩ (.int .u16 t187)).setCell ⟨gb189, 3, none⟩ (.int .i64 t188)).heap[gb189]? = some (.cells #[.int .u8 t185, .int .u8 t186, .int .u16 t187, .int .i64 t188] 56 (0, 0))) := ⟨by (with_reducible repeat (first | refine blk_drewN ?_ _ | refine blk_drew ?_ | refine blk_alloc ?_ _)); refine blk_put (cs := #[.int .u8 t185, .int .u8 t186, .int .u16 t187, .int .i64 0]) ?_ 3 _ rfl; (with_reducible repeat (first | refine blk_drewN ?_ _ | refine blk_drew ?_ | refine blk_alloc ?_ _)); refine blk_put (cs := #[.int .u8 t185, .int .u8 t186, .int .u16 0, .int .i64 0]) ?_ 2 _ rfl; (with_reducible repeat (first | refine blk_drewN ?_ _ | refine blk_drew ?_ | refine blk_alloc ?_ _)); refine blk_put (cs := #[.int .u8 t185, .int .u8 0, .int .u16 0, .int .i64 0]) ?_ 1 _ rfl; (with_reducible repeat (first | refine blk_drewN ?_ _ | refine blk_drew ?_ | refine blk_alloc ?_ _)); refine blk_put (cs := #[.int .u8 0, .int .u8 0, .int .u16 0, .int .i64 0]) ?_ 0 _ rfl; (with_reducible repeat (first | refine blk_drewN ?_ _ | refine blk_drew ?_ | refine blk_alloc ?_ _)); exact BK189.out⟩
    have n6_ : Aside0 (Below w.heap.size w ((((w32.setCell ⟨gb189, 0, none⟩ (.int .u8 t185)).setCell ⟨gb189, 1, none⟩ (.int .u8 t186)).setCell ⟨gb189, 2, none⟩ (.int .u16 t187)).setCell ⟨gb189, 3, none⟩ (.int .i64 t188))) := ⟨qW HB.out⟩
    (try clear HO166)
    (try clear HO169)
    (try clear HO172)
    (try clear HO175)
    (try clear BK176)
    (try clear BK189)
    (try clear HB)
    generalize ((((w32.setCell ⟨gb189, 0, none⟩ (.int .u8 t185)).setCell ⟨gb189, 1, none⟩ (.int .u8 t186)).setCell ⟨gb189, 2, none⟩ (.int .u16 t187)).setCell ⟨gb189, 3, none⟩ (.int .i64 t188)) = w37 at n0_ n1_ n2_ n3_ n4_ n5_ n6_ ⊢
    have HO166 := n0_
    have HO169 := n1_
    have HO172 := n2_
    have HO175 := n3_
    have BK176 := n4_
    have BK189 := n5_
    have HB := n6_
    clear n0_ n1_ n2_ n3_ n4_ n5_ n6_
    have n0_ := Aside0.mk (Kd.R_drew HO166.out)
    have n1_ := Aside0.mk (Kd.R_drew HO169.out)
    have n2_ := Aside0.mk (Kd.R_drew HO172.out)
    have n3_ := Aside0.mk (Kd.R_drew HO175.out)
    have n4_ := Aside0.mk (blk_drew BK176.out)
    have n5_ := Aside0.mk (blk_drew BK189.out)
    have n6_ := Aside0.mk (below_drew1 HB.out)
    clear HO166
    clear HO169
    clear HO172
    clear HO175
    clear BK176
    clear BK189
    clear HB
    have HO166 := n0_
    have HO169 := n1_
    have HO172 := n2_
    have HO175 := n3_
    have BK176 := n4_
    have BK189 := n5_
    have HB := n6_
    clear n0_ n1_ n2_ n3_ n4_ n5_ n6_
    refine start_ (n := 6) (S := fun w' => w'.cell? ⟨gb176, 0, none⟩ = some (.slice Ao21 t164.length co21) ∧ w'.cell? ⟨gb176, 1, none⟩ = some (.slice Ao23 t167.length co23) ∧ w'.cell? ⟨gb176, 2, none⟩ = some (.slice Ao24 t170.length co24) ∧ w'.cell? ⟨gb176, 3, none⟩ = some (.slice Ao25 t173.length co25)) (ds := []) #[false, false, false, false, false, false] (by kernel_rfl) rfl rfl ⟨(blk_cell BK176.out 0).trans rfl, (blk_cell BK176.out 1).trans rfl, (blk_cell BK176.out 2).trans rfl, (blk_cell BK176.out 3).trans rfl⟩ (fun hHeld => ?_)
    generalize w37.drew = w38 at HO166 HO169 HO172 HO175 BK176 BK189 HB hHeld ⊢
    refine take_ (i := 0) (N := some 10) (v := ?_) (a' := ?_) #[true, false, false, false, false, false] rfl rfl (by kernel_rfl) (fun _ _ _ h => h) (Or.inl ⟨by rfl, ?_⟩) hHeld ?_ ?_
    rotate_left
    ·rintro w' ⟨s0, s1, s2, s3⟩
     go_simp
     with_reducible rfl
    rotate_left
    ·simp only [Act.put, List.setIfInBounds_toArray, List.set_cons_zero, List.set_cons_succ, i64_w, i32_w]
     rfl
    refine join_ (σ := Nat) 1 #[true, true, true, true, true, false] (fun s_ => [(11, .agg #[.int .u8 t190, .int .u8 t191, .int .u16 t192, .int .i64 t193]), (12, .agg #[.int .u8 t194, .int .u8 t195, .int .u16 t196, .int .i64 t197]), (13, .agg #[.int .u8 t198, .int .u8 t199, .int .u16 t200, .int .i64 t201]), (3, .pointer (some ⟨s_, 0, none⟩))]) (fun s_ w' => (w'.cell? ⟨gb176, 0, none⟩ = some (.slice Ao21 t164.length co21) ∧ w'.cell? ⟨gb176, 1, none⟩ = some (.slice Ao23 t167.length co23) ∧ w'.cell? ⟨gb176, 2, none⟩ = some (.slice Ao24 t170.length co24) ∧ w'.cell? ⟨gb176, 3, none⟩ = some (.slice Ao25 t173.length co25)) ∧ (Kd.R k103 103 w' w.heap.size (fun _ => True) (.slice Ao21 t164.length co21) t164) ∧ (Kd.R k38 38 w' w.heap.size (fun _ => True) (.slice Ao23 t167.length co23) t167) ∧ (Kd.R k206 206 w' w.heap.size (fun _ => True) (.slice Ao24 t170.length co24) t170) ∧ (Kd.R k117 117 w' w.heap.size (fun _ => True) (.slice Ao25 t173.length co25) t173) ∧ (w'.heap[gb176]? = some (.cells #[.slice Ao21 t164.length co21, .slice Ao23 t167.length co23, .slice Ao24 t170.length co24, .slice Ao25 t173.length co25] 27 (0, 0))) ∧ (w'.heap[gb189]? = some (.cells #[.int .u8 t185, .int .u8 t186, .int .u16 t187, .int .i64 t188] 56 (0, 0))) ∧ (w'.heap[s_]? = some (.cells #[.int .u8 0, .int .u8 0, .int .u16 0, .int .i64 0] 56 (0, 0))) ∧ (w.heap.size ≤ s_) ∧ (w.heap.size ≤ s_) ∧ (gb176 ≠ s_) ∧ (s_ ≠ gb176) ∧ (gb189 ≠ s_) ∧ (s_ ≠ gb189) ∧ (Below w.heap.size w w')) ?_ ?_
    rotate_left
    ·intro hCont
     refine two_ (i := 1) (j := 4) (Ni := some 11) (Nj := some 3) #[true, true, false, false, false, false] #[true, false, false, false, true, false] rfl rfl rfl rfl (by kernel_rfl) (by decide) (by decide) (fun K hK => ?_) (fun K hK => ?_)
     ·skip
      refine goes_ Try.func66 (by kernel_rfl) rfl #[.int .u8 4, .int .i64 2] (by rfl) rfl rfl (by (try simp only [List.map_toArray, List.map_cons, List.map_nil]); first | done | rfl | (simp only [List.length_drop, List.length_take]; rfl)) ?_
      with_reducible refine (garderoberef16_Ref.calls 4 2 t190 t191 t192 t193 _ A5.out).mono ?_
      rintro e w39 ⟨rfl, hb⟩
      refine ⟨_, rfl, ?_⟩
      have n0_ := Aside0.mk (Kd.R_below (qR HO166.out) hb)
      have n1_ := Aside0.mk (Kd.R_below (qR HO169.out) hb)
      have n2_ := Aside0.mk (Kd.R_below (qR HO172.out) hb)
      have n3_ := Aside0.mk (Kd.R_below (qR HO175.out) hb)
      have n4_ := Aside0.mk (blk_below (qb BK176.out) hb)
      have n5_ := Aside0.mk (blk_below (qb BK189.out) hb)
      have n6_ := Aside0.mk (below_step (qW HB.out) hb)
      clear HO166
      clear HO169
      clear HO172
      clear HO175
      clear BK176
      clear BK189
      clear HB
      have HO166 := n0_
      have HO169 := n1_
      have HO172 := n2_
      have HO175 := n3_
      have BK176 := n4_
      have BK189 := n5_
      have HB := n6_
      clear n0_ n1_ n2_ n3_ n4_ n5_ n6_
      (try clear hb)
      (try clear hb2)
      (try clear hk)
      (try clear hi)
      refine hK.out _ _ ⟨(blk_cell BK176.out 0).trans rfl, (blk_cell BK176.out 1).trans rfl, (blk_cell BK176.out 2).trans rfl, (blk_cell BK176.out 3).trans rfl⟩ (fun hHeld => ?_)
      clear hK K
      refine norm_ (a' := ?_) ?_ ?_
      rotate_left
      ·show Act.put _ (some 11) _ = _
       simp only [Act.put, List.setIfInBounds_toArray, List.set_cons_zero, List.set_cons_succ, i64_w, i32_w]
       rfl
      refine two_ (i := 2) (j := 4) (Ni := some 12) (Nj := some 3) #[true, true, true, false, false, false] #[true, true, false, false, true, false] rfl rfl rfl rfl (by kernel_rfl) (by decide) (by decide) (fun K hK => ?_) (fun K hK => ?_)
      ·skip
       refine goes_ Try.func66 (by kernel_rfl) rfl #[.int .u8 4, .int .i64 11] (by rfl) rfl rfl (by (try simp only [List.map_toArray, List.map_cons, List.map_nil]); first | done | rfl | (simp only [List.length_drop, List.length_take]; rfl)) ?_
       with_reducible refine (garderoberef16_Ref.calls 4 11 t194 t195 t196 t197 _ A6.out).mono ?_
       rintro e w40 ⟨rfl, hb⟩
       refine ⟨_, rfl, ?_⟩
       have n0_ := Aside0.mk (Kd.R_below (qR HO166.out) hb)
       have n1_ := Aside0.mk (Kd.R_below (qR HO169.out) hb)
       have n2_ := Aside0.mk (Kd.R_below (qR HO172.out) hb)
       have n3_ := Aside0.mk (Kd.R_below (qR HO175.out) hb)
       have n4_ := Aside0.mk (blk_below (qb BK176.out) hb)
       have n5_ := Aside0.mk (blk_below (qb BK189.out) hb)
       have n6_ := Aside0.mk (below_step (qW HB.out) hb)
       clear HO166
       clear HO169
       clear HO172
       clear HO175
       clear BK176
       clear BK189
       clear HB
       have HO166 := n0_
       have HO169 := n1_
       have HO172 := n2_
       have HO175 := n3_
       have BK176 := n4_
       have BK189 := n5_
       have HB := n6_
       clear n0_ n1_ n2_ n3_ n4_ n5_ n6_
       (try clear hb)
       (try clear hb2)
       (try clear hk)
       (try clear hi)
       refine hK.out _ _ ⟨(blk_cell BK176.out 0).trans rfl, (blk_cell BK176.out 1).trans rfl, (blk_cell BK176.out 2).trans rfl, (blk_cell BK176.out 3).trans rfl⟩ (fun hHeld => ?_)
       clear hK K
       refine norm_ (a' := ?_) ?_ ?_
       rotate_left
       ·show Act.put _ (some 12) _ = _
        simp only [Act.put, List.setIfInBounds_toArray, List.set_cons_zero, List.set_cons_succ, i64_w, i32_w]
        rfl
       refine two_ (i := 3) (j := 4) (Ni := some 13) (Nj := some 3) #[true, true, true, true, false, false] #[true, true, true, false, true, false] rfl rfl rfl rfl (by kernel_rfl) (by decide) (by decide) (fun K hK => ?_) (fun K hK => ?_)
       ·skip
        refine goes_ Try.func34 (by kernel_rfl) rfl #[.agg #[.slice Ao21 t164.length co21, .slice Ao23 t167.length co23, .slice Ao24 t170.length co24, .slice Ao25 t173.length co25], .agg #[.int .u8 t190, .int .u8 t191, .int .u16 t192, .int .i64 t193], .agg #[.int .u8 t194, .int .u8 t195, .int .u16 t196, .int .i64 t197]] (by rfl) rfl rfl (by (try simp only [List.map_toArray, List.map_cons, List.map_nil]); first | done | rfl | (simp only [List.length_drop, List.length_take]; rfl)) ?_
        with_reducible refine (vals_Join.calls k _ _ t164 _ _ t167 _ _ t170 _ _ t173 t190 t191 t192 t193 t194 t195 t196 t197 t198 t199 t200 t201 _ ?side1 ?side2 ?side3 ?side4 ?side5 ?side6 ?side7 ?side8 A7.out).mono ?_
        (case side1 => exact qC (Kd.R_reads' HO166.out).2.2)
        (case side2 => exact (Kd.R_reads' HO166.out).2.1)
        (case side3 => exact qC (Kd.R_reads' HO169.out).2.2)
        (case side4 => exact (Kd.R_reads' HO169.out).2.1)
        (case side5 => exact qC (Kd.R_reads' HO172.out).2.2)
        (case side6 => exact (Kd.R_reads' HO172.out).2.1)
        (case side7 => exact qC (Kd.R_reads' HO175.out).2.2)
        (case side8 => exact (Kd.R_reads' HO175.out).2.1)
        rintro e w41 ⟨rfl, hb⟩
        refine ⟨_, rfl, ?_⟩
        have n0_ := Aside0.mk (Kd.R_below (qR HO166.out) hb)
        have n1_ := Aside0.mk (Kd.R_below (qR HO169.out) hb)
        have n2_ := Aside0.mk (Kd.R_below (qR HO172.out) hb)
        have n3_ := Aside0.mk (Kd.R_below (qR HO175.out) hb)
        have n4_ := Aside0.mk (blk_below (qb BK176.out) hb)
        have n5_ := Aside0.mk (blk_below (qb BK189.out) hb)
        have n6_ := Aside0.mk (below_step (qW HB.out) hb)
        clear HO166
        clear HO169
        clear HO172
        clear HO175
        clear BK176
        clear BK189
        clear HB
        have HO166 := n0_
        have HO169 := n1_
        have HO172 := n2_
        have HO175 := n3_
        have BK176 := n4_
        have BK189 := n5_
        have HB := n6_
        clear n0_ n1_ n2_ n3_ n4_ n5_ n6_
        (try clear hb)
        (try clear hb2)
        (try clear hk)
        (try clear hi)
        refine hK.out _ _ ⟨(blk_cell BK176.out 0).trans rfl, (blk_cell BK176.out 1).trans rfl, (blk_cell BK176.out 2).trans rfl, (blk_cell BK176.out 3).trans rfl⟩ (fun hHeld => ?_)
        clear hK K
        refine norm_ (a' := ?_) ?_ ?_
        rotate_left
        ·show Act.put _ (some 13) _ = _
         simp only [Act.put, List.setIfInBounds_toArray, List.set_cons_zero, List.set_cons_succ, i64_w, i32_w]
         rfl
        refine one_ (i := 4) (N := some 3) #[true, true, true, true, true, false] rfl rfl (by kernel_rfl) (by decide) (fun K hK => ?_)
        refine box_step ?hg (N := 3) ?hd (cs := #[.int .u8 0, .int .u8 0, .int .u16 0, .int .i64 0]) (t := 56) ?hr ?_; (case hd => rfl); (case hg => rfl); (case hr => first | (go_simp; done) | (go_simp; rfl))
        intro gb202 hg w42 hbox hb
        have n0_ := Aside0.mk (Kd.R_below (qR HO166.out) hb)
        have n1_ := Aside0.mk (Kd.R_below (qR HO169.out) hb)
        have n2_ := Aside0.mk (Kd.R_below (qR HO172.out) hb)
        have n3_ := Aside0.mk (Kd.R_below (qR HO175.out) hb)
        have n4_ := Aside0.mk (blk_below (qb BK176.out) hb)
        have n5_ := Aside0.mk (blk_below (qb BK189.out) hb)
        have n6_ := Aside0.mk (below_step (qW HB.out) hb)
        have n7_ := Aside0.mk (hbox)
        have n8_ := Aside0.mk ((by rw [hg]; exact (below_size (qW HB.out)) : w.heap.size ≤ gb202))
        have n9_ := Aside0.mk ((by rw [hg]; exact (below_size (qW HB.out)) : w.heap.size ≤ gb202))
        have n10_ := Aside0.mk ((by rw [hg]; exact Nat.ne_of_lt (blk_lt (qb BK176.out)) : gb176 ≠ gb202))
        have n11_ := Aside0.mk ((by rw [hg]; exact Nat.ne_of_gt (blk_lt (qb BK176.out)) : gb202 ≠ gb176))
        have n12_ := Aside0.mk ((by rw [hg]; exact Nat.ne_of_lt (blk_lt (qb BK189.out)) : gb189 ≠ gb202))
        have n13_ := Aside0.mk ((by rw [hg]; exact Nat.ne_of_gt (blk_lt (qb BK189.out)) : gb202 ≠ gb189))
        clear HO166
        clear HO169
        clear HO172
        clear HO175
        clear BK176
        clear BK189
        clear HB
        have HO166 := n0_
        have HO169 := n1_
        have HO172 := n2_
        have HO175 := n3_
        have BK176 := n4_
        have BK189 := n5_
        have HB := n6_
        have BK202 := n7_
        have GW202 := n8_
        have GE202 := n9_
        have NB176_202 := n10_
        have NB202_176 := n11_
        have NB189_202 := n12_
        have NB202_189 := n13_
        clear n0_ n1_ n2_ n3_ n4_ n5_ n6_ n7_ n8_ n9_ n10_ n11_ n12_ n13_
        clear hb hbox hg
        refine hK.out _ _ ⟨(blk_cell BK176.out 0).trans rfl, (blk_cell BK176.out 1).trans rfl, (blk_cell BK176.out 2).trans rfl, (blk_cell BK176.out 3).trans rfl⟩ (fun hHeld => ?_)
        clear hK K
        refine norm_ (a' := ?_) ?_ ?_
        rotate_left
        ·show Act.put _ (some 3) _ = _
         simp only [Act.put, List.setIfInBounds_toArray, List.set_cons_zero, List.set_cons_succ, i64_w, i32_w]
         rfl
        exact norm_ (by simp only [putAll, Act.put, List.setIfInBounds_toArray, List.set_cons_zero, List.set_cons_succ]) (hCont (gb202) _ ⟨hHeld, (qR HO166.out), (qR HO169.out), (qR HO172.out), (qR HO175.out), (qb BK176.out), (qb BK189.out), (qb BK202.out), GW202.out, GE202.out, NB176_202.out, NB202_176.out, NB189_202.out, NB202_189.out, (qW HB.out)⟩)
       ·skip
        refine box_step ?hg (N := 3) ?hd (cs := #[.int .u8 0, .int .u8 0, .int .u16 0, .int .i64 0]) (t := 56) ?hr ?_; (case hd => rfl); (case hg => rfl); (case hr => first | (go_simp; done) | (go_simp; rfl))
        intro gb202 hg w41 hbox hb
        have n0_ := Aside0.mk (Kd.R_below (qR HO166.out) hb)
        have n1_ := Aside0.mk (Kd.R_below (qR HO169.out) hb)
        have n2_ := Aside0.mk (Kd.R_below (qR HO172.out) hb)
        have n3_ := Aside0.mk (Kd.R_below (qR HO175.out) hb)
        have n4_ := Aside0.mk (blk_below (qb BK176.out) hb)
        have n5_ := Aside0.mk (blk_below (qb BK189.out) hb)
        have n6_ := Aside0.mk (below_step (qW HB.out) hb)
        have n7_ := Aside0.mk (hbox)
        have n8_ := Aside0.mk ((by rw [hg]; exact (below_size (qW HB.out)) : w.heap.size ≤ gb202))
        have n9_ := Aside0.mk ((by rw [hg]; exact (below_size (qW HB.out)) : w.heap.size ≤ gb202))
        have n10_ := Aside0.mk ((by rw [hg]; exact Nat.ne_of_lt (blk_lt (qb BK176.out)) : gb176 ≠ gb202))
        have n11_ := Aside0.mk ((by rw [hg]; exact Nat.ne_of_gt (blk_lt (qb BK176.out)) : gb202 ≠ gb176))
        have n12_ := Aside0.mk ((by rw [hg]; exact Nat.ne_of_lt (blk_lt (qb BK189.out)) : gb189 ≠ gb202))
        have n13_ := Aside0.mk ((by rw [hg]; exact Nat.ne_of_gt (blk_lt (qb BK189.out)) : gb202 ≠ gb189))
        clear HO166
        clear HO169
        clear HO172
        clear HO175
        clear BK176
        clear BK189
        clear HB
        have HO166 := n0_
        have HO169 := n1_
        have HO172 := n2_
        have HO175 := n3_
        have BK176 := n4_
        have BK189 := n5_
        have HB := n6_
        have BK202 := n7_
        have GW202 := n8_
        have GE202 := n9_
        have NB176_202 := n10_
        have NB202_176 := n11_
        have NB189_202 := n12_
        have NB202_189 := n13_
        clear n0_ n1_ n2_ n3_ n4_ n5_ n6_ n7_ n8_ n9_ n10_ n11_ n12_ n13_
        clear hb hbox hg
        refine hK.out _ _ ⟨(blk_cell BK176.out 0).trans rfl, (blk_cell BK176.out 1).trans rfl, (blk_cell BK176.out 2).trans rfl, (blk_cell BK176.out 3).trans rfl⟩ (fun hHeld => ?_)
        clear hK K
        refine norm_ (a' := ?_) ?_ ?_
        rotate_left
        ·show Act.put _ (some 3) _ = _
         simp only [Act.put, List.setIfInBounds_toArray, List.set_cons_zero, List.set_cons_succ, i64_w, i32_w]
         rfl
        refine one_ (i := 3) (N := some 13) #[true, true, true, true, true, false] rfl rfl (by kernel_rfl) (by decide) (fun K hK => ?_)
        refine goes_ Try.func34 (by kernel_rfl) rfl #[.agg #[.slice Ao21 t164.length co21, .slice Ao23 t167.length co23, .slice Ao24 t170.length co24, .slice Ao25 t173.length co25], .agg #[.int .u8 t190, .int .u8 t191, .int .u16 t192, .int .i64 t193], .agg #[.int .u8 t194, .int .u8 t195, .int .u16 t196, .int .i64 t197]] (by rfl) rfl rfl (by (try simp only [List.map_toArray, List.map_cons, List.map_nil]); first | done | rfl | (simp only [List.length_drop, List.length_take]; rfl)) ?_
        with_reducible refine (vals_Join.calls k _ _ t164 _ _ t167 _ _ t170 _ _ t173 t190 t191 t192 t193 t194 t195 t196 t197 t198 t199 t200 t201 _ ?side1 ?side2 ?side3 ?side4 ?side5 ?side6 ?side7 ?side8 A7.out).mono ?_
        (case side1 => exact qC (Kd.R_reads' HO166.out).2.2)
        (case side2 => exact (Kd.R_reads' HO166.out).2.1)
        (case side3 => exact qC (Kd.R_reads' HO169.out).2.2)
        (case side4 => exact (Kd.R_reads' HO169.out).2.1)
        (case side5 => exact qC (Kd.R_reads' HO172.out).2.2)
        (case side6 => exact (Kd.R_reads' HO172.out).2.1)
        (case side7 => exact qC (Kd.R_reads' HO175.out).2.2)
        (case side8 => exact (Kd.R_reads' HO175.out).2.1)
        rintro e w42 ⟨rfl, hb⟩
        refine ⟨_, rfl, ?_⟩
        have n0_ := Aside0.mk (Kd.R_below (qR HO166.out) hb)
        have n1_ := Aside0.mk (Kd.R_below (qR HO169.out) hb)
        have n2_ := Aside0.mk (Kd.R_below (qR HO172.out) hb)
        have n3_ := Aside0.mk (Kd.R_below (qR HO175.out) hb)
        have n4_ := Aside0.mk (blk_below (qb BK176.out) hb)
        have n5_ := Aside0.mk (blk_below (qb BK189.out) hb)
        have n6_ := Aside0.mk (blk_below (qb BK202.out) hb)
        have n7_ := Aside0.mk (below_step (qW HB.out) hb)
        clear HO166
        clear HO169
        clear HO172
        clear HO175
        clear BK176
        clear BK189
        clear BK202
        clear HB
        have HO166 := n0_
        have HO169 := n1_
        have HO172 := n2_
        have HO175 := n3_
        have BK176 := n4_
        have BK189 := n5_
        have BK202 := n6_
        have HB := n7_
        clear n0_ n1_ n2_ n3_ n4_ n5_ n6_ n7_
        (try clear hb)
        (try clear hb2)
        (try clear hk)
        (try clear hi)
        refine hK.out _ _ ⟨(blk_cell BK176.out 0).trans rfl, (blk_cell BK176.out 1).trans rfl, (blk_cell BK176.out 2).trans rfl, (blk_cell BK176.out 3).trans rfl⟩ (fun hHeld => ?_)
        clear hK K
        refine norm_ (a' := ?_) ?_ ?_
        rotate_left
        ·show Act.put _ (some 13) _ = _
         simp only [Act.put, List.setIfInBounds_toArray, List.set_cons_zero, List.set_cons_succ, i64_w, i32_w]
         rfl
        exact norm_ (by simp only [putAll, Act.put, List.setIfInBounds_toArray, List.set_cons_zero, List.set_cons_succ]) (hCont (gb202) _ ⟨hHeld, (qR HO166.out), (qR HO169.out), (qR HO172.out), (qR HO175.out), (qb BK176.out), (qb BK189.out), (qb BK202.out), GW202.out, GE202.out, NB176_202.out, NB202_176.out, NB189_202.out, NB202_189.out, (qW HB.out)⟩)
      ·skip
       refine box_step ?hg (N := 3) ?hd (cs := #[.int .u8 0, .int .u8 0, .int .u16 0, .int .i64 0]) (t := 56) ?hr ?_; (case hd => rfl); (case hg => rfl); (case hr => first | (go_simp; done) | (go_simp; rfl))
       intro gb202 hg w40 hbox hb
       have n0_ := Aside0.mk (Kd.R_below (qR HO166.out) hb)
       have n1_ := Aside0.mk (Kd.R_below (qR HO169.out) hb)
       have n2_ := Aside0.mk (Kd.R_below (qR HO172.out) hb)
       have n3_ := Aside0.mk (Kd.R_below (qR HO175.out) hb)
       have n4_ := Aside0.mk (blk_below (qb BK176.out) hb)
       have n5_ := Aside0.mk (blk_below (qb BK189.out) hb)
       have n6_ := Aside0.mk (below_step (qW HB.out) hb)
       have n7_ := Aside0.mk (hbox)
       have n8_ := Aside0.mk ((by rw [hg]; exact (below_size (qW HB.out)) : w.heap.size ≤ gb202))
       have n9_ := Aside0.mk ((by rw [hg]; exact (below_size (qW HB.out)) : w.heap.size ≤ gb202))
       have n10_ := Aside0.mk ((by rw [hg]; exact Nat.ne_of_lt (blk_lt (qb BK176.out)) : gb176 ≠ gb202))
       have n11_ := Aside0.mk ((by rw [hg]; exact Nat.ne_of_gt (blk_lt (qb BK176.out)) : gb202 ≠ gb176))
       have n12_ := Aside0.mk ((by rw [hg]; exact Nat.ne_of_lt (blk_lt (qb BK189.out)) : gb189 ≠ gb202))
       have n13_ := Aside0.mk ((by rw [hg]; exact Nat.ne_of_gt (blk_lt (qb BK189.out)) : gb202 ≠ gb189))
       clear HO166
       clear HO169
       clear HO172
       clear HO175
       clear BK176
       clear BK189
       clear HB
       have HO166 := n0_
       have HO169 := n1_
       have HO172 := n2_
       have HO175 := n3_
       have BK176 := n4_
       have BK189 := n5_
       have HB := n6_
       have BK202 := n7_
       have GW202 := n8_
       have GE202 := n9_
       have NB176_202 := n10_
       have NB202_176 := n11_
       have NB189_202 := n12_
       have NB202_189 := n13_
       clear n0_ n1_ n2_ n3_ n4_ n5_ n6_ n7_ n8_ n9_ n10_ n11_ n12_ n13_
       clear hb hbox hg
       refine hK.out _ _ ⟨(blk_cell BK176.out 0).trans rfl, (blk_cell BK176.out 1).trans rfl, (blk_cell BK176.out 2).trans rfl, (blk_cell BK176.out 3).trans rfl⟩ (fun hHeld => ?_)
       clear hK K
       refine norm_ (a' := ?_) ?_ ?_
       rotate_left
       ·show Act.put _ (some 3) _ = _
        simp only [Act.put, List.setIfInBounds_toArray, List.set_cons_zero, List.set_cons_succ, i64_w, i32_w]
        rfl
       refine one_ (i := 2) (N := some 12) #[true, true, true, false, true, false] rfl rfl (by kernel_rfl) (by decide) (fun K hK => ?_)
       refine goes_ Try.func66 (by kernel_rfl) rfl #[.int .u8 4, .int .i64 11] (by rfl) rfl rfl (by (try simp only [List.map_toArray, List.map_cons, List.map_nil]); first | done | rfl | (simp only [List.length_drop, List.length_take]; rfl)) ?_
       with_reducible refine (garderoberef16_Ref.calls 4 11 t194 t195 t196 t197 _ A6.out).mono ?_
       rintro e w41 ⟨rfl, hb⟩
       refine ⟨_, rfl, ?_⟩
       have n0_ := Aside0.mk (Kd.R_below (qR HO166.out) hb)
       have n1_ := Aside0.mk (Kd.R_below (qR HO169.out) hb)
       have n2_ := Aside0.mk (Kd.R_below (qR HO172.out) hb)
       have n3_ := Aside0.mk (Kd.R_below (qR HO175.out) hb)
       have n4_ := Aside0.mk (blk_below (qb BK176.out) hb)
       have n5_ := Aside0.mk (blk_below (qb BK189.out) hb)
       have n6_ := Aside0.mk (blk_below (qb BK202.out) hb)
       have n7_ := Aside0.mk (below_step (qW HB.out) hb)
       clear HO166
       clear HO169
       clear HO172
       clear HO175
       clear BK176
       clear BK189
       clear BK202
       clear HB
       have HO166 := n0_
       have HO169 := n1_
       have HO172 := n2_
       have HO175 := n3_
       have BK176 := n4_
       have BK189 := n5_
       have BK202 := n6_
       have HB := n7_
       clear n0_ n1_ n2_ n3_ n4_ n5_ n6_ n7_
       (try clear hb)
       (try clear hb2)
       (try clear hk)
       (try clear hi)
       refine hK.out _ _ ⟨(blk_cell BK176.out 0).trans rfl, (blk_cell BK176.out 1).trans rfl, (blk_cell BK176.out 2).trans rfl, (blk_cell BK176.out 3).trans rfl⟩ (fun hHeld => ?_)
       clear hK K
       refine norm_ (a' := ?_) ?_ ?_
       rotate_left
       ·show Act.put _ (some 12) _ = _
        simp only [Act.put, List.setIfInBounds_toArray, List.set_cons_zero, List.set_cons_succ, i64_w, i32_w]
        rfl
       refine one_ (i := 3) (N := some 13) #[true, true, true, true, true, false] rfl rfl (by kernel_rfl) (by decide) (fun K hK => ?_)
       refine goes_ Try.func34 (by kernel_rfl) rfl #[.agg #[.slice Ao21 t164.length co21, .slice Ao23 t167.length co23, .slice Ao24 t170.length co24, .slice Ao25 t173.length co25], .agg #[.int .u8 t190, .int .u8 t191, .int .u16 t192, .int .i64 t193], .agg #[.int .u8 t194, .int .u8 t195, .int .u16 t196, .int .i64 t197]] (by rfl) rfl rfl (by (try simp only [List.map_toArray, List.map_cons, List.map_nil]); first | done | rfl | (simp only [List.length_drop, List.length_take]; rfl)) ?_
       with_reducible refine (vals_Join.calls k _ _ t164 _ _ t167 _ _ t170 _ _ t173 t190 t191 t192 t193 t194 t195 t196 t197 t198 t199 t200 t201 _ ?side1 ?side2 ?side3 ?side4 ?side5 ?side6 ?side7 ?side8 A7.out).mono ?_
       (case side1 => exact qC (Kd.R_reads' HO166.out).2.2)
       (case side2 => exact (Kd.R_reads' HO166.out).2.1)
       (case side3 => exact qC (Kd.R_reads' HO169.out).2.2)
       (case side4 => exact (Kd.R_reads' HO169.out).2.1)
       (case side5 => exact qC (Kd.R_reads' HO172.out).2.2)
       (case side6 => exact (Kd.R_reads' HO172.out).2.1)
       (case side7 => exact qC (Kd.R_reads' HO175.out).2.2)
       (case side8 => exact (Kd.R_reads' HO175.out).2.1)
       rintro e w42 ⟨rfl, hb⟩
       refine ⟨_, rfl, ?_⟩
       have n0_ := Aside0.mk (Kd.R_below (qR HO166.out) hb)
       have n1_ := Aside0.mk (Kd.R_below (qR HO169.out) hb)
       have n2_ := Aside0.mk (Kd.R_below (qR HO172.out) hb)
       have n3_ := Aside0.mk (Kd.R_below (qR HO175.out) hb)
       have n4_ := Aside0.mk (blk_below (qb BK176.out) hb)
       have n5_ := Aside0.mk (blk_below (qb BK189.out) hb)
       have n6_ := Aside0.mk (blk_below (qb BK202.out) hb)
       have n7_ := Aside0.mk (below_step (qW HB.out) hb)
       clear HO166
       clear HO169
       clear HO172
       clear HO175
       clear BK176
       clear BK189
       clear BK202
       clear HB
       have HO166 := n0_
       have HO169 := n1_
       have HO172 := n2_
       have HO175 := n3_
       have BK176 := n4_
       have BK189 := n5_
       have BK202 := n6_
       have HB := n7_
       clear n0_ n1_ n2_ n3_ n4_ n5_ n6_ n7_
       (try clear hb)
       (try clear hb2)
       (try clear hk)
       (try clear hi)
       refine hK.out _ _ ⟨(blk_cell BK176.out 0).trans rfl, (blk_cell BK176.out 1).trans rfl, (blk_cell BK176.out 2).trans rfl, (blk_cell BK176.out 3).trans rfl⟩ (fun hHeld => ?_)
       clear hK K
       refine norm_ (a' := ?_) ?_ ?_
       rotate_left
       ·show Act.put _ (some 13) _ = _
        simp only [Act.put, List.setIfInBounds_toArray, List.set_cons_zero, List.set_cons_succ, i64_w, i32_w]
        rfl
       exact norm_ (by simp only [putAll, Act.put, List.setIfInBounds_toArray, List.set_cons_zero, List.set_cons_succ]) (hCont (gb202) _ ⟨hHeld, (qR HO166.out), (qR HO169.out), (qR HO172.out), (qR HO175.out), (qb BK176.out), (qb BK189.out), (qb BK202.out), GW202.out, GE202.out, NB176_202.out, NB202_176.out, NB189_202.out, NB202_189.out, (qW HB.out)⟩)
     ·skip
      refine box_step ?hg (N := 3) ?hd (cs := #[.int .u8 0, .int .u8 0, .int .u16 0, .int .i64 0]) (t := 56) ?hr ?_; (case hd => rfl); (case hg => rfl); (case hr => first | (go_simp; done) | (go_simp; rfl))
      intro gb202 hg w39 hbox hb
      have n0_ := Aside0.mk (Kd.R_below (qR HO166.out) hb)
      have n1_ := Aside0.mk (Kd.R_below (qR HO169.out) hb)
      have n2_ := Aside0.mk (Kd.R_below (qR HO172.out) hb)
      have n3_ := Aside0.mk (Kd.R_below (qR HO175.out) hb)
      have n4_ := Aside0.mk (blk_below (qb BK176.out) hb)
      have n5_ := Aside0.mk (blk_below (qb BK189.out) hb)
      have n6_ := Aside0.mk (below_step (qW HB.out) hb)
      have n7_ := Aside0.mk (hbox)
      have n8_ := Aside0.mk ((by rw [hg]; exact (below_size (qW HB.out)) : w.heap.size ≤ gb202))
      have n9_ := Aside0.mk ((by rw [hg]; exact (below_size (qW HB.out)) : w.heap.size ≤ gb202))
      have n10_ := Aside0.mk ((by rw [hg]; exact Nat.ne_of_lt (blk_lt (qb BK176.out)) : gb176 ≠ gb202))
      have n11_ := Aside0.mk ((by rw [hg]; exact Nat.ne_of_gt (blk_lt (qb BK176.out)) : gb202 ≠ gb176))
      have n12_ := Aside0.mk ((by rw [hg]; exact Nat.ne_of_lt (blk_lt (qb BK189.out)) : gb189 ≠ gb202))
      have n13_ := Aside0.mk ((by rw [hg]; exact Nat.ne_of_gt (blk_lt (qb BK189.out)) : gb202 ≠ gb189))
      clear HO166
      clear HO169
      clear HO172
      clear HO175
      clear BK176
      clear BK189
      clear HB
      have HO166 := n0_
      have HO169 := n1_
      have HO172 := n2_
      have HO175 := n3_
      have BK176 := n4_
      have BK189 := n5_
      have HB := n6_
      have BK202 := n7_
      have GW202 := n8_
      have GE202 := n9_
      have NB176_202 := n10_
      have NB202_176 := n11_
      have NB189_202 := n12_
      have NB202_189 := n13_
      clear n0_ n1_ n2_ n3_ n4_ n5_ n6_ n7_ n8_ n9_ n10_ n11_ n12_ n13_
      clear hb hbox hg
      refine hK.out _ _ ⟨(blk_cell BK176.out 0).trans rfl, (blk_cell BK176.out 1).trans rfl, (blk_cell BK176.out 2).trans rfl, (blk_cell BK176.out 3).trans rfl⟩ (fun hHeld => ?_)
      clear hK K
      refine norm_ (a' := ?_) ?_ ?_
      rotate_left
      ·show Act.put _ (some 3) _ = _
       simp only [Act.put, List.setIfInBounds_toArray, List.set_cons_zero, List.set_cons_succ, i64_w, i32_w]
       rfl
      refine one_ (i := 1) (N := some 11) #[true, true, false, false, true, false] rfl rfl (by kernel_rfl) (by decide) (fun K hK => ?_)
      refine goes_ Try.func66 (by kernel_rfl) rfl #[.int .u8 4, .int .i64 2] (by rfl) rfl rfl (by (try simp only [List.map_toArray, List.map_cons, List.map_nil]); first | done | rfl | (simp only [List.length_drop, List.length_take]; rfl)) ?_
      with_reducible refine (garderoberef16_Ref.calls 4 2 t190 t191 t192 t193 _ A5.out).mono ?_
      rintro e w40 ⟨rfl, hb⟩
      refine ⟨_, rfl, ?_⟩
      have n0_ := Aside0.mk (Kd.R_below (qR HO166.out) hb)
      have n1_ := Aside0.mk (Kd.R_below (qR HO169.out) hb)
      have n2_ := Aside0.mk (Kd.R_below (qR HO172.out) hb)
      have n3_ := Aside0.mk (Kd.R_below (qR HO175.out) hb)
      have n4_ := Aside0.mk (blk_below (qb BK176.out) hb)
      have n5_ := Aside0.mk (blk_below (qb BK189.out) hb)
      have n6_ := Aside0.mk (blk_below (qb BK202.out) hb)
      have n7_ := Aside0.mk (below_step (qW HB.out) hb)
      clear HO166
      clear HO169
      clear HO172
      clear HO175
      clear BK176
      clear BK189
      clear BK202
      clear HB
      have HO166 := n0_
      have HO169 := n1_
      have HO172 := n2_
      have HO175 := n3_
      have BK176 := n4_
      have BK189 := n5_
      have BK202 := n6_
      have HB := n7_
      clear n0_ n1_ n2_ n3_ n4_ n5_ n6_ n7_
      (try clear hb)
      (try clear hb2)
      (try clear hk)
      (try clear hi)
      refine hK.out _ _ ⟨(blk_cell BK176.out 0).trans rfl, (blk_cell BK176.out 1).trans rfl, (blk_cell BK176.out 2).trans rfl, (blk_cell BK176.out 3).trans rfl⟩ (fun hHeld => ?_)
      clear hK K
      refine norm_ (a' := ?_) ?_ ?_
      rotate_left
      ·show Act.put _ (some 11) _ = _
       simp only [Act.put, List.setIfInBounds_toArray, List.set_cons_zero, List.set_cons_succ, i64_w, i32_w]
       rfl
      refine one_ (i := 2) (N := some 12) #[true, true, true, false, true, false] rfl rfl (by kernel_rfl) (by decide) (fun K hK => ?_)
      refine goes_ Try.func66 (by kernel_rfl) rfl #[.int .u8 4, .int .i64 11] (by rfl) rfl rfl (by (try simp only [List.map_toArray, List.map_cons, List.map_nil]); first | done | rfl | (simp only [List.length_drop, List.length_take]; rfl)) ?_
      with_reducible refine (garderoberef16_Ref.calls 4 11 t194 t195 t196 t197 _ A6.out).mono ?_
      rintro e w41 ⟨rfl, hb⟩
      refine ⟨_, rfl, ?_⟩
      have n0_ := Aside0.mk (Kd.R_below (qR HO166.out) hb)
      have n1_ := Aside0.mk (Kd.R_below (qR HO169.out) hb)
      have n2_ := Aside0.mk (Kd.R_below (qR HO172.out) hb)
      have n3_ := Aside0.mk (Kd.R_below (qR HO175.out) hb)
      have n4_ := Aside0.mk (blk_below (qb BK176.out) hb)
      have n5_ := Aside0.mk (blk_below (qb BK189.out) hb)
      have n6_ := Aside0.mk (blk_below (qb BK202.out) hb)
      have n7_ := Aside0.mk (below_step (qW HB.out) hb)
      clear HO166
      clear HO169
      clear HO172
      clear HO175
      clear BK176
      clear BK189
      clear BK202
      clear HB
      have HO166 := n0_
      have HO169 := n1_
      have HO172 := n2_
      have HO175 := n3_
      have BK176 := n4_
      have BK189 := n5_
      have BK202 := n6_
      have HB := n7_
      clear n0_ n1_ n2_ n3_ n4_ n5_ n6_ n7_
      (try clear hb)
      (try clear hb2)
      (try clear hk)
      (try clear hi)
      refine hK.out _ _ ⟨(blk_cell BK176.out 0).trans rfl, (blk_cell BK176.out 1).trans rfl, (blk_cell BK176.out 2).trans rfl, (blk_cell BK176.out 3).trans rfl⟩ (fun hHeld => ?_)
      clear hK K
      refine norm_ (a' := ?_) ?_ ?_
      rotate_left
      ·show Act.put _ (some 12) _ = _
       simp only [Act.put, List.setIfInBounds_toArray, List.set_cons_zero, List.set_cons_succ, i64_w, i32_w]
       rfl
      refine one_ (i := 3) (N := some 13) #[true, true, true, true, true, false] rfl rfl (by kernel_rfl) (by decide) (fun K hK => ?_)
      refine goes_ Try.func34 (by kernel_rfl) rfl #[.agg #[.slice Ao21 t164.length co21, .slice Ao23 t167.length co23, .slice Ao24 t170.length co24, .slice Ao25 t173.length co25], .agg #[.int .u8 t190, .int .u8 t191, .int .u16 t192, .int .i64 t193], .agg #[.int .u8 t194, .int .u8 t195, .int .u16 t196, .int .i64 t197]] (by rfl) rfl rfl (by (try simp only [List.map_toArray, List.map_cons, List.map_nil]); first | done | rfl | (simp only [List.length_drop, List.length_take]; rfl)) ?_
      with_reducible refine (vals_Join.calls k _ _ t164 _ _ t167 _ _ t170 _ _ t173 t190 t191 t192 t193 t194 t195 t196 t197 t198 t199 t200 t201 _ ?side1 ?side2 ?side3 ?side4 ?side5 ?side6 ?side7 ?side8 A7.out).mono ?_
      (case side1 => exact qC (Kd.R_reads' HO166.out).2.2)
      (case side2 => exact (Kd.R_reads' HO166.out).2.1)
      (case side3 => exact qC (Kd.R_reads' HO169.out).2.2)
      (case side4 => exact (Kd.R_reads' HO169.out).2.1)
      (case side5 => exact qC (Kd.R_reads' HO172.out).2.2)
      (case side6 => exact (Kd.R_reads' HO172.out).2.1)
      (case side7 => exact qC (Kd.R_reads' HO175.out).2.2)
      (case side8 => exact (Kd.R_reads' HO175.out).2.1)
      rintro e w42 ⟨rfl, hb⟩
      refine ⟨_, rfl, ?_⟩
      have n0_ := Aside0.mk (Kd.R_below (qR HO166.out) hb)
      have n1_ := Aside0.mk (Kd.R_below (qR HO169.out) hb)
      have n2_ := Aside0.mk (Kd.R_below (qR HO172.out) hb)
      have n3_ := Aside0.mk (Kd.R_below (qR HO175.out) hb)
      have n4_ := Aside0.mk (blk_below (qb BK176.out) hb)
      have n5_ := Aside0.mk (blk_below (qb BK189.out) hb)
      have n6_ := Aside0.mk (blk_below (qb BK202.out) hb)
      have n7_ := Aside0.mk (below_step (qW HB.out) hb)
      clear HO166
      clear HO169
      clear HO172
      clear HO175
      clear BK176
      clear BK189
      clear BK202
      clear HB
      have HO166 := n0_
      have HO169 := n1_
      have HO172 := n2_
      have HO175 := n3_
      have BK176 := n4_
      have BK189 := n5_
      have BK202 := n6_
      have HB := n7_
      clear n0_ n1_ n2_ n3_ n4_ n5_ n6_ n7_
      (try clear hb)
      (try clear hb2)
      (try clear hk)
      (try clear hi)
      refine hK.out _ _ ⟨(blk_cell BK176.out 0).trans rfl, (blk_cell BK176.out 1).trans rfl, (blk_cell BK176.out 2).trans rfl, (blk_cell BK176.out 3).trans rfl⟩ (fun hHeld => ?_)
      clear hK K
      refine norm_ (a' := ?_) ?_ ?_
      rotate_left
      ·show Act.put _ (some 13) _ = _
       simp only [Act.put, List.setIfInBounds_toArray, List.set_cons_zero, List.set_cons_succ, i64_w, i32_w]
       rfl
      exact norm_ (by simp only [putAll, Act.put, List.setIfInBounds_toArray, List.set_cons_zero, List.set_cons_succ]) (hCont (gb202) _ ⟨hHeld, (qR HO166.out), (qR HO169.out), (qR HO172.out), (qR HO175.out), (qb BK176.out), (qb BK189.out), (qb BK202.out), GW202.out, GE202.out, NB176_202.out, NB202_176.out, NB189_202.out, NB202_189.out, (qW HB.out)⟩)
    rintro gb202 w43 ⟨hS_, h0_, h1_, h2_, h3_, h4_, h5_, h6_, h7_, h8_, h9_, h10_, h11_, h12_, h13_⟩
    have n0_ : Aside0 (Kd.R k103 103 w43 w.heap.size (fun _ => True) (.slice Ao21 t164.length co21) t164) := ⟨h0_⟩
    have n1_ : Aside0 (Kd.R k38 38 w43 w.heap.size (fun _ => True) (.slice Ao23 t167.length co23) t167) := ⟨h1_⟩
    have n2_ : Aside0 (Kd.R k206 206 w43 w.heap.size (fun _ => True) (.slice Ao24 t170.length co24) t170) := ⟨h2_⟩
    have n3_ : Aside0 (Kd.R k117 117 w43 w.heap.size (fun _ => True) (.slice Ao25 t173.length co25) t173) := ⟨h3_⟩
    have n4_ : Aside0 (w43.heap[gb176]? = some (.cells #[.slice Ao21 t164.length co21, .slice Ao23 t167.length co23, .slice Ao24 t170.length co24, .slice Ao25 t173.length co25] 27 (0, 0))) := ⟨h4_⟩
    have n5_ : Aside0 (w43.heap[gb189]? = some (.cells #[.int .u8 t185, .int .u8 t186, .int .u16 t187, .int .i64 t188] 56 (0, 0))) := ⟨h5_⟩
    have n6_ : Aside0 (w43.heap[gb202]? = some (.cells #[.int .u8 0, .int .u8 0, .int .u16 0, .int .i64 0] 56 (0, 0))) := ⟨h6_⟩
    have n7_ : Aside0 (w.heap.size ≤ gb202) := ⟨h7_⟩
    have n8_ : Aside0 (w.heap.size ≤ gb202) := ⟨h8_⟩
    have n9_ : Aside0 (gb176 ≠ gb202) := ⟨h9_⟩
    have n10_ : Aside0 (gb202 ≠ gb176) := ⟨h10_⟩
    have n11_ : Aside0 (gb189 ≠ gb202) := ⟨h11_⟩
    have n12_ : Aside0 (gb202 ≠ gb189) := ⟨h12_⟩
    have n13_ : Aside0 (Below w.heap.size w w43) := ⟨h13_⟩
    clear HO166
    clear HO169
    clear HO172
    clear HO175
    clear BK176
    clear BK189
    clear HB
    clear h0_ h1_ h2_ h3_ h4_ h5_ h6_ h7_ h8_ h9_ h10_ h11_ h12_ h13_
    have HO166 := n0_
    have HO169 := n1_
    have HO172 := n2_
    have HO175 := n3_
    have BK176 := n4_
    have BK189 := n5_
    have BK202 := n6_
    have GW202 := n7_
    have GE202 := n8_
    have NB176_202 := n9_
    have NB202_176 := n10_
    have NB189_202 := n11_
    have NB202_189 := n12_
    have HB := n13_
    clear n0_ n1_ n2_ n3_ n4_ n5_ n6_ n7_ n8_ n9_ n10_ n11_ n12_ n13_
    have hHeld : w43.cell? ⟨gb176, 0, none⟩ = some (.slice Ao21 t164.length co21) ∧ w43.cell? ⟨gb176, 1, none⟩ = some (.slice Ao23 t167.length co23) ∧ w43.cell? ⟨gb176, 2, none⟩ = some (.slice Ao24 t170.length co24) ∧ w43.cell? ⟨gb176, 3, none⟩ = some (.slice Ao25 t173.length co25) := hS_
    refine norm_ (a' := ?_) ?_ ?_
    rotate_left
    ·simp only [putAll, Act.put, List.setIfInBounds_toArray, List.set_cons_zero, List.set_cons_succ]
     rfl
    refine one_ (i := 5) (N := none) #[true, true, true, true, true, true] rfl rfl (by kernel_rfl) (by decide) (fun K hK => ?_)
    have hs44 : w43.cell? ⟨gb202, 0, none⟩ = some (.int .u8 0) := (blk_cell BK202.out 0).trans rfl
    have hfs44 := blk_frozen BK202.out 0
    have hns44_0 := NB176_202.out
    have hns44_1 := NB189_202.out
    have hms44_0 := NB202_176.out
    have hms44_1 := NB202_189.out
    have hs45 : w43.cell? ⟨gb202, 1, none⟩ = some (.int .u8 0) := (blk_cell BK202.out 1).trans rfl
    have hfs45 := blk_frozen BK202.out 1
    have hns45_0 := NB176_202.out
    have hns45_1 := NB189_202.out
    have hms45_0 := NB202_176.out
    have hms45_1 := NB202_189.out
    have hs46 : w43.cell? ⟨gb202, 2, none⟩ = some (.int .u16 0) := (blk_cell BK202.out 2).trans rfl
    have hfs46 := blk_frozen BK202.out 2
    have hns46_0 := NB176_202.out
    have hns46_1 := NB189_202.out
    have hms46_0 := NB202_176.out
    have hms46_1 := NB202_189.out
    have hs47 : w43.cell? ⟨gb202, 3, none⟩ = some (.int .i64 0) := (blk_cell BK202.out 3).trans rfl
    have hfs47 := blk_frozen BK202.out 3
    have hns47_0 := NB176_202.out
    have hns47_1 := NB189_202.out
    have hms47_0 := NB202_176.out
    have hms47_1 := NB202_189.out
    refine skip_ (w1 := ?_) (by rfl) rfl ?_ ?_
    rotate_left
    ·go_simp
     rfl
    refine hK.out _ _ ⟨((cell_far (p := ⟨gb202, _, none⟩) NB176_202.out _).trans (((cell_far (p := ⟨gb202, _, none⟩) NB176_202.out _).trans (((cell_far (p := ⟨gb202, _, none⟩) NB176_202.out _).trans (((cell_far (p := ⟨gb202, _, none⟩) NB176_202.out _).trans (hHeld.1)))))))), ((cell_far (p := ⟨gb202, _, none⟩) NB176_202.out _).trans (((cell_far (p := ⟨gb202, _, none⟩) NB176_202.out _).trans (((cell_far (p := ⟨gb202, _, none⟩) NB176_202.out _).trans (((cell_far (p := ⟨gb202, _, none⟩) NB176_202.out _).trans (hHeld.2.1)))))))), ((cell_far (p := ⟨gb202, _, none⟩) NB176_202.out _).trans (((cell_far (p := ⟨gb202, _, none⟩) NB176_202.out _).trans (((cell_far (p := ⟨gb202, _, none⟩) NB176_202.out _).trans (((cell_far (p := ⟨gb202, _, none⟩) NB176_202.out _).trans (hHeld.2.2.1)))))))), ((cell_far (p := ⟨gb202, _, none⟩) NB176_202.out _).trans (((cell_far (p := ⟨gb202, _, none⟩) NB176_202.out _).trans (((cell_far (p := ⟨gb202, _, none⟩) NB176_202.out _).trans (((cell_far (p := ⟨gb202, _, none⟩) NB176_202.out _).trans (hHeld.2.2.2))))))))⟩ (fun hHeld => ?_)
    clear hK K
    refine done_ (by kernel_rfl) ?_
    try go_wp2
    have n0_ : Aside0 (Kd.R k103 103 ((((w43.setCell ⟨gb202, 0, none⟩ (.int .u8 t198)).setCell ⟨gb202, 1, none⟩ (.int .u8 t199)).setCell ⟨gb202, 2, none⟩ (.int .u16 t200)).setCell ⟨gb202, 3, none⟩ (.int .i64 t201)) w.heap.size (fun _ => True) (.slice Ao21 t164.length co21) t164) := ⟨by (with_reducible repeat (first | apply Kd.R_alloc | apply Kd.R_drewN | apply Kd.R_drew)); exact Kd.R_mono (Kd.R_far (p := ⟨gb202, 3, none⟩) (Kd.R_far (p := ⟨gb202, 2, none⟩) (Kd.R_far (p := ⟨gb202, 1, none⟩) (Kd.R_far (p := ⟨gb202, 0, none⟩) (Kd.R_types HO166.out BK202.out (by decide)) (fun _ hk => hk.2) (.int .u8 t198)) (fun _ hk => hk.2) (.int .u8 t199)) (fun _ hk => hk.2) (.int .u16 t200)) (fun _ hk => hk.2) (.int .i64 t201)) (fun _ hk => trivial)⟩
    have n1_ : Aside0 (Kd.R k38 38 ((((w43.setCell ⟨gb202, 0, none⟩ (.int .u8 t198)).setCell ⟨gb202, 1, none⟩ (.int .u8 t199)).setCell ⟨gb202, 2, none⟩ (.int .u16 t200)).setCell ⟨gb202, 3, none⟩ (.int .i64 t201)) w.heap.size (fun _ => True) (.slice Ao23 t167.length co23) t167) := ⟨by (with_reducible repeat (first | apply Kd.R_alloc | apply Kd.R_drewN | apply Kd.R_drew)); exact Kd.R_mono (Kd.R_far (p := ⟨gb202, 3, none⟩) (Kd.R_far (p := ⟨gb202, 2, none⟩) (Kd.R_far (p := ⟨gb202, 1, none⟩) (Kd.R_far (p := ⟨gb202, 0, none⟩) (Kd.R_types HO169.out BK202.out (by decide)) (fun _ hk => hk.2) (.int .u8 t198)) (fun _ hk => hk.2) (.int .u8 t199)) (fun _ hk => hk.2) (.int .u16 t200)) (fun _ hk => hk.2) (.int .i64 t201)) (fun _ hk => trivial)⟩
    have n2_ : Aside0 (Kd.R k206 206 ((((w43.setCell ⟨gb202, 0, none⟩ (.int .u8 t198)).setCell ⟨gb202, 1, none⟩ (.int .u8 t199)).setCell ⟨gb202, 2, none⟩ (.int .u16 t200)).setCell ⟨gb202, 3, none⟩ (.int .i64 t201)) w.heap.size (fun _ => True) (.slice Ao24 t170.length co24) t170) := ⟨by (with_reducible repeat (first | apply Kd.R_alloc | apply Kd.R_drewN | apply Kd.R_drew)); exact Kd.R_mono (Kd.R_far (p := ⟨gb202, 3, none⟩) (Kd.R_far (p := ⟨gb202, 2, none⟩) (Kd.R_far (p := ⟨gb202, 1, none⟩) (Kd.R_far (p := ⟨gb202, 0, none⟩) (Kd.R_types HO172.out BK202.out (by decide)) (fun _ hk => hk.2) (.int .u8 t198)) (fun _ hk => hk.2) (.int .u8 t199)) (fun _ hk => hk.2) (.int .u16 t200)) (fun _ hk => hk.2) (.int .i64 t201)) (fun _ hk => trivial)⟩
    have n3_ : Aside0 (Kd.R k117 117 ((((w43.setCell ⟨gb202, 0, none⟩ (.int .u8 t198)).setCell ⟨gb202, 1, none⟩ (.int .u8 t199)).setCell ⟨gb202, 2, none⟩ (.int .u16 t200)).setCell ⟨gb202, 3, none⟩ (.int .i64 t201)) w.heap.size (fun _ => True) (.slice Ao25 t173.length co25) t173) := ⟨by (with_reducible repeat (first | apply Kd.R_alloc | apply Kd.R_drewN | apply Kd.R_drew)); exact Kd.R_mono (Kd.R_far (p := ⟨gb202, 3, none⟩) (Kd.R_far (p := ⟨gb202, 2, none⟩) (Kd.R_far (p := ⟨gb202, 1, none⟩) (Kd.R_far (p := ⟨gb202, 0, none⟩) (Kd.R_types HO175.out BK202.out (by decide)) (fun _ hk => hk.2) (.int .u8 t198)) (fun _ hk => hk.2) (.int .u8 t199)) (fun _ hk => hk.2) (.int .u16 t200)) (fun _ hk => hk.2) (.int .i64 t201)) (fun _ hk => trivial)⟩
    have n4_ : Aside0 (((((w43.setCell ⟨gb202, 0, none⟩ (.int .u8 t198)).setCell ⟨gb202, 1, none⟩ (.int .u8 t199)).setCell ⟨gb202, 2, none⟩ (.int .u16 t200)).setCell ⟨gb202, 3, none⟩ (.int .i64 t201)).heap[gb176]? = some (.cells #[.slice Ao21 t164.length co21, .slice Ao23 t167.length co23, .slice Ao24 t170.length co24, .slice Ao25 t173.length co25] 27 (0, 0))) := ⟨qf BK176.out⟩
    have n5_ : Aside0 (((((w43.setCell ⟨gb202, 0, none⟩ (.int .u8 t198)).setCell ⟨gb202, 1, none⟩ (.int .u8 t199)).setCell ⟨gb202, 2, none⟩ (.int .u16 t200)).setCell ⟨gb202, 3, none⟩ (.int .i64 t201)).heap[gb189]? = some (.cells #[.int .u8 t185, .int .u8 t186, .int .u16 t187, .int .i64 t188] 56 (0, 0))) := ⟨qf BK189.out⟩
    have n6_ : Aside0 (((((w43.setCell ⟨gb202, 0, none⟩ (.int .u8 t198)).setCell ⟨gb202, 1, none⟩ (.int .u8 t199)).setCell ⟨gb202, 2, none⟩ (.int .u16 t200)).setCell ⟨gb202, 3, none⟩ (.int .i64 t201)).heap[gb202]? = some (.cells #[.int .u8 t198, .int .u8 t199, .int .u16 t200, .int .i64 t201] 56 (0, 0))) := ⟨by (with_reducible repeat (first | refine blk_drewN ?_ _ | refine blk_drew ?_ | refine blk_alloc ?_ _)); refine blk_put (cs := #[.int .u8 t198, .int .u8 t199, .int .u16 t200, .int .i64 0]) ?_ 3 _ rfl; (with_reducible repeat (first | refine blk_drewN ?_ _ | refine blk_drew ?_ | refine blk_alloc ?_ _)); refine blk_put (cs := #[.int .u8 t198, .int .u8 t199, .int .u16 0, .int .i64 0]) ?_ 2 _ rfl; (with_reducible repeat (first | refine blk_drewN ?_ _ | refine blk_drew ?_ | refine blk_alloc ?_ _)); refine blk_put (cs := #[.int .u8 t198, .int .u8 0, .int .u16 0, .int .i64 0]) ?_ 1 _ rfl; (with_reducible repeat (first | refine blk_drewN ?_ _ | refine blk_drew ?_ | refine blk_alloc ?_ _)); refine blk_put (cs := #[.int .u8 0, .int .u8 0, .int .u16 0, .int .i64 0]) ?_ 0 _ rfl; (with_reducible repeat (first | refine blk_drewN ?_ _ | refine blk_drew ?_ | refine blk_alloc ?_ _)); exact BK202.out⟩
    have n7_ : Aside0 (Below w.heap.size w ((((w43.setCell ⟨gb202, 0, none⟩ (.int .u8 t198)).setCell ⟨gb202, 1, none⟩ (.int .u8 t199)).setCell ⟨gb202, 2, none⟩ (.int .u16 t200)).setCell ⟨gb202, 3, none⟩ (.int .i64 t201))) := ⟨qW HB.out⟩
    (try clear HO166)
    (try clear HO169)
    (try clear HO172)
    (try clear HO175)
    (try clear BK176)
    (try clear BK189)
    (try clear BK202)
    (try clear HB)
    generalize ((((w43.setCell ⟨gb202, 0, none⟩ (.int .u8 t198)).setCell ⟨gb202, 1, none⟩ (.int .u8 t199)).setCell ⟨gb202, 2, none⟩ (.int .u16 t200)).setCell ⟨gb202, 3, none⟩ (.int .i64 t201)) = w48 at n0_ n1_ n2_ n3_ n4_ n5_ n6_ n7_ ⊢
    have HO166 := n0_
    have HO169 := n1_
    have HO172 := n2_
    have HO175 := n3_
    have BK176 := n4_
    have BK189 := n5_
    have BK202 := n6_
    have HB := n7_
    clear n0_ n1_ n2_ n3_ n4_ n5_ n6_ n7_
    have n0_ := Aside0.mk (Kd.R_drew HO166.out)
    have n1_ := Aside0.mk (Kd.R_drew HO169.out)
    have n2_ := Aside0.mk (Kd.R_drew HO172.out)
    have n3_ := Aside0.mk (Kd.R_drew HO175.out)
    have n4_ := Aside0.mk (blk_drew BK176.out)
    have n5_ := Aside0.mk (blk_drew BK189.out)
    have n6_ := Aside0.mk (blk_drew BK202.out)
    have n7_ := Aside0.mk (below_drew1 HB.out)
    clear HO166
    clear HO169
    clear HO172
    clear HO175
    clear BK176
    clear BK189
    clear BK202
    clear HB
    have HO166 := n0_
    have HO169 := n1_
    have HO172 := n2_
    have HO175 := n3_
    have BK176 := n4_
    have BK189 := n5_
    have BK202 := n6_
    have HB := n7_
    clear n0_ n1_ n2_ n3_ n4_ n5_ n6_ n7_
    refine start_ (n := 6) (S := fun w' => w'.cell? ⟨gb176, 0, none⟩ = some (.slice Ao21 t164.length co21) ∧ w'.cell? ⟨gb176, 1, none⟩ = some (.slice Ao23 t167.length co23) ∧ w'.cell? ⟨gb176, 2, none⟩ = some (.slice Ao24 t170.length co24) ∧ w'.cell? ⟨gb176, 3, none⟩ = some (.slice Ao25 t173.length co25)) (ds := []) #[false, false, false, false, false, false] (by kernel_rfl) rfl rfl ⟨(blk_cell BK176.out 0).trans rfl, (blk_cell BK176.out 1).trans rfl, (blk_cell BK176.out 2).trans rfl, (blk_cell BK176.out 3).trans rfl⟩ (fun hHeld => ?_)
    generalize w48.drew = w49 at HO166 HO169 HO172 HO175 BK176 BK189 BK202 HB hHeld ⊢
    refine take_ (i := 0) (N := some 14) (v := ?_) (a' := ?_) #[true, false, false, false, false, false] rfl rfl (by kernel_rfl) (fun _ _ _ h => h) (Or.inl ⟨by rfl, ?_⟩) hHeld ?_ ?_
    rotate_left
    ·rintro w' ⟨s0, s1, s2, s3⟩
     go_simp
     with_reducible rfl
    rotate_left
    ·simp only [Act.put, List.setIfInBounds_toArray, List.set_cons_zero, List.set_cons_succ, i64_w, i32_w]
     rfl
    refine join_ (σ := Nat) 1 #[true, true, true, true, true, false] (fun s_ => [(15, .agg #[.int .u8 t203, .int .u8 t204, .int .u16 t205, .int .i64 t206]), (16, .agg #[.int .u8 t207, .int .u8 t208, .int .u16 t209, .int .i64 t210]), (17, .agg #[.int .u8 t211, .int .u8 t212, .int .u16 t213, .int .i64 t214]), (4, .pointer (some ⟨s_, 0, none⟩))]) (fun s_ w' => (w'.cell? ⟨gb176, 0, none⟩ = some (.slice Ao21 t164.length co21) ∧ w'.cell? ⟨gb176, 1, none⟩ = some (.slice Ao23 t167.length co23) ∧ w'.cell? ⟨gb176, 2, none⟩ = some (.slice Ao24 t170.length co24) ∧ w'.cell? ⟨gb176, 3, none⟩ = some (.slice Ao25 t173.length co25)) ∧ (Kd.R k103 103 w' w.heap.size (fun _ => True) (.slice Ao21 t164.length co21) t164) ∧ (Kd.R k38 38 w' w.heap.size (fun _ => True) (.slice Ao23 t167.length co23) t167) ∧ (Kd.R k206 206 w' w.heap.size (fun _ => True) (.slice Ao24 t170.length co24) t170) ∧ (Kd.R k117 117 w' w.heap.size (fun _ => True) (.slice Ao25 t173.length co25) t173) ∧ (w'.heap[gb176]? = some (.cells #[.slice Ao21 t164.length co21, .slice Ao23 t167.length co23, .slice Ao24 t170.length co24, .slice Ao25 t173.length co25] 27 (0, 0))) ∧ (w'.heap[gb189]? = some (.cells #[.int .u8 t185, .int .u8 t186, .int .u16 t187, .int .i64 t188] 56 (0, 0))) ∧ (w'.heap[gb202]? = some (.cells #[.int .u8 t198, .int .u8 t199, .int .u16 t200, .int .i64 t201] 56 (0, 0))) ∧ (w'.heap[s_]? = some (.cells #[.int .u8 0, .int .u8 0, .int .u16 0, .int .i64 0] 56 (0, 0))) ∧ (w.heap.size ≤ s_) ∧ (w.heap.size ≤ s_) ∧ (gb176 ≠ s_) ∧ (s_ ≠ gb176) ∧ (gb189 ≠ s_) ∧ (s_ ≠ gb189) ∧ (gb202 ≠ s_) ∧ (s_ ≠ gb202) ∧ (Below w.heap.size w w')) ?_ ?_
    rotate_left
    ·intro hCont
     refine two_ (i := 1) (j := 4) (Ni := some 15) (Nj := some 4) #[true, true, false, false, false, false] #[true, false, false, false, true, false] rfl rfl rfl rfl (by kernel_rfl) (by decide) (by decide) (fun K hK => ?_) (fun K hK => ?_)
     ·skip
      refine goes_ Try.func59 (by kernel_rfl) rfl #[] (by rfl) rfl rfl (by (try simp only [List.map_toArray, List.map_cons, List.map_nil]); first | done | rfl | (simp only [List.length_drop, List.length_take]; rfl)) ?_
      with_reducible refine (garderoberef16_Num.calls  t203 t204 t205 t206 _ A8.out).mono ?_
      rintro e w50 ⟨rfl, hb⟩
      refine ⟨_, rfl, ?_⟩
      have n0_ := Aside0.mk (Kd.R_below (qR HO166.out) hb)
      have n1_ := Aside0.mk (Kd.R_below (qR HO169.out) hb)
      have n2_ := Aside0.mk (Kd.R_below (qR HO172.out) hb)
      have n3_ := Aside0.mk (Kd.R_below (qR HO175.out) hb)
      have n4_ := Aside0.mk (blk_below (qb BK176.out) hb)
      have n5_ := Aside0.mk (blk_below (qb BK189.out) hb)
      have n6_ := Aside0.mk (blk_below (qb BK202.out) hb)
      have n7_ := Aside0.mk (below_step (qW HB.out) hb)
      clear HO166
      clear HO169
      clear HO172
      clear HO175
      clear BK176
      clear BK189
      clear BK202
      clear HB
      have HO166 := n0_
      have HO169 := n1_
      have HO172 := n2_
      have HO175 := n3_
      have BK176 := n4_
      have BK189 := n5_
      have BK202 := n6_
      have HB := n7_
      clear n0_ n1_ n2_ n3_ n4_ n5_ n6_ n7_
      (try clear hb)
      (try clear hb2)
      (try clear hk)
      (try clear hi)
      refine hK.out _ _ ⟨(blk_cell BK176.out 0).trans rfl, (blk_cell BK176.out 1).trans rfl, (blk_cell BK176.out 2).trans rfl, (blk_cell BK176.out 3).trans rfl⟩ (fun hHeld => ?_)
      clear hK K
      refine norm_ (a' := ?_) ?_ ?_
      rotate_left
      ·show Act.put _ (some 15) _ = _
       simp only [Act.put, List.setIfInBounds_toArray, List.set_cons_zero, List.set_cons_succ, i64_w, i32_w]
       rfl
      refine two_ (i := 2) (j := 4) (Ni := some 16) (Nj := some 4) #[true, true, true, false, false, false] #[true, true, false, false, true, false] rfl rfl rfl rfl (by kernel_rfl) (by decide) (by decide) (fun K hK => ?_) (fun K hK => ?_)
      ·skip
       refine goes_ Try.func65 (by kernel_rfl) rfl #[] (by rfl) rfl rfl (by (try simp only [List.map_toArray, List.map_cons, List.map_nil]); first | done | rfl | (simp only [List.length_drop, List.length_take]; rfl)) ?_
       with_reducible refine (garderoberef16_Null.calls  t207 t208 t209 t210 _ A9.out).mono ?_
       rintro e w51 ⟨rfl, hb⟩
       refine ⟨_, rfl, ?_⟩
       have n0_ := Aside0.mk (Kd.R_below (qR HO166.out) hb)
       have n1_ := Aside0.mk (Kd.R_below (qR HO169.out) hb)
       have n2_ := Aside0.mk (Kd.R_below (qR HO172.out) hb)
       have n3_ := Aside0.mk (Kd.R_below (qR HO175.out) hb)
       have n4_ := Aside0.mk (blk_below (qb BK176.out) hb)
       have n5_ := Aside0.mk (blk_below (qb BK189.out) hb)
       have n6_ := Aside0.mk (blk_below (qb BK202.out) hb)
       have n7_ := Aside0.mk (below_step (qW HB.out) hb)
       clear HO166
       clear HO169
       clear HO172
       clear HO175
       clear BK176
       clear BK189
       clear BK202
       clear HB
       have HO166 := n0_
       have HO169 := n1_
       have HO172 := n2_
       have HO175 := n3_
       have BK176 := n4_
       have BK189 := n5_
       have BK202 := n6_
       have HB := n7_
       clear n0_ n1_ n2_ n3_ n4_ n5_ n6_ n7_
       (try clear hb)
       (try clear hb2)
       (try clear hk)
       (try clear hi)
       refine hK.out _ _ ⟨(blk_cell BK176.out 0).trans rfl, (blk_cell BK176.out 1).trans rfl, (blk_cell BK176.out 2).trans rfl, (blk_cell BK176.out 3).trans rfl⟩ (fun hHeld => ?_)
       clear hK K
       refine norm_ (a' := ?_) ?_ ?_
       rotate_left
       ·show Act.put _ (some 16) _ = _
        simp only [Act.put, List.setIfInBounds_toArray, List.set_cons_zero, List.set_cons_succ, i64_w, i32_w]
        rfl
       refine two_ (i := 3) (j := 4) (Ni := some 17) (Nj := some 4) #[true, true, true, true, false, false] #[true, true, true, false, true, false] rfl rfl rfl rfl (by kernel_rfl) (by decide) (by decide) (fun K hK => ?_) (fun K hK => ?_)
       ·skip
        refine goes_ Try.func34 (by kernel_rfl) rfl #[.agg #[.slice Ao21 t164.length co21, .slice Ao23 t167.length co23, .slice Ao24 t170.length co24, .slice Ao25 t173.length co25], .agg #[.int .u8 t203, .int .u8 t204, .int .u16 t205, .int .i64 t206], .agg #[.int .u8 t207, .int .u8 t208, .int .u16 t209, .int .i64 t210]] (by rfl) rfl rfl (by (try simp only [List.map_toArray, List.map_cons, List.map_nil]); first | done | rfl | (simp only [List.length_drop, List.length_take]; rfl)) ?_
        with_reducible refine (vals_Join.calls k _ _ t164 _ _ t167 _ _ t170 _ _ t173 t203 t204 t205 t206 t207 t208 t209 t210 t211 t212 t213 t214 _ ?side1 ?side2 ?side3 ?side4 ?side5 ?side6 ?side7 ?side8 A10.out).mono ?_
        (case side1 => exact qC (Kd.R_reads' HO166.out).2.2)
        (case side2 => exact (Kd.R_reads' HO166.out).2.1)
        (case side3 => exact qC (Kd.R_reads' HO169.out).2.2)
        (case side4 => exact (Kd.R_reads' HO169.out).2.1)
        (case side5 => exact qC (Kd.R_reads' HO172.out).2.2)
        (case side6 => exact (Kd.R_reads' HO172.out).2.1)
        (case side7 => exact qC (Kd.R_reads' HO175.out).2.2)
        (case side8 => exact (Kd.R_reads' HO175.out).2.1)
        rintro e w52 ⟨rfl, hb⟩
        refine ⟨_, rfl, ?_⟩
        have n0_ := Aside0.mk (Kd.R_below (qR HO166.out) hb)
        have n1_ := Aside0.mk (Kd.R_below (qR HO169.out) hb)
        have n2_ := Aside0.mk (Kd.R_below (qR HO172.out) hb)
        have n3_ := Aside0.mk (Kd.R_below (qR HO175.out) hb)
        have n4_ := Aside0.mk (blk_below (qb BK176.out) hb)
        have n5_ := Aside0.mk (blk_below (qb BK189.out) hb)
        have n6_ := Aside0.mk (blk_below (qb BK202.out) hb)
        have n7_ := Aside0.mk (below_step (qW HB.out) hb)
        clear HO166
        clear HO169
        clear HO172
        clear HO175
        clear BK176
        clear BK189
        clear BK202
        clear HB
        have HO166 := n0_
        have HO169 := n1_
        have HO172 := n2_
        have HO175 := n3_
        have BK176 := n4_
        have BK189 := n5_
        have BK202 := n6_
        have HB := n7_
        clear n0_ n1_ n2_ n3_ n4_ n5_ n6_ n7_
        (try clear hb)
        (try clear hb2)
        (try clear hk)
        (try clear hi)
        refine hK.out _ _ ⟨(blk_cell BK176.out 0).trans rfl, (blk_cell BK176.out 1).trans rfl, (blk_cell BK176.out 2).trans rfl, (blk_cell BK176.out 3).trans rfl⟩ (fun hHeld => ?_)
        clear hK K
        refine norm_ (a' := ?_) ?_ ?_
        rotate_left
        ·show Act.put _ (some 17) _ = _
         simp only [Act.put, List.setIfInBounds_toArray, List.set_cons_zero, List.set_cons_succ, i64_w, i32_w]
         rfl
        refine one_ (i := 4) (N := some 4) #[true, true, true, true, true, false] rfl rfl (by kernel_rfl) (by decide) (fun K hK => ?_)
        refine box_step ?hg (N := 4) ?hd (cs := #[.int .u8 0, .int .u8 0, .int .u16 0, .int .i64 0]) (t := 56) ?hr ?_; (case hd => rfl); (case hg => rfl); (case hr => first | (go_simp; done) | (go_simp; rfl))
        intro gb215 hg w53 hbox hb
        have n0_ := Aside0.mk (Kd.R_below (qR HO166.out) hb)
        have n1_ := Aside0.mk (Kd.R_below (qR HO169.out) hb)
        have n2_ := Aside0.mk (Kd.R_below (qR HO172.out) hb)
        have n3_ := Aside0.mk (Kd.R_below (qR HO175.out) hb)
        have n4_ := Aside0.mk (blk_below (qb BK176.out) hb)
        have n5_ := Aside0.mk (blk_below (qb BK189.out) hb)
        have n6_ := Aside0.mk (blk_below (qb BK202.out) hb)
        have n7_ := Aside0.mk (below_step (qW HB.out) hb)
        have n8_ := Aside0.mk (hbox)
        have n9_ := Aside0.mk ((by rw [hg]; exact (below_size (qW HB.out)) : w.heap.size ≤ gb215))
        have n10_ := Aside0.mk ((by rw [hg]; exact (below_size (qW HB.out)) : w.heap.size ≤ gb215))
        have n11_ := Aside0.mk ((by rw [hg]; exact Nat.ne_of_lt (blk_lt (qb BK176.out)) : gb176 ≠ gb215))
        have n12_ := Aside0.mk ((by rw [hg]; exact Nat.ne_of_gt (blk_lt (qb BK176.out)) : gb215 ≠ gb176))
        have n13_ := Aside0.mk ((by rw [hg]; exact Nat.ne_of_lt (blk_lt (qb BK189.out)) : gb189 ≠ gb215))
        have n14_ := Aside0.mk ((by rw [hg]; exact Nat.ne_of_gt (blk_lt (qb BK189.out)) : gb215 ≠ gb189))
        have n15_ := Aside0.mk ((by rw [hg]; exact Nat.ne_of_lt (blk_lt (qb BK202.out)) : gb202 ≠ gb215))
        have n16_ := Aside0.mk ((by rw [hg]; exact Nat.ne_of_gt (blk_lt (qb BK202.out)) : gb215 ≠ gb202))
        clear HO166
        clear HO169
        clear HO172
        clear HO175
        clear BK176
        clear BK189
        clear BK202
        clear HB
        have HO166 := n0_
        have HO169 := n1_
        have HO172 := n2_
        have HO175 := n3_
        have BK176 := n4_
        have BK189 := n5_
        have BK202 := n6_
        have HB := n7_
        have BK215 := n8_
        have GW215 := n9_
        have GE215 := n10_
        have NB176_215 := n11_
        have NB215_176 := n12_
        have NB189_215 := n13_
        have NB215_189 := n14_
        have NB202_215 := n15_
        have NB215_202 := n16_
        clear n0_ n1_ n2_ n3_ n4_ n5_ n6_ n7_ n8_ n9_ n10_ n11_ n12_ n13_ n14_ n15_ n16_
        clear hb hbox hg
        refine hK.out _ _ ⟨(blk_cell BK176.out 0).trans rfl, (blk_cell BK176.out 1).trans rfl, (blk_cell BK176.out 2).trans rfl, (blk_cell BK176.out 3).trans rfl⟩ (fun hHeld => ?_)
        clear hK K
        refine norm_ (a' := ?_) ?_ ?_
        rotate_left
        ·show Act.put _ (some 4) _ = _
         simp only [Act.put, List.setIfInBounds_toArray, List.set_cons_zero, List.set_cons_succ, i64_w, i32_w]
         rfl
        exact norm_ (by simp only [putAll, Act.put, List.setIfInBounds_toArray, List.set_cons_zero, List.set_cons_succ]) (hCont (gb215) _ ⟨hHeld, (qR HO166.out), (qR HO169.out), (qR HO172.out), (qR HO175.out), (qb BK176.out), (qb BK189.out), (qb BK202.out), (qb BK215.out), GW215.out, GE215.out, NB176_215.out, NB215_176.out, NB189_215.out, NB215_189.out, NB202_215.out, NB215_202.out, (qW HB.out)⟩)
       ·skip
        refine box_step ?hg (N := 4) ?hd (cs := #[.int .u8 0, .int .u8 0, .int .u16 0, .int .i64 0]) (t := 56) ?hr ?_; (case hd => rfl); (case hg => rfl); (case hr => first | (go_simp; done) | (go_simp; rfl))
        intro gb215 hg w52 hbox hb
        have n0_ := Aside0.mk (Kd.R_below (qR HO166.out) hb)
        have n1_ := Aside0.mk (Kd.R_below (qR HO169.out) hb)
        have n2_ := Aside0.mk (Kd.R_below (qR HO172.out) hb)
        have n3_ := Aside0.mk (Kd.R_below (qR HO175.out) hb)
        have n4_ := Aside0.mk (blk_below (qb BK176.out) hb)
        have n5_ := Aside0.mk (blk_below (qb BK189.out) hb)
        have n6_ := Aside0.mk (blk_below (qb BK202.out) hb)
        have n7_ := Aside0.mk (below_step (qW HB.out) hb)
        have n8_ := Aside0.mk (hbox)
        have n9_ := Aside0.mk ((by rw [hg]; exact (below_size (qW HB.out)) : w.heap.size ≤ gb215))
        have n10_ := Aside0.mk ((by rw [hg]; exact (below_size (qW HB.out)) : w.heap.size ≤ gb215))
        have n11_ := Aside0.mk ((by rw [hg]; exact Nat.ne_of_lt (blk_lt (qb BK176.out)) : gb176 ≠ gb215))
        have n12_ := Aside0.mk ((by rw [hg]; exact Nat.ne_of_gt (blk_lt (qb BK176.out)) : gb215 ≠ gb176))
        have n13_ := Aside0.mk ((by rw [hg]; exact Nat.ne_of_lt (blk_lt (qb BK189.out)) : gb189 ≠ gb215))
        have n14_ := Aside0.mk ((by rw [hg]; exact Nat.ne_of_gt (blk_lt (qb BK189.out)) : gb215 ≠ gb189))
        have n15_ := Aside0.mk ((by rw [hg]; exact Nat.ne_of_lt (blk_lt (qb BK202.out)) : gb202 ≠ gb215))
        have n16_ := Aside0.mk ((by rw [hg]; exact Nat.ne_of_gt (blk_lt (qb BK202.out)) : gb215 ≠ gb202))
        clear HO166
        clear HO169
        clear HO172
        clear HO175
        clear BK176
        clear BK189
        clear BK202
        clear HB
        have HO166 := n0_
        have HO169 := n1_
        have HO172 := n2_
        have HO175 := n3_
        have BK176 := n4_
        have BK189 := n5_
        have BK202 := n6_
        have HB := n7_
        have BK215 := n8_
        have GW215 := n9_
        have GE215 := n10_
        have NB176_215 := n11_
        have NB215_176 := n12_
        have NB189_215 := n13_
        have NB215_189 := n14_
        have NB202_215 := n15_
        have NB215_202 := n16_
        clear n0_ n1_ n2_ n3_ n4_ n5_ n6_ n7_ n8_ n9_ n10_ n11_ n12_ n13_ n14_ n15_ n16_
        clear hb hbox hg
        refine hK.out _ _ ⟨(blk_cell BK176.out 0).trans rfl, (blk_cell BK176.out 1).trans rfl, (blk_cell BK176.out 2).trans rfl, (blk_cell BK176.out 3).trans rfl⟩ (fun hHeld => ?_)
        clear hK K
        refine norm_ (a' := ?_) ?_ ?_
        rotate_left
        ·show Act.put _ (some 4) _ = _
         simp only [Act.put, List.setIfInBounds_toArray, List.set_cons_zero, List.set_cons_succ, i64_w, i32_w]
         rfl
        refine one_ (i := 3) (N := some 17) #[true, true, true, true, true, false] rfl rfl (by kernel_rfl) (by decide) (fun K hK => ?_)
        refine goes_ Try.func34 (by kernel_rfl) rfl #[.agg #[.slice Ao21 t164.length co21, .slice Ao23 t167.length co23, .slice Ao24 t170.length co24, .slice Ao25 t173.length co25], .agg #[.int .u8 t203, .int .u8 t204, .int .u16 t205, .int .i64 t206], .agg #[.int .u8 t207, .int .u8 t208, .int .u16 t209, .int .i64 t210]] (by rfl) rfl rfl (by (try simp only [List.map_toArray, List.map_cons, List.map_nil]); first | done | rfl | (simp only [List.length_drop, List.length_take]; rfl)) ?_
        with_reducible refine (vals_Join.calls k _ _ t164 _ _ t167 _ _ t170 _ _ t173 t203 t204 t205 t206 t207 t208 t209 t210 t211 t212 t213 t214 _ ?side1 ?side2 ?side3 ?side4 ?side5 ?side6 ?side7 ?side8 A10.out).mono ?_
        (case side1 => exact qC (Kd.R_reads' HO166.out).2.2)
        (case side2 => exact (Kd.R_reads' HO166.out).2.1)
        (case side3 => exact qC (Kd.R_reads' HO169.out).2.2)
        (case side4 => exact (Kd.R_reads' HO169.out).2.1)
        (case side5 => exact qC (Kd.R_reads' HO172.out).2.2)
        (case side6 => exact (Kd.R_reads' HO172.out).2.1)
        (case side7 => exact qC (Kd.R_reads' HO175.out).2.2)
        (case side8 => exact (Kd.R_reads' HO175.out).2.1)
        rintro e w53 ⟨rfl, hb⟩
        refine ⟨_, rfl, ?_⟩
        have n0_ := Aside0.mk (Kd.R_below (qR HO166.out) hb)
        have n1_ := Aside0.mk (Kd.R_below (qR HO169.out) hb)
        have n2_ := Aside0.mk (Kd.R_below (qR HO172.out) hb)
        have n3_ := Aside0.mk (Kd.R_below (qR HO175.out) hb)
        have n4_ := Aside0.mk (blk_below (qb BK176.out) hb)
        have n5_ := Aside0.mk (blk_below (qb BK189.out) hb)
        have n6_ := Aside0.mk (blk_below (qb BK202.out) hb)
        have n7_ := Aside0.mk (blk_below (qb BK215.out) hb)
        have n8_ := Aside0.mk (below_step (qW HB.out) hb)
        clear HO166
        clear HO169
        clear HO172
        clear HO175
        clear BK176
        clear BK189
        clear BK202
        clear BK215
        clear HB
        have HO166 := n0_
        have HO169 := n1_
        have HO172 := n2_
        have HO175 := n3_
        have BK176 := n4_
        have BK189 := n5_
        have BK202 := n6_
        have BK215 := n7_
        have HB := n8_
        clear n0_ n1_ n2_ n3_ n4_ n5_ n6_ n7_ n8_
        (try clear hb)
        (try clear hb2)
        (try clear hk)
        (try clear hi)
        refine hK.out _ _ ⟨(blk_cell BK176.out 0).trans rfl, (blk_cell BK176.out 1).trans rfl, (blk_cell BK176.out 2).trans rfl, (blk_cell BK176.out 3).trans rfl⟩ (fun hHeld => ?_)
        clear hK K
        refine norm_ (a' := ?_) ?_ ?_
        rotate_left
        ·show Act.put _ (some 17) _ = _
         simp only [Act.put, List.setIfInBounds_toArray, List.set_cons_zero, List.set_cons_succ, i64_w, i32_w]
         rfl
        exact norm_ (by simp only [putAll, Act.put, List.setIfInBounds_toArray, List.set_cons_zero, List.set_cons_succ]) (hCont (gb215) _ ⟨hHeld, (qR HO166.out), (qR HO169.out), (qR HO172.out), (qR HO175.out), (qb BK176.out), (qb BK189.out), (qb BK202.out), (qb BK215.out), GW215.out, GE215.out, NB176_215.out, NB215_176.out, NB189_215.out, NB215_189.out, NB202_215.out, NB215_202.out, (qW HB.out)⟩)
      ·skip
       refine box_step ?hg (N := 4) ?hd (cs := #[.int .u8 0, .int .u8 0, .int .u16 0, .int .i64 0]) (t := 56) ?hr ?_; (case hd => rfl); (case hg => rfl); (case hr => first | (go_simp; done) | (go_simp; rfl))
       intro gb215 hg w51 hbox hb
       have n0_ := Aside0.mk (Kd.R_below (qR HO166.out) hb)
       have n1_ := Aside0.mk (Kd.R_below (qR HO169.out) hb)
       have n2_ := Aside0.mk (Kd.R_below (qR HO172.out) hb)
       have n3_ := Aside0.mk (Kd.R_below (qR HO175.out) hb)
       have n4_ := Aside0.mk (blk_below (qb BK176.out) hb)
       have n5_ := Aside0.mk (blk_below (qb BK189.out) hb)
       have n6_ := Aside0.mk (blk_below (qb BK202.out) hb)
       have n7_ := Aside0.mk (below_step (qW HB.out) hb)
       have n8_ := Aside0.mk (hbox)
       have n9_ := Aside0.mk ((by rw [hg]; exact (below_size (qW HB.out)) : w.heap.size ≤ gb215))
       have n10_ := Aside0.mk ((by rw [hg]; exact (below_size (qW HB.out)) : w.heap.size ≤ gb215))
       have n11_ := Aside0.mk ((by rw [hg]; exact Nat.ne_of_lt (blk_lt (qb BK176.out)) : gb176 ≠ gb215))
       have n12_ := Aside0.mk ((by rw [hg]; exact Nat.ne_of_gt (blk_lt (qb BK176.out)) : gb215 ≠ gb176))
       have n13_ := Aside0.mk ((by rw [hg]; exact Nat.ne_of_lt (blk_lt (qb BK189.out)) : gb189 ≠ gb215))
       have n14_ := Aside0.mk ((by rw [hg]; exact Nat.ne_of_gt (blk_lt (qb BK189.out)) : gb215 ≠ gb189))
       have n15_ := Aside0.mk ((by rw [hg]; exact Nat.ne_of_lt (blk_lt (qb BK202.out)) : gb202 ≠ gb215))
       have n16_ := Aside0.mk ((by rw [hg]; exact Nat.ne_of_gt (blk_lt (qb BK202.out)) : gb215 ≠ gb202))
       clear HO166
       clear HO169
       clear HO172
       clear HO175
       clear BK176
       clear BK189
       clear BK202
       clear HB
       have HO166 := n0_
       have HO169 := n1_
       have HO172 := n2_
       have HO175 := n3_
       have BK176 := n4_
       have BK189 := n5_
       have BK202 := n6_
       have HB := n7_
       have BK215 := n8_
       have GW215 := n9_
       have GE215 := n10_
       have NB176_215 := n11_
       have NB215_176 := n12_
       have NB189_215 := n13_
       have NB215_189 := n14_
       have NB202_215 := n15_
       have NB215_202 := n16_
       clear n0_ n1_ n2_ n3_ n4_ n5_ n6_ n7_ n8_ n9_ n10_ n11_ n12_ n13_ n14_ n15_ n16_
       clear hb hbox hg
       refine hK.out _ _ ⟨(blk_cell BK176.out 0).trans rfl, (blk_cell BK176.out 1).trans rfl, (blk_cell BK176.out 2).trans rfl, (blk_cell BK176.out 3).trans rfl⟩ (fun hHeld => ?_)
       clear hK K
       refine norm_ (a' := ?_) ?_ ?_
       rotate_left
       ·show Act.put _ (some 4) _ = _
        simp only [Act.put, List.setIfInBounds_toArray, List.set_cons_zero, List.set_cons_succ, i64_w, i32_w]
        rfl
       refine one_ (i := 2) (N := some 16) #[true, true, true, false, true, false] rfl rfl (by kernel_rfl) (by decide) (fun K hK => ?_)
       refine goes_ Try.func65 (by kernel_rfl) rfl #[] (by rfl) rfl rfl (by (try simp only [List.map_toArray, List.map_cons, List.map_nil]); first | done | rfl | (simp only [List.length_drop, List.length_take]; rfl)) ?_
       with_reducible refine (garderoberef16_Null.calls  t207 t208 t209 t210 _ A9.out).mono ?_
       rintro e w52 ⟨rfl, hb⟩
       refine ⟨_, rfl, ?_⟩
       have n0_ := Aside0.mk (Kd.R_below (qR HO166.out) hb)
       have n1_ := Aside0.mk (Kd.R_below (qR HO169.out) hb)
       have n2_ := Aside0.mk (Kd.R_below (qR HO172.out) hb)
       have n3_ := Aside0.mk (Kd.R_below (qR HO175.out) hb)
       have n4_ := Aside0.mk (blk_below (qb BK176.out) hb)
       have n5_ := Aside0.mk (blk_below (qb BK189.out) hb)
       have n6_ := Aside0.mk (blk_below (qb BK202.out) hb)
       have n7_ := Aside0.mk (blk_below (qb BK215.out) hb)
       have n8_ := Aside0.mk (below_step (qW HB.out) hb)
       clear HO166
       clear HO169
       clear HO172
       clear HO175
       clear BK176
       clear BK189
       clear BK202
       clear BK215
       clear HB
       have HO166 := n0_
       have HO169 := n1_
       have HO172 := n2_
       have HO175 := n3_
       have BK176 := n4_
       have BK189 := n5_
       have BK202 := n6_
       have BK215 := n7_
       have HB := n8_
       clear n0_ n1_ n2_ n3_ n4_ n5_ n6_ n7_ n8_
       (try clear hb)
       (try clear hb2)
       (try clear hk)
       (try clear hi)
       refine hK.out _ _ ⟨(blk_cell BK176.out 0).trans rfl, (blk_cell BK176.out 1).trans rfl, (blk_cell BK176.out 2).trans rfl, (blk_cell BK176.out 3).trans rfl⟩ (fun hHeld => ?_)
       clear hK K
       refine norm_ (a' := ?_) ?_ ?_
       rotate_left
       ·show Act.put _ (some 16) _ = _
        simp only [Act.put, List.setIfInBounds_toArray, List.set_cons_zero, List.set_cons_succ, i64_w, i32_w]
        rfl
       refine one_ (i := 3) (N := some 17) #[true, true, true, true, true, false] rfl rfl (by kernel_rfl) (by decide) (fun K hK => ?_)
       refine goes_ Try.func34 (by kernel_rfl) rfl #[.agg #[.slice Ao21 t164.length co21, .slice Ao23 t167.length co23, .slice Ao24 t170.length co24, .slice Ao25 t173.length co25], .agg #[.int .u8 t203, .int .u8 t204, .int .u16 t205, .int .i64 t206], .agg #[.int .u8 t207, .int .u8 t208, .int .u16 t209, .int .i64 t210]] (by rfl) rfl rfl (by (try simp only [List.map_toArray, List.map_cons, List.map_nil]); first | done | rfl | (simp only [List.length_drop, List.length_take]; rfl)) ?_
       with_reducible refine (vals_Join.calls k _ _ t164 _ _ t167 _ _ t170 _ _ t173 t203 t204 t205 t206 t207 t208 t209 t210 t211 t212 t213 t214 _ ?side1 ?side2 ?side3 ?side4 ?side5 ?side6 ?side7 ?side8 A10.out).mono ?_
       (case side1 => exact qC (Kd.R_reads' HO166.out).2.2)
       (case side2 => exact (Kd.R_reads' HO166.out).2.1)
       (case side3 => exact qC (Kd.R_reads' HO169.out).2.2)
       (case side4 => exact (Kd.R_reads' HO169.out).2.1)
       (case side5 => exact qC (Kd.R_reads' HO172.out).2.2)
       (case side6 => exact (Kd.R_reads' HO172.out).2.1)
       (case side7 => exact qC (Kd.R_reads' HO175.out).2.2)
       (case side8 => exact (Kd.R_reads' HO175.out).2.1)
       rintro e w53 ⟨rfl, hb⟩
       refine ⟨_, rfl, ?_⟩
       have n0_ := Aside0.mk (Kd.R_below (qR HO166.out) hb)
       have n1_ := Aside0.mk (Kd.R_below (qR HO169.out) hb)
       have n2_ := Aside0.mk (Kd.R_below (qR HO172.out) hb)
       have n3_ := Aside0.mk (Kd.R_below (qR HO175.out) hb)
       have n4_ := Aside0.mk (blk_below (qb BK176.out) hb)
       have n5_ := Aside0.mk (blk_below (qb BK189.out) hb)
       have n6_ := Aside0.mk (blk_below (qb BK202.out) hb)
       have n7_ := Aside0.mk (blk_below (qb BK215.out) hb)
       have n8_ := Aside0.mk (below_step (qW HB.out) hb)
       clear HO166
       clear HO169
       clear HO172
       clear HO175
       clear BK176
       clear BK189
       clear BK202
       clear BK215
       clear HB
       have HO166 := n0_
       have HO169 := n1_
       have HO172 := n2_
       have HO175 := n3_
       have BK176 := n4_
       have BK189 := n5_
       have BK202 := n6_
       have BK215 := n7_
       have HB := n8_
       clear n0_ n1_ n2_ n3_ n4_ n5_ n6_ n7_ n8_
       (try clear hb)
       (try clear hb2)
       (try clear hk)
       (try clear hi)
       refine hK.out _ _ ⟨(blk_cell BK176.out 0).trans rfl, (blk_cell BK176.out 1).trans rfl, (blk_cell BK176.out 2).trans rfl, (blk_cell BK176.out 3).trans rfl⟩ (fun hHeld => ?_)
       clear hK K
       refine norm_ (a' := ?_) ?_ ?_
       rotate_left
       ·show Act.put _ (some 17) _ = _
        simp only [Act.put, List.setIfInBounds_toArray, List.set_cons_zero, List.set_cons_succ, i64_w, i32_w]
        rfl
       exact norm_ (by simp only [putAll, Act.put, List.setIfInBounds_toArray, List.set_cons_zero, List.set_cons_succ]) (hCont (gb215) _ ⟨hHeld, (qR HO166.out), (qR HO169.out), (qR HO172.out), (qR HO175.out), (qb BK176.out), (qb BK189.out), (qb BK202.out), (qb BK215.out), GW215.out, GE215.out, NB176_215.out, NB215_176.out, NB189_215.out, NB215_189.out, NB202_215.out, NB215_202.out, (qW HB.out)⟩)
     ·skip
      refine box_step ?hg (N := 4) ?hd (cs := #[.int .u8 0, .int .u8 0, .int .u16 0, .int .i64 0]) (t := 56) ?hr ?_; (case hd => rfl); (case hg => rfl); (case hr => first | (go_simp; done) | (go_simp; rfl))
      intro gb215 hg w50 hbox hb
      have n0_ := Aside0.mk (Kd.R_below (qR HO166.out) hb)
      have n1_ := Aside0.mk (Kd.R_below (qR HO169.out) hb)
      have n2_ := Aside0.mk (Kd.R_below (qR HO172.out) hb)
      have n3_ := Aside0.mk (Kd.R_below (qR HO175.out) hb)
      have n4_ := Aside0.mk (blk_below (qb BK176.out) hb)
      have n5_ := Aside0.mk (blk_below (qb BK189.out) hb)
      have n6_ := Aside0.mk (blk_below (qb BK202.out) hb)
      have n7_ := Aside0.mk (below_step (qW HB.out) hb)
      have n8_ := Aside0.mk (hbox)
      have n9_ := Aside0.mk ((by rw [hg]; exact (below_size (qW HB.out)) : w.heap.size ≤ gb215))
      have n10_ := Aside0.mk ((by rw [hg]; exact (below_size (qW HB.out)) : w.heap.size ≤ gb215))
      have n11_ := Aside0.mk ((by rw [hg]; exact Nat.ne_of_lt (blk_lt (qb BK176.out)) : gb176 ≠ gb215))
      have n12_ := Aside0.mk ((by rw [hg]; exact Nat.ne_of_gt (blk_lt (qb BK176.out)) : gb215 ≠ gb176))
      have n13_ := Aside0.mk ((by rw [hg]; exact Nat.ne_of_lt (blk_lt (qb BK189.out)) : gb189 ≠ gb215))
      have n14_ := Aside0.mk ((by rw [hg]; exact Nat.ne_of_gt (blk_lt (qb BK189.out)) : gb215 ≠ gb189))
      have n15_ := Aside0.mk ((by rw [hg]; exact Nat.ne_of_lt (blk_lt (qb BK202.out)) : gb202 ≠ gb215))
      have n16_ := Aside0.mk ((by rw [hg]; exact Nat.ne_of_gt (blk_lt (qb BK202.out)) : gb215 ≠ gb202))
      clear HO166
      clear HO169
      clear HO172
      clear HO175
      clear BK176
      clear BK189
      clear BK202
      clear HB
      have HO166 := n0_
      have HO169 := n1_
      have HO172 := n2_
      have HO175 := n3_
      have BK176 := n4_
      have BK189 := n5_
      have BK202 := n6_
      have HB := n7_
      have BK215 := n8_
      have GW215 := n9_
      have GE215 := n10_
      have NB176_215 := n11_
      have NB215_176 := n12_
      have NB189_215 := n13_
      have NB215_189 := n14_
      have NB202_215 := n15_
      have NB215_202 := n16_
      clear n0_ n1_ n2_ n3_ n4_ n5_ n6_ n7_ n8_ n9_ n10_ n11_ n12_ n13_ n14_ n15_ n16_
      clear hb hbox hg
      refine hK.out _ _ ⟨(blk_cell BK176.out 0).trans rfl, (blk_cell BK176.out 1).trans rfl, (blk_cell BK176.out 2).trans rfl, (blk_cell BK176.out 3).trans rfl⟩ (fun hHeld => ?_)
      clear hK K
      refine norm_ (a' := ?_) ?_ ?_
      rotate_left
      ·show Act.put _ (some 4) _ = _
       simp only [Act.put, List.setIfInBounds_toArray, List.set_cons_zero, List.set_cons_succ, i64_w, i32_w]
       rfl
      refine one_ (i := 1) (N := some 15) #[true, true, false, false, true, false] rfl rfl (by kernel_rfl) (by decide) (fun K hK => ?_)
      refine goes_ Try.func59 (by kernel_rfl) rfl #[] (by rfl) rfl rfl (by (try simp only [List.map_toArray, List.map_cons, List.map_nil]); first | done | rfl | (simp only [List.length_drop, List.length_take]; rfl)) ?_
      with_reducible refine (garderoberef16_Num.calls  t203 t204 t205 t206 _ A8.out).mono ?_
      rintro e w51 ⟨rfl, hb⟩
      refine ⟨_, rfl, ?_⟩
      have n0_ := Aside0.mk (Kd.R_below (qR HO166.out) hb)
      have n1_ := Aside0.mk (Kd.R_below (qR HO169.out) hb)
      have n2_ := Aside0.mk (Kd.R_below (qR HO172.out) hb)
      have n3_ := Aside0.mk (Kd.R_below (qR HO175.out) hb)
      have n4_ := Aside0.mk (blk_below (qb BK176.out) hb)
      have n5_ := Aside0.mk (blk_below (qb BK189.out) hb)
      have n6_ := Aside0.mk (blk_below (qb BK202.out) hb)
      have n7_ := Aside0.mk (blk_below (qb BK215.out) hb)
      have n8_ := Aside0.mk (below_step (qW HB.out) hb)
      clear HO166
      clear HO169
      clear HO172
      clear HO175
      clear BK176
      clear BK189
      clear BK202
      clear BK215
      clear HB
      have HO166 := n0_
      have HO169 := n1_
      have HO172 := n2_
      have HO175 := n3_
      have BK176 := n4_
      have BK189 := n5_
      have BK202 := n6_
      have BK215 := n7_
      have HB := n8_
      clear n0_ n1_ n2_ n3_ n4_ n5_ n6_ n7_ n8_
      (try clear hb)
      (try clear hb2)
      (try clear hk)
      (try clear hi)
      refine hK.out _ _ ⟨(blk_cell BK176.out 0).trans rfl, (blk_cell BK176.out 1).trans rfl, (blk_cell BK176.out 2).trans rfl, (blk_cell BK176.out 3).trans rfl⟩ (fun hHeld => ?_)
      clear hK K
      refine norm_ (a' := ?_) ?_ ?_
      rotate_left
      ·show Act.put _ (some 15) _ = _
       simp only [Act.put, List.setIfInBounds_toArray, List.set_cons_zero, List.set_cons_succ, i64_w, i32_w]
       rfl
      refine one_ (i := 2) (N := some 16) #[true, true, true, false, true, false] rfl rfl (by kernel_rfl) (by decide) (fun K hK => ?_)
      refine goes_ Try.func65 (by kernel_rfl) rfl #[] (by rfl) rfl rfl (by (try simp only [List.map_toArray, List.map_cons, List.map_nil]); first | done | rfl | (simp only [List.length_drop, List.length_take]; rfl)) ?_
      with_reducible refine (garderoberef16_Null.calls  t207 t208 t209 t210 _ A9.out).mono ?_
      rintro e w52 ⟨rfl, hb⟩
      refine ⟨_, rfl, ?_⟩
      have n0_ := Aside0.mk (Kd.R_below (qR HO166.out) hb)
      have n1_ := Aside0.mk (Kd.R_below (qR HO169.out) hb)
      have n2_ := Aside0.mk (Kd.R_below (qR HO172.out) hb)
      have n3_ := Aside0.mk (Kd.R_below (qR HO175.out) hb)
      have n4_ := Aside0.mk (blk_below (qb BK176.out) hb)
      have n5_ := Aside0.mk (blk_below (qb BK189.out) hb)
      have n6_ := Aside0.mk (blk_below (qb BK202.out) hb)
      have n7_ := Aside0.mk (blk_below (qb BK215.out) hb)
      have n8_ := Aside0.mk (below_step (qW HB.out) hb)
      clear HO166
      clear HO169
      clear HO172
      clear HO175
      clear BK176
      clear BK189
      clear BK202
      clear BK215
      clear HB
      have HO166 := n0_
      have HO169 := n1_
      have HO172 := n2_
      have HO175 := n3_
      have BK176 := n4_
      have BK189 := n5_
      have BK202 := n6_
      have BK215 := n7_
      have HB := n8_
      clear n0_ n1_ n2_ n3_ n4_ n5_ n6_ n7_ n8_
      (try clear hb)
      (try clear hb2)
      (try clear hk)
      (try clear hi)
      refine hK.out _ _ ⟨(blk_cell BK176.out 0).trans rfl, (blk_cell BK176.out 1).trans rfl, (blk_cell BK176.out 2).trans rfl, (blk_cell BK176.out 3).trans rfl⟩ (fun hHeld => ?_)
      clear hK K
      refine norm_ (a' := ?_) ?_ ?_
      rotate_left
      ·show Act.put _ (some 16) _ = _
       simp only [Act.put, List.setIfInBounds_toArray, List.set_cons_zero, List.set_cons_succ, i64_w, i32_w]
       rfl
      refine one_ (i := 3) (N := some 17) #[true, true, true, true, true, false] rfl rfl (by kernel_rfl) (by decide) (fun K hK => ?_)
      refine goes_ Try.func34 (by kernel_rfl) rfl #[.agg #[.slice Ao21 t164.length co21, .slice Ao23 t167.length co23, .slice Ao24 t170.length co24, .slice Ao25 t173.length co25], .agg #[.int .u8 t203, .int .u8 t204, .int .u16 t205, .int .i64 t206], .agg #[.int .u8 t207, .int .u8 t208, .int .u16 t209, .int .i64 t210]] (by rfl) rfl rfl (by (try simp only [List.map_toArray, List.map_cons, List.map_nil]); first | done | rfl | (simp only [List.length_drop, List.length_take]; rfl)) ?_
      with_reducible refine (vals_Join.calls k _ _ t164 _ _ t167 _ _ t170 _ _ t173 t203 t204 t205 t206 t207 t208 t209 t210 t211 t212 t213 t214 _ ?side1 ?side2 ?side3 ?side4 ?side5 ?side6 ?side7 ?side8 A10.out).mono ?_
      (case side1 => exact qC (Kd.R_reads' HO166.out).2.2)
      (case side2 => exact (Kd.R_reads' HO166.out).2.1)
      (case side3 => exact qC (Kd.R_reads' HO169.out).2.2)
      (case side4 => exact (Kd.R_reads' HO169.out).2.1)
      (case side5 => exact qC (Kd.R_reads' HO172.out).2.2)
      (case side6 => exact (Kd.R_reads' HO172.out).2.1)
      (case side7 => exact qC (Kd.R_reads' HO175.out).2.2)
      (case side8 => exact (Kd.R_reads' HO175.out).2.1)
      rintro e w53 ⟨rfl, hb⟩
      refine ⟨_, rfl, ?_⟩
      have n0_ := Aside0.mk (Kd.R_below (qR HO166.out) hb)
      have n1_ := Aside0.mk (Kd.R_below (qR HO169.out) hb)
      have n2_ := Aside0.mk (Kd.R_below (qR HO172.out) hb)
      have n3_ := Aside0.mk (Kd.R_below (qR HO175.out) hb)
      have n4_ := Aside0.mk (blk_below (qb BK176.out) hb)
      have n5_ := Aside0.mk (blk_below (qb BK189.out) hb)
      have n6_ := Aside0.mk (blk_below (qb BK202.out) hb)
      have n7_ := Aside0.mk (blk_below (qb BK215.out) hb)
      have n8_ := Aside0.mk (below_step (qW HB.out) hb)
      clear HO166
      clear HO169
      clear HO172
      clear HO175
      clear BK176
      clear BK189
      clear BK202
      clear BK215
      clear HB
      have HO166 := n0_
      have HO169 := n1_
      have HO172 := n2_
      have HO175 := n3_
      have BK176 := n4_
      have BK189 := n5_
      have BK202 := n6_
      have BK215 := n7_
      have HB := n8_
      clear n0_ n1_ n2_ n3_ n4_ n5_ n6_ n7_ n8_
      (try clear hb)
      (try clear hb2)
      (try clear hk)
      (try clear hi)
      refine hK.out _ _ ⟨(blk_cell BK176.out 0).trans rfl, (blk_cell BK176.out 1).trans rfl, (blk_cell BK176.out 2).trans rfl, (blk_cell BK176.out 3).trans rfl⟩ (fun hHeld => ?_)
      clear hK K
      refine norm_ (a' := ?_) ?_ ?_
      rotate_left
      ·show Act.put _ (some 17) _ = _
       simp only [Act.put, List.setIfInBounds_toArray, List.set_cons_zero, List.set_cons_succ, i64_w, i32_w]
       rfl
      exact norm_ (by simp only [putAll, Act.put, List.setIfInBounds_toArray, List.set_cons_zero, List.set_cons_succ]) (hCont (gb215) _ ⟨hHeld, (qR HO166.out), (qR HO169.out), (qR HO172.out), (qR HO175.out), (qb BK176.out), (qb BK189.out), (qb BK202.out), (qb BK215.out), GW215.out, GE215.out, NB176_215.out, NB215_176.out, NB189_215.out, NB215_189.out, NB202_215.out, NB215_202.out, (qW HB.out)⟩)
    rintro gb215 w54 ⟨hS_, h0_, h1_, h2_, h3_, h4_, h5_, h6_, h7_, h8_, h9_, h10_, h11_, h12_, h13_, h14_, h15_, h16_⟩
    have n0_ : Aside0 (Kd.R k103 103 w54 w.heap.size (fun _ => True) (.slice Ao21 t164.length co21) t164) := ⟨h0_⟩
    have n1_ : Aside0 (Kd.R k38 38 w54 w.heap.size (fun _ => True) (.slice Ao23 t167.length co23) t167) := ⟨h1_⟩
    have n2_ : Aside0 (Kd.R k206 206 w54 w.heap.size (fun _ => True) (.slice Ao24 t170.length co24) t170) := ⟨h2_⟩
    have n3_ : Aside0 (Kd.R k117 117 w54 w.heap.size (fun _ => True) (.slice Ao25 t173.length co25) t173) := ⟨h3_⟩
    have n4_ : Aside0 (w54.heap[gb176]? = some (.cells #[.slice Ao21 t164.length co21, .slice Ao23 t167.length co23, .slice Ao24 t170.length co24, .slice Ao25 t173.length co25] 27 (0, 0))) := ⟨h4_⟩
    have n5_ : Aside0 (w54.heap[gb189]? = some (.cells #[.int .u8 t185, .int .u8 t186, .int .u16 t187, .int .i64 t188] 56 (0, 0))) := ⟨h5_⟩
    have n6_ : Aside0 (w54.heap[gb202]? = some (.cells #[.int .u8 t198, .int .u8 t199, .int .u16 t200, .int .i64 t201] 56 (0, 0))) := ⟨h6_⟩
    have n7_ : Aside0 (w54.heap[gb215]? = some (.cells #[.int .u8 0, .int .u8 0, .int .u16 0, .int .i64 0] 56 (0, 0))) := ⟨h7_⟩
    have n8_ : Aside0 (w.heap.size ≤ gb215) := ⟨h8_⟩
    have n9_ : Aside0 (w.heap.size ≤ gb215) := ⟨h9_⟩
    have n10_ : Aside0 (gb176 ≠ gb215) := ⟨h10_⟩
    have n11_ : Aside0 (gb215 ≠ gb176) := ⟨h11_⟩
    have n12_ : Aside0 (gb189 ≠ gb215) := ⟨h12_⟩
    have n13_ : Aside0 (gb215 ≠ gb189) := ⟨h13_⟩
    have n14_ : Aside0 (gb202 ≠ gb215) := ⟨h14_⟩
    have n15_ : Aside0 (gb215 ≠ gb202) := ⟨h15_⟩
    have n16_ : Aside0 (Below w.heap.size w w54) := ⟨h16_⟩
    clear HO166
    clear HO169
    clear HO172
    clear HO175
    clear BK176
    clear BK189
    clear BK202
    clear HB
    clear h0_ h1_ h2_ h3_ h4_ h5_ h6_ h7_ h8_ h9_ h10_ h11_ h12_ h13_ h14_ h15_ h16_
    have HO166 := n0_
    have HO169 := n1_
    have HO172 := n2_
    have HO175 := n3_
    have BK176 := n4_
    have BK189 := n5_
    have BK202 := n6_
    have BK215 := n7_
    have GW215 := n8_
    have GE215 := n9_
    have NB176_215 := n10_
    have NB215_176 := n11_
    have NB189_215 := n12_
    have NB215_189 := n13_
    have NB202_215 := n14_
    have NB215_202 := n15_
    have HB := n16_
    clear n0_ n1_ n2_ n3_ n4_ n5_ n6_ n7_ n8_ n9_ n10_ n11_ n12_ n13_ n14_ n15_ n16_
    have hHeld : w54.cell? ⟨gb176, 0, none⟩ = some (.slice Ao21 t164.length co21) ∧ w54.cell? ⟨gb176, 1, none⟩ = some (.slice Ao23 t167.length co23) ∧ w54.cell? ⟨gb176, 2, none⟩ = some (.slice Ao24 t170.length co24) ∧ w54.cell? ⟨gb176, 3, none⟩ = some (.slice Ao25 t173.length co25) := hS_
    refine norm_ (a' := ?_) ?_ ?_
    rotate_left
    ·simp only [putAll, Act.put, List.setIfInBounds_toArray, List.set_cons_zero, List.set_cons_succ]
     rfl
    refine one_ (i := 5) (N := none) #[true, true, true, true, true, true] rfl rfl (by kernel_rfl) (by decide) (fun K hK => ?_)
    have hs55 : w54.cell? ⟨gb215, 0, none⟩ = some (.int .u8 0) := (blk_cell BK215.out 0).trans rfl
    have hfs55 := blk_frozen BK215.out 0
    have hns55_0 := NB176_215.out
    have hns55_1 := NB189_215.out
    have hns55_2 := NB202_215.out
    have hms55_0 := NB215_176.out
    have hms55_1 := NB215_189.out
    have hms55_2 := NB215_202.out
    have hs56 : w54.cell? ⟨gb215, 1, none⟩ = some (.int .u8 0) := (blk_cell BK215.out 1).trans rfl
    have hfs56 := blk_frozen BK215.out 1
    have hns56_0 := NB176_215.out
    have hns56_1 := NB189_215.out
    have hns56_2 := NB202_215.out
    have hms56_0 := NB215_176.out
    have hms56_1 := NB215_189.out
    have hms56_2 := NB215_202.out
    have hs57 : w54.cell? ⟨gb215, 2, none⟩ = some (.int .u16 0) := (blk_cell BK215.out 2).trans rfl
    have hfs57 := blk_frozen BK215.out 2
    have hns57_0 := NB176_215.out
    have hns57_1 := NB189_215.out
    have hns57_2 := NB202_215.out
    have hms57_0 := NB215_176.out
    have hms57_1 := NB215_189.out
    have hms57_2 := NB215_202.out
    have hs58 : w54.cell? ⟨gb215, 3, none⟩ = some (.int .i64 0) := (blk_cell BK215.out 3).trans rfl
    have hfs58 := blk_frozen BK215.out 3
    have hns58_0 := NB176_215.out
    have hns58_1 := NB189_215.out
    have hns58_2 := NB202_215.out
    have hms58_0 := NB215_176.out
    have hms58_1 := NB215_189.out
    have hms58_2 := NB215_202.out
    refine skip_ (w1 := ?_) (by rfl) rfl ?_ ?_
    rotate_left
    ·go_simp
     rfl
    refine hK.out _ _ ⟨((cell_far (p := ⟨gb215, _, none⟩) NB176_215.out _).trans (((cell_far (p := ⟨gb215, _, none⟩) NB176_215.out _).trans (((cell_far (p := ⟨gb215, _, none⟩) NB176_215.out _).trans (((cell_far (p := ⟨gb215, _, none⟩) NB176_215.out _).trans (hHeld.1)))))))), ((cell_far (p := ⟨gb215, _, none⟩) NB176_215.out _).trans (((cell_far (p := ⟨gb215, _, none⟩) NB176_215.out _).trans (((cell_far (p := ⟨gb215, _, none⟩) NB176_215.out _).trans (((cell_far (p := ⟨gb215, _, none⟩) NB176_215.out _).trans (hHeld.2.1)))))))), ((cell_far (p := ⟨gb215, _, none⟩) NB176_215.out _).trans (((cell_far (p := ⟨gb215, _, none⟩) NB176_215.out _).trans (((cell_far (p := ⟨gb215, _, none⟩) NB176_215.out _).trans (((cell_far (p := ⟨gb215, _, none⟩) NB176_215.out _).trans (hHeld.2.2.1)))))))), ((cell_far (p := ⟨gb215, _, none⟩) NB176_215.out _).trans (((cell_far (p := ⟨gb215, _, none⟩) NB176_215.out _).trans (((cell_far (p := ⟨gb215, _, none⟩) NB176_215.out _).trans (((cell_far (p := ⟨gb215, _, none⟩) NB176_215.out _).trans (hHeld.2.2.2))))))))⟩ (fun hHeld => ?_)
    clear hK K
    refine done_ (by kernel_rfl) ?_
    try go_wp2
    have n0_ : Aside0 (Kd.R k103 103 ((((w54.setCell ⟨gb215, 0, none⟩ (.int .u8 t211)).setCell ⟨gb215, 1, none⟩ (.int .u8 t212)).setCell ⟨gb215, 2, none⟩ (.int .u16 t213)).setCell ⟨gb215, 3, none⟩ (.int .i64 t214)) w.heap.size (fun _ => True) (.slice Ao21 t164.length co21) t164) := ⟨by (with_reducible repeat (first | apply Kd.R_alloc | apply Kd.R_drewN | apply Kd.R_drew)); exact Kd.R_mono (Kd.R_far (p := ⟨gb215, 3, none⟩) (Kd.R_far (p := ⟨gb215, 2, none⟩) (Kd.R_far (p := ⟨gb215, 1, none⟩) (Kd.R_far (p := ⟨gb215, 0, none⟩) (Kd.R_types HO166.out BK215.out (by decide)) (fun _ hk => hk.2) (.int .u8 t211)) (fun _ hk => hk.2) (.int .u8 t212)) (fun _ hk => hk.2) (.int .u16 t213)) (fun _ hk => hk.2) (.int .i64 t214)) (fun _ hk => trivial)⟩
    have n1_ : Aside0 (Kd.R k38 38 ((((w54.setCell ⟨gb215, 0, none⟩ (.int .u8 t211)).setCell ⟨gb215, 1, none⟩ (.int .u8 t212)).setCell ⟨gb215, 2, none⟩ (.int .u16 t213)).setCell ⟨gb215, 3, none⟩ (.int .i64 t214)) w.heap.size (fun _ => True) (.slice Ao23 t167.length co23) t167) := ⟨by (with_reducible repeat (first | apply Kd.R_alloc | apply Kd.R_drewN | apply Kd.R_drew)); exact Kd.R_mono (Kd.R_far (p := ⟨gb215, 3, none⟩) (Kd.R_far (p := ⟨gb215, 2, none⟩) (Kd.R_far (p := ⟨gb215, 1, none⟩) (Kd.R_far (p := ⟨gb215, 0, none⟩) (Kd.R_types HO169.out BK215.out (by decide)) (fun _ hk => hk.2) (.int .u8 t211)) (fun _ hk => hk.2) (.int .u8 t212)) (fun _ hk => hk.2) (.int .u16 t213)) (fun _ hk => hk.2) (.int .i64 t214)) (fun _ hk => trivial)⟩
    have n2_ : Aside0 (Kd.R k206 206 ((((w54.setCell ⟨gb215, 0, none⟩ (.int .u8 t211)).setCell ⟨gb215, 1, none⟩ (.int .u8 t212)).setCell ⟨gb215, 2, none⟩ (.int .u16 t213)).setCell ⟨gb215, 3, none⟩ (.int .i64 t214)) w.heap.size (fun _ => True) (.slice Ao24 t170.length co24) t170) := ⟨by (with_reducible repeat (first | apply Kd.R_alloc | apply Kd.R_drewN | apply Kd.R_drew)); exact Kd.R_mono (Kd.R_far (p := ⟨gb215, 3, none⟩) (Kd.R_far (p := ⟨gb215, 2, none⟩) (Kd.R_far (p := ⟨gb215, 1, none⟩) (Kd.R_far (p := ⟨gb215, 0, none⟩) (Kd.R_types HO172.out BK215.out (by decide)) (fun _ hk => hk.2) (.int .u8 t211)) (fun _ hk => hk.2) (.int .u8 t212)) (fun _ hk => hk.2) (.int .u16 t213)) (fun _ hk => hk.2) (.int .i64 t214)) (fun _ hk => trivial)⟩
    have n3_ : Aside0 (Kd.R k117 117 ((((w54.setCell ⟨gb215, 0, none⟩ (.int .u8 t211)).setCell ⟨gb215, 1, none⟩ (.int .u8 t212)).setCell ⟨gb215, 2, none⟩ (.int .u16 t213)).setCell ⟨gb215, 3, none⟩ (.int .i64 t214)) w.heap.size (fun _ => True) (.slice Ao25 t173.length co25) t173) := ⟨by (with_reducible repeat (first | apply Kd.R_alloc | apply Kd.R_drewN | apply Kd.R_drew)); exact Kd.R_mono (Kd.R_far (p := ⟨gb215, 3, none⟩) (Kd.R_far (p := ⟨gb215, 2, none⟩) (Kd.R_far (p := ⟨gb215, 1, none⟩) (Kd.R_far (p := ⟨gb215, 0, none⟩) (Kd.R_types HO175.out BK215.out (by decide)) (fun _ hk => hk.2) (.int .u8 t211)) (fun _ hk => hk.2) (.int .u8 t212)) (fun _ hk => hk.2) (.int .u16 t213)) (fun _ hk => hk.2) (.int .i64 t214)) (fun _ hk => trivial)⟩
    have n4_ : Aside0 (((((w54.setCell ⟨gb215, 0, none⟩ (.int .u8 t211)).setCell ⟨gb215, 1, none⟩ (.int .u8 t212)).setCell ⟨gb215, 2, none⟩ (.int .u16 t213)).setCell ⟨gb215, 3, none⟩ (.int .i64 t214)).heap[gb176]? = some (.cells #[.slice Ao21 t164.length co21, .slice Ao23 t167.length co23, .slice Ao24 t170.length co24, .slice Ao25 t173.length co25] 27 (0, 0))) := ⟨qf BK176.out⟩
    have n5_ : Aside0 (((((w54.setCell ⟨gb215, 0, none⟩ (.int .u8 t211)).setCell ⟨gb215, 1, none⟩ (.int .u8 t212)).setCell ⟨gb215, 2, none⟩ (.int .u16 t213)).setCell ⟨gb215, 3, none⟩ (.int .i64 t214)).heap[gb189]? = some (.cells #[.int .u8 t185, .int .u8 t186, .int .u16 t187, .int .i64 t188] 56 (0, 0))) := ⟨qf BK189.out⟩
    have n6_ : Aside0 (((((w54.setCell ⟨gb215, 0, none⟩ (.int .u8 t211)).setCell ⟨gb215, 1, none⟩ (.int .u8 t212)).setCell ⟨gb215, 2, none⟩ (.int .u16 t213)).setCell ⟨gb215, 3, none⟩ (.int .i64 t214)).heap[gb202]? = some (.cells #[.int .u8 t198, .int .u8 t199, .int .u16 t200, .int .i64 t201] 56 (0, 0))) := ⟨qf BK202.out⟩
    have n7_ : Aside0 (((((w54.setCell ⟨gb215, 0, none⟩ (.int .u8 t211)).setCell ⟨gb215, 1, none⟩ (.int .u8 t212)).setCell ⟨gb215, 2, none⟩ (.int .u16 t213)).setCell ⟨gb215, 3, none⟩ (.int .i64 t214)).heap[gb215]? = some (.cells #[.int .u8 t211, .int .u8 t212, .int .u16 t213, .int .i64 t214] 56 (0, 0))) := ⟨by (with_reducible repeat (first | refine blk_drewN ?_ _ | refine blk_drew ?_ | refine blk_alloc ?_ _)); refine blk_put (cs := #[.int .u8 t211, .int .u8 t212, .int .u16 t213, .int .i64 0]) ?_ 3 _ rfl; (with_reducible repeat (first | refine blk_drewN ?_ _ | refine blk_drew ?_ | refine blk_alloc ?_ _)); refine blk_put (cs := #[.int .u8 t211, .int .u8 t212, .int .u16 0, .int .i64 0]) ?_ 2 _ rfl; (with_reducible repeat (first | refine blk_drewN ?_ _ | refine blk_drew ?_ | refine blk_alloc ?_ _)); refine blk_put (cs := #[.int .u8 t211, .int .u8 0, .int .u16 0, .int .i64 0]) ?_ 1 _ rfl; (with_reducible repeat (first | refine blk_drewN ?_ _ | refine blk_drew ?_ | refine blk_alloc ?_ _)); refine blk_put (cs := #[.int .u8 0, .int .u8 0, .int .u16 0, .int .i64 0]) ?_ 0 _ rfl; (with_reducible repeat (first | refine blk_drewN ?_ _ | refine blk_drew ?_ | refine blk_alloc ?_ _)); exact BK215.out⟩
    have n8_ : Aside0 (Below w.heap.size w ((((w54.setCell ⟨gb215, 0, none⟩ (.int .u8 t211)).setCell ⟨gb215, 1, none⟩ (.int .u8 t212)).setCell ⟨gb215, 2, none⟩ (.int .u16 t213)).setCell ⟨gb215, 3, none⟩ (.int .i64 t214))) := ⟨qW HB.out⟩
    (try clear HO166)
    (try clear HO169)
    (try clear HO172)
    (try clear HO175)
    (try clear BK176)
    (try clear BK189)
    (try clear BK202)
    (try clear BK215)
    (try clear HB)
    generalize ((((w54.setCell ⟨gb215, 0, none⟩ (.int .u8 t211)).setCell ⟨gb215, 1, none⟩ (.int .u8 t212)).setCell ⟨gb215, 2, none⟩ (.int .u16 t213)).setCell ⟨gb215, 3, none⟩ (.int .i64 t214)) = w59 at n0_ n1_ n2_ n3_ n4_ n5_ n6_ n7_ n8_ ⊢
    have HO166 := n0_
    have HO169 := n1_
    have HO172 := n2_
    have HO175 := n3_
    have BK176 := n4_
    have BK189 := n5_
    have BK202 := n6_
    have BK215 := n7_
    have HB := n8_
    clear n0_ n1_ n2_ n3_ n4_ n5_ n6_ n7_ n8_
    have n0_ := Aside0.mk (Kd.R_drew HO166.out)
    have n1_ := Aside0.mk (Kd.R_drew HO169.out)
    have n2_ := Aside0.mk (Kd.R_drew HO172.out)
    have n3_ := Aside0.mk (Kd.R_drew HO175.out)
    have n4_ := Aside0.mk (blk_drew BK176.out)
    have n5_ := Aside0.mk (blk_drew BK189.out)
    have n6_ := Aside0.mk (blk_drew BK202.out)
    have n7_ := Aside0.mk (blk_drew BK215.out)
    have n8_ := Aside0.mk (below_drew1 HB.out)
    clear HO166
    clear HO169
    clear HO172
    clear HO175
    clear BK176
    clear BK189
    clear BK202
    clear BK215
    clear HB
    have HO166 := n0_
    have HO169 := n1_
    have HO172 := n2_
    have HO175 := n3_
    have BK176 := n4_
    have BK189 := n5_
    have BK202 := n6_
    have BK215 := n7_
    have HB := n8_
    clear n0_ n1_ n2_ n3_ n4_ n5_ n6_ n7_ n8_
    refine start_ (n := 20) (S := fun w' => w'.cell? ⟨gb189, 0, none⟩ = some (.int .u8 t185) ∧ w'.cell? ⟨gb189, 1, none⟩ = some (.int .u8 t186) ∧ w'.cell? ⟨gb189, 2, none⟩ = some (.int .u16 t187) ∧ w'.cell? ⟨gb189, 3, none⟩ = some (.int .i64 t188) ∧ w'.cell? ⟨gb202, 0, none⟩ = some (.int .u8 t198) ∧ w'.cell? ⟨gb202, 1, none⟩ = some (.int .u8 t199) ∧ w'.cell? ⟨gb202, 2, none⟩ = some (.int .u16 t200) ∧ w'.cell? ⟨gb202, 3, none⟩ = some (.int .i64 t201) ∧ w'.cell? ⟨gb215, 0, none⟩ = some (.int .u8 t211) ∧ w'.cell? ⟨gb215, 1, none⟩ = some (.int .u8 t212) ∧ w'.cell? ⟨gb215, 2, none⟩ = some (.int .u16 t213) ∧ w'.cell? ⟨gb215, 3, none⟩ = some (.int .i64 t214) ∧ w'.cell? ⟨gb176, 0, none⟩ = some (.slice Ao21 t164.length co21) ∧ w'.cell? ⟨gb176, 1, none⟩ = some (.slice Ao23 t167.length co23) ∧ w'.cell? ⟨gb176, 2, none⟩ = some (.slice Ao24 t170.length co24) ∧ w'.cell? ⟨gb176, 3, none⟩ = some (.slice Ao25 t173.length co25)) (ds := []) #[false, false, false, false, false, false, false, false, false, false, false, false, false, false, false, false, false, false, false, false] (by kernel_rfl) rfl rfl ⟨(blk_cell BK189.out 0).trans rfl, (blk_cell BK189.out 1).trans rfl, (blk_cell BK189.out 2).trans rfl, (blk_cell BK189.out 3).trans rfl, (blk_cell BK202.out 0).trans rfl, (blk_cell BK202.out 1).trans rfl, (blk_cell BK202.out 2).trans rfl, (blk_cell BK202.out 3).trans rfl, (blk_cell BK215.out 0).trans rfl, (blk_cell BK215.out 1).trans rfl, (blk_cell BK215.out 2).trans rfl, (blk_cell BK215.out 3).trans rfl, (blk_cell BK176.out 0).trans rfl, (blk_cell BK176.out 1).trans rfl, (blk_cell BK176.out 2).trans rfl, (blk_cell BK176.out 3).trans rfl⟩ (fun hHeld => ?_); refine with_tabW garderobelaw16_lives.tab5 garderobelaw16_lives.bits5 (fun HT_ HW_ => ?_)
    generalize w59.drew = w60 at HO166 HO169 HO172 HO175 BK176 BK189 BK202 BK215 HB hHeld ⊢
    refine take_ (i := 0) (N := some 18) (v := ?_) (a' := ?_) #[true, false, false, false, false, false, false, false, false, false, false, false, false, false, false, false, false, false, false, false] rfl rfl (take_ofW HT_.out HW_.out (by kernel_rfl)) (fun _ _ _ h => h) (Or.inl ⟨by rfl, ?_⟩) hHeld ?_ ?_
    rotate_left
    ·rintro w' ⟨s0, s1, s2, s3, s4, s5, s6, s7, s8, s9, s10, s11, s12, s13, s14, s15⟩
     go_simp
     with_reducible rfl
    rotate_left
    ·simp only [Act.put, List.setIfInBounds_toArray, List.set_cons_zero, List.set_cons_succ, i64_w, i32_w]
     rfl
    refine one_ (i := 1) (N := some 19) #[true, true, false, false, false, false, false, false, false, false, false, false, false, false, false, false, false, false, false, false] rfl rfl (one_of HT_.out (by kernel_rfl)) (by decide) (fun K hK => ?_)
    refine goes_ Try.func66 (by kernel_rfl) rfl #[.int .u8 6, .int .i64 0] (by rfl) rfl rfl (by (try simp only [List.map_toArray, List.map_cons, List.map_nil]); first | done | rfl | (simp only [List.length_drop, List.length_take]; rfl)) ?_
    with_reducible refine (garderoberef16_Ref.calls 6 0 t216 t217 t218 t219 _ A11.out).mono ?_
    rintro e w61 ⟨rfl, hb⟩
    refine ⟨_, rfl, ?_⟩
    have n0_ := Aside0.mk (Kd.R_below (qR HO166.out) hb)
    have n1_ := Aside0.mk (Kd.R_below (qR HO169.out) hb)
    have n2_ := Aside0.mk (Kd.R_below (qR HO172.out) hb)
    have n3_ := Aside0.mk (Kd.R_below (qR HO175.out) hb)
    have n4_ := Aside0.mk (blk_below (qb BK176.out) hb)
    have n5_ := Aside0.mk (blk_below (qb BK189.out) hb)
    have n6_ := Aside0.mk (blk_below (qb BK202.out) hb)
    have n7_ := Aside0.mk (blk_below (qb BK215.out) hb)
    have n8_ := Aside0.mk (below_step (qW HB.out) hb)
    clear HO166
    clear HO169
    clear HO172
    clear HO175
    clear BK176
    clear BK189
    clear BK202
    clear BK215
    clear HB
    have HO166 := n0_
    have HO169 := n1_
    have HO172 := n2_
    have HO175 := n3_
    have BK176 := n4_
    have BK189 := n5_
    have BK202 := n6_
    have BK215 := n7_
    have HB := n8_
    clear n0_ n1_ n2_ n3_ n4_ n5_ n6_ n7_ n8_
    (try clear hb)
    (try clear hb2)
    (try clear hk)
    (try clear hi)
    refine hK.out _ _ ⟨(blk_cell BK189.out 0).trans rfl, (blk_cell BK189.out 1).trans rfl, (blk_cell BK189.out 2).trans rfl, (blk_cell BK189.out 3).trans rfl, (blk_cell BK202.out 0).trans rfl, (blk_cell BK202.out 1).trans rfl, (blk_cell BK202.out 2).trans rfl, (blk_cell BK202.out 3).trans rfl, (blk_cell BK215.out 0).trans rfl, (blk_cell BK215.out 1).trans rfl, (blk_cell BK215.out 2).trans rfl, (blk_cell BK215.out 3).trans rfl, (blk_cell BK176.out 0).trans rfl, (blk_cell BK176.out 1).trans rfl, (blk_cell BK176.out 2).trans rfl, (blk_cell BK176.out 3).trans rfl⟩ (fun hHeld => ?_)
    clear hK K
    refine norm_ (a' := ?_) ?_ ?_
    rotate_left
    ·show Act.put _ (some 19) _ = _
     simp only [Act.put, List.setIfInBounds_toArray, List.set_cons_zero, List.set_cons_succ, i64_w, i32_w]
     rfl
    refine pure_ (i := 2) (N := some 20) (v := ?_) (a' := ?_) #[true, true, true, false, false, false, false, false, false, false, false, false, false, false, false, false, false, false, false, false] rfl rfl (any_of HT_.out (by kernel_rfl)) (fun _ _ _ h => h) (Or.inl ⟨by rfl, ?_⟩) ?_ ?_
    rotate_left
    ·intro w'
     go_simp
     with_reducible rfl
    rotate_left
    ·simp only [Act.put, List.setIfInBounds_toArray, List.set_cons_zero, List.set_cons_succ, i64_w, i32_w]
     rfl
    refine pure_ (i := 3) (N := some 21) (v := ?_) (a' := ?_) #[true, true, true, true, false, false, false, false, false, false, false, false, false, false, false, false, false, false, false, false] rfl rfl (any_of HT_.out (by kernel_rfl)) (fun _ _ _ h => h) (Or.inl ⟨by rfl, ?_⟩) ?_ ?_
    rotate_left
    ·intro w'
     go_simp
     with_reducible rfl
    rotate_left
    ·simp only [Act.put, List.setIfInBounds_toArray, List.set_cons_zero, List.set_cons_succ, i64_w, i32_w]
     rfl
    refine take_ (i := 4) (N := some 22) (v := ?_) (a' := ?_) #[true, true, true, true, true, false, false, false, false, false, false, false, false, false, false, false, false, false, false, false] rfl rfl (take_ofW HT_.out HW_.out (by kernel_rfl)) (fun _ _ _ h => h) (Or.inl ⟨by rfl, ?_⟩) hHeld ?_ ?_
    rotate_left
    ·rintro w' ⟨s0, s1, s2, s3, s4, s5, s6, s7, s8, s9, s10, s11, s12, s13, s14, s15⟩
     go_simp
     with_reducible rfl
    rotate_left
    ·simp only [Act.put, List.setIfInBounds_toArray, List.set_cons_zero, List.set_cons_succ, i64_w, i32_w]
     rfl
    refine one_ (i := 5) (N := some 23) #[true, true, true, true, true, true, false, false, false, false, false, false, false, false, false, false, false, false, false, false] rfl rfl (one_of HT_.out (by kernel_rfl)) (by decide) (fun K hK => ?_)
    refine goes_ Try.func66 (by kernel_rfl) rfl #[.int .u8 4, .int .i64 1] (by rfl) rfl rfl (by (try simp only [List.map_toArray, List.map_cons, List.map_nil]); first | done | rfl | (simp only [List.length_drop, List.length_take]; rfl)) ?_
    with_reducible refine (garderoberef16_Ref.calls 4 1 t220 t221 t222 t223 _ A13.out).mono ?_
    rintro e w62 ⟨rfl, hb⟩
    refine ⟨_, rfl, ?_⟩
    have n0_ := Aside0.mk (Kd.R_below (qR HO166.out) hb)
    have n1_ := Aside0.mk (Kd.R_below (qR HO169.out) hb)
    have n2_ := Aside0.mk (Kd.R_below (qR HO172.out) hb)
    have n3_ := Aside0.mk (Kd.R_below (qR HO175.out) hb)
    have n4_ := Aside0.mk (blk_below (qb BK176.out) hb)
    have n5_ := Aside0.mk (blk_below (qb BK189.out) hb)
    have n6_ := Aside0.mk (blk_below (qb BK202.out) hb)
    have n7_ := Aside0.mk (blk_below (qb BK215.out) hb)
    have n8_ := Aside0.mk (below_step (qW HB.out) hb)
    clear HO166
    clear HO169
    clear HO172
    clear HO175
    clear BK176
    clear BK189
    clear BK202
    clear BK215
    clear HB
    have HO166 := n0_
    have HO169 := n1_
    have HO172 := n2_
    have HO175 := n3_
    have BK176 := n4_
    have BK189 := n5_
    have BK202 := n6_
    have BK215 := n7_
    have HB := n8_
    clear n0_ n1_ n2_ n3_ n4_ n5_ n6_ n7_ n8_
    (try clear hb)
    (try clear hb2)
    (try clear hk)
    (try clear hi)
    refine hK.out _ _ ⟨(blk_cell BK189.out 0).trans rfl, (blk_cell BK189.out 1).trans rfl, (blk_cell BK189.out 2).trans rfl, (blk_cell BK189.out 3).trans rfl, (blk_cell BK202.out 0).trans rfl, (blk_cell BK202.out 1).trans rfl, (blk_cell BK202.out 2).trans rfl, (blk_cell BK202.out 3).trans rfl, (blk_cell BK215.out 0).trans rfl, (blk_cell BK215.out 1).trans rfl, (blk_cell BK215.out 2).trans rfl, (blk_cell BK215.out 3).trans rfl, (blk_cell BK176.out 0).trans rfl, (blk_cell BK176.out 1).trans rfl, (blk_cell BK176.out 2).trans rfl, (blk_cell BK176.out 3).trans rfl⟩ (fun hHeld => ?_)
    clear hK K
    refine norm_ (a' := ?_) ?_ ?_
    rotate_left
    ·show Act.put _ (some 23) _ = _
     simp only [Act.put, List.setIfInBounds_toArray, List.set_cons_zero, List.set_cons_succ, i64_w, i32_w]
     rfl
    refine pure_ (i := 6) (N := some 24) (v := ?_) (a' := ?_) #[true, true, true, true, true, true, true, false, false, false, false, false, false, false, false, false, false, false, false, false] rfl rfl (any_of HT_.out (by kernel_rfl)) (fun _ _ _ h => h) (Or.inl ⟨by rfl, ?_⟩) ?_ ?_
    rotate_left
    ·intro w'
     go_simp
     with_reducible rfl
    rotate_left
    ·simp only [Act.put, List.setIfInBounds_toArray, List.set_cons_zero, List.set_cons_succ, i64_w, i32_w]
     rfl
    refine pure_ (i := 7) (N := some 25) (v := ?_) (a' := ?_) #[true, true, true, true, true, true, true, true, false, false, false, false, false, false, false, false, false, false, false, false] rfl rfl (any_of HT_.out (by kernel_rfl)) (fun _ _ _ h => h) (Or.inl ⟨by rfl, ?_⟩) ?_ ?_
    rotate_left
    ·intro w'
     go_simp
     with_reducible rfl
    rotate_left
    ·simp only [Act.put, List.setIfInBounds_toArray, List.set_cons_zero, List.set_cons_succ, i64_w, i32_w]
     rfl
    refine pure_ (i := 8) (N := some 26) (v := ?_) (a' := ?_) #[true, true, true, true, true, true, true, true, true, false, false, false, false, false, false, false, false, false, false, false] rfl rfl (any_of HT_.out (by kernel_rfl)) (fun _ _ _ h => h) (Or.inl ⟨by rfl, ?_⟩) ?_ ?_
    rotate_left
    ·intro w'
     go_simp
     with_reducible rfl
    rotate_left
    ·simp only [Act.put, List.setIfInBounds_toArray, List.set_cons_zero, List.set_cons_succ, i64_w, i32_w]
     rfl
    refine take_ (i := 9) (N := some 27) (v := ?_) (a' := ?_) #[true, true, true, true, true, true, true, true, true, true, false, false, false, false, false, false, false, false, false, false] rfl rfl (take_ofW HT_.out HW_.out (by kernel_rfl)) (fun _ _ _ h => h) (Or.inl ⟨by rfl, ?_⟩) hHeld ?_ ?_
    rotate_left
    ·rintro w' ⟨s0, s1, s2, s3, s4, s5, s6, s7, s8, s9, s10, s11, s12, s13, s14, s15⟩
     go_simp
     with_reducible rfl
    rotate_left
    ·simp only [Act.put, List.setIfInBounds_toArray, List.set_cons_zero, List.set_cons_succ, i64_w, i32_w]
     rfl
    refine one_ (i := 10) (N := some 28) #[true, true, true, true, true, true, true, true, true, true, true, false, false, false, false, false, false, false, false, false] rfl rfl (one_of HT_.out (by kernel_rfl)) (by decide) (fun K hK => ?_)
    refine goes_ Try.func32 (by kernel_rfl) rfl #[] (by rfl) rfl rfl (by (try simp only [List.map_toArray, List.map_cons, List.map_nil]); first | done | rfl | (simp only [List.length_drop, List.length_take]; rfl)) ?_
    with_reducible refine (garderoberef16_None.calls  t224 t225 t226 t227 _ A15.out).mono ?_
    rintro e w63 ⟨rfl, hb⟩
    refine ⟨_, rfl, ?_⟩
    have n0_ := Aside0.mk (Kd.R_below (qR HO166.out) hb)
    have n1_ := Aside0.mk (Kd.R_below (qR HO169.out) hb)
    have n2_ := Aside0.mk (Kd.R_below (qR HO172.out) hb)
    have n3_ := Aside0.mk (Kd.R_below (qR HO175.out) hb)
    have n4_ := Aside0.mk (blk_below (qb BK176.out) hb)
    have n5_ := Aside0.mk (blk_below (qb BK189.out) hb)
    have n6_ := Aside0.mk (blk_below (qb BK202.out) hb)
    have n7_ := Aside0.mk (blk_below (qb BK215.out) hb)
    have n8_ := Aside0.mk (below_step (qW HB.out) hb)
    clear HO166
    clear HO169
    clear HO172
    clear HO175
    clear BK176
    clear BK189
    clear BK202
    clear BK215
    clear HB
    have HO166 := n0_
    have HO169 := n1_
    have HO172 := n2_
    have HO175 := n3_
    have BK176 := n4_
    have BK189 := n5_
    have BK202 := n6_
    have BK215 := n7_
    have HB := n8_
    clear n0_ n1_ n2_ n3_ n4_ n5_ n6_ n7_ n8_
    (try clear hb)
    (try clear hb2)
    (try clear hk)
    (try clear hi)
    refine hK.out _ _ ⟨(blk_cell BK189.out 0).trans rfl, (blk_cell BK189.out 1).trans rfl, (blk_cell BK189.out 2).trans rfl, (blk_cell BK189.out 3).trans rfl, (blk_cell BK202.out 0).trans rfl, (blk_cell BK202.out 1).trans rfl, (blk_cell BK202.out 2).trans rfl, (blk_cell BK202.out 3).trans rfl, (blk_cell BK215.out 0).trans rfl, (blk_cell BK215.out 1).trans rfl, (blk_cell BK215.out 2).trans rfl, (blk_cell BK215.out 3).trans rfl, (blk_cell BK176.out 0).trans rfl, (blk_cell BK176.out 1).trans rfl, (blk_cell BK176.out 2).trans rfl, (blk_cell BK176.out 3).trans rfl⟩ (fun hHeld => ?_)
    clear hK K
    refine norm_ (a' := ?_) ?_ ?_
    rotate_left
    ·show Act.put _ (some 28) _ = _
     simp only [Act.put, List.setIfInBounds_toArray, List.set_cons_zero, List.set_cons_succ, i64_w, i32_w]
     rfl
    refine pure_ (i := 11) (N := some 29) (v := ?_) (a' := ?_) #[true, true, true, true, true, true, true, true, true, true, true, true, false, false, false, false, false, false, false, false] rfl rfl (any_of HT_.out (by kernel_rfl)) (fun _ _ _ h => h) (Or.inl ⟨by rfl, ?_⟩) ?_ ?_
    rotate_left
    ·intro w'
     go_simp
     with_reducible rfl
    rotate_left
    ·simp only [Act.put, List.setIfInBounds_toArray, List.set_cons_zero, List.set_cons_succ, i64_w, i32_w]
     rfl
    refine pure_ (i := 12) (N := some 30) (v := ?_) (a' := ?_) #[true, true, true, true, true, true, true, true, true, true, true, true, true, false, false, false, false, false, false, false] rfl rfl (any_of HT_.out (by kernel_rfl)) (fun _ _ _ h => h) (Or.inl ⟨by rfl, ?_⟩) ?_ ?_
    rotate_left
    ·intro w'
     go_simp
     with_reducible rfl
    rotate_left
    ·simp only [Act.put, List.setIfInBounds_toArray, List.set_cons_zero, List.set_cons_succ, i64_w, i32_w]
     rfl
    refine pure_ (i := 13) (N := some 31) (v := ?_) (a' := ?_) #[true, true, true, true, true, true, true, true, true, true, true, true, true, true, false, false, false, false, false, false] rfl rfl (any_of HT_.out (by kernel_rfl)) (fun _ _ _ h => h) (Or.inl ⟨by rfl, ?_⟩) ?_ ?_
    rotate_left
    ·intro w'
     go_simp
     with_reducible rfl
    rotate_left
    ·simp only [Act.put, List.setIfInBounds_toArray, List.set_cons_zero, List.set_cons_succ, i64_w, i32_w]
     rfl
    refine pure_ (i := 16) (N := some 34) (v := ?_) (a' := ?_) #[true, true, true, true, true, true, true, true, true, true, true, true, true, true, false, false, true, false, false, false] rfl rfl (any_of HT_.out (by kernel_rfl)) (fun _ _ _ h => h) (Or.inl ⟨by rfl, ?_⟩) ?_ ?_
    rotate_left
    ·intro w'
     go_simp
     with_reducible rfl
    rotate_left
    ·simp only [Act.put, List.setIfInBounds_toArray, List.set_cons_zero, List.set_cons_succ, i64_w, i32_w]
     rfl
    refine take_ (i := 14) (N := some 32) (v := ?_) (a' := ?_) #[true, true, true, true, true, true, true, true, true, true, true, true, true, true, true, false, true, false, false, false] rfl rfl (take_ofW HT_.out HW_.out (by kernel_rfl)) (fun _ _ _ h => h) (Or.inl ⟨by rfl, ?_⟩) hHeld ?_ ?_
    rotate_left
    ·rintro w' ⟨s0, s1, s2, s3, s4, s5, s6, s7, s8, s9, s10, s11, s12, s13, s14, s15⟩
     go_simp
     with_reducible rfl
    rotate_left
    ·simp only [Act.put, List.setIfInBounds_toArray, List.set_cons_zero, List.set_cons_succ, i64_w, i32_w]
     rfl
    refine one_ (i := 15) (N := some 33) #[true, true, true, true, true, true, true, true, true, true, true, true, true, true, true, true, true, false, false, false] rfl rfl (one_of HT_.out (by kernel_rfl)) (by decide) (fun K hK => ?_)
    refine goes_ Try.func66 (by kernel_rfl) rfl #[.int .u8 4, .int .i64 11] (by rfl) rfl rfl (by (try simp only [List.map_toArray, List.map_cons, List.map_nil]); first | done | rfl | (simp only [List.length_drop, List.length_take]; rfl)) ?_
    with_reducible refine (garderoberef16_Ref.calls 4 11 t228 t229 t230 t231 _ A17.out).mono ?_
    rintro e w64 ⟨rfl, hb⟩
    refine ⟨_, rfl, ?_⟩
    have n0_ := Aside0.mk (Kd.R_below (qR HO166.out) hb)
    have n1_ := Aside0.mk (Kd.R_below (qR HO169.out) hb)
    have n2_ := Aside0.mk (Kd.R_below (qR HO172.out) hb)
    have n3_ := Aside0.mk (Kd.R_below (qR HO175.out) hb)
    have n4_ := Aside0.mk (blk_below (qb BK176.out) hb)
    have n5_ := Aside0.mk (blk_below (qb BK189.out) hb)
    have n6_ := Aside0.mk (blk_below (qb BK202.out) hb)
    have n7_ := Aside0.mk (blk_below (qb BK215.out) hb)
    have n8_ := Aside0.mk (below_step (qW HB.out) hb)
    clear HO166
    clear HO169
    clear HO172
    clear HO175
    clear BK176
    clear BK189
    clear BK202
    clear BK215
    clear HB
    have HO166 := n0_
    have HO169 := n1_
    have HO172 := n2_
    have HO175 := n3_
    have BK176 := n4_
    have BK189 := n5_
    have BK202 := n6_
    have BK215 := n7_
    have HB := n8_
    clear n0_ n1_ n2_ n3_ n4_ n5_ n6_ n7_ n8_
    (try clear hb)
    (try clear hb2)
    (try clear hk)
    (try clear hi)
    refine hK.out _ _ ⟨(blk_cell BK189.out 0).trans rfl, (blk_cell BK189.out 1).trans rfl, (blk_cell BK189.out 2).trans rfl, (blk_cell BK189.out 3).trans rfl, (blk_cell BK202.out 0).trans rfl, (blk_cell BK202.out 1).trans rfl, (blk_cell BK202.out 2).trans rfl, (blk_cell BK202.out 3).trans rfl, (blk_cell BK215.out 0).trans rfl, (blk_cell BK215.out 1).trans rfl, (blk_cell BK215.out 2).trans rfl, (blk_cell BK215.out 3).trans rfl, (blk_cell BK176.out 0).trans rfl, (blk_cell BK176.out 1).trans rfl, (blk_cell BK176.out 2).trans rfl, (blk_cell BK176.out 3).trans rfl⟩ (fun hHeld => ?_)
    clear hK K
    refine norm_ (a' := ?_) ?_ ?_
    rotate_left
    ·show Act.put _ (some 33) _ = _
     simp only [Act.put, List.setIfInBounds_toArray, List.set_cons_zero, List.set_cons_succ, i64_w, i32_w]
     rfl
    refine one_ (i := 17) (N := some 35) #[true, true, true, true, true, true, true, true, true, true, true, true, true, true, true, true, true, true, false, false] rfl rfl (one_of HT_.out (by kernel_rfl)) (by decide) (fun K hK => ?_)
    refine goes_ Try.func35 (by kernel_rfl) rfl #[.agg #[.slice Ao21 t164.length co21, .slice Ao23 t167.length co23, .slice Ao24 t170.length co24, .slice Ao25 t173.length co25], .agg #[.int .u8 t228, .int .u8 t229, .int .u16 t230, .int .i64 t231], .agg #[.int .u8 4, .int .u16 1]] (by rfl) rfl rfl (by (try simp only [List.map_toArray, List.map_cons, List.map_nil]); first | done | rfl | (simp only [List.length_drop, List.length_take]; rfl)) ?_
    with_reducible refine (vals_Fits.calls k _ _ t164 _ _ t167 _ _ t170 _ _ t173 t228 t229 t230 t231 4 1 t232 _ ?side1 ?side2 ?side3 ?side4 ?side5 ?side6 ?side7 ?side8 A18.out).mono ?_
    (case side1 => exact qC (Kd.R_reads' HO166.out).2.2)
    (case side2 => exact (Kd.R_reads' HO166.out).2.1)
    (case side3 => exact qC (Kd.R_reads' HO169.out).2.2)
    (case side4 => exact (Kd.R_reads' HO169.out).2.1)
    (case side5 => exact qC (Kd.R_reads' HO172.out).2.2)
    (case side6 => exact (Kd.R_reads' HO172.out).2.1)
    (case side7 => exact qC (Kd.R_reads' HO175.out).2.2)
    (case side8 => exact (Kd.R_reads' HO175.out).2.1)
    rintro e w65 ⟨rfl, hb⟩
    refine ⟨_, rfl, ?_⟩
    have n0_ := Aside0.mk (Kd.R_below (qR HO166.out) hb)
    have n1_ := Aside0.mk (Kd.R_below (qR HO169.out) hb)
    have n2_ := Aside0.mk (Kd.R_below (qR HO172.out) hb)
    have n3_ := Aside0.mk (Kd.R_below (qR HO175.out) hb)
    have n4_ := Aside0.mk (blk_below (qb BK176.out) hb)
    have n5_ := Aside0.mk (blk_below (qb BK189.out) hb)
    have n6_ := Aside0.mk (blk_below (qb BK202.out) hb)
    have n7_ := Aside0.mk (blk_below (qb BK215.out) hb)
    have n8_ := Aside0.mk (below_step (qW HB.out) hb)
    clear HO166
    clear HO169
    clear HO172
    clear HO175
    clear BK176
    clear BK189
    clear BK202
    clear BK215
    clear HB
    have HO166 := n0_
    have HO169 := n1_
    have HO172 := n2_
    have HO175 := n3_
    have BK176 := n4_
    have BK189 := n5_
    have BK202 := n6_
    have BK215 := n7_
    have HB := n8_
    clear n0_ n1_ n2_ n3_ n4_ n5_ n6_ n7_ n8_
    (try clear hb)
    (try clear hb2)
    (try clear hk)
    (try clear hi)
    refine hK.out _ _ ⟨(blk_cell BK189.out 0).trans rfl, (blk_cell BK189.out 1).trans rfl, (blk_cell BK189.out 2).trans rfl, (blk_cell BK189.out 3).trans rfl, (blk_cell BK202.out 0).trans rfl, (blk_cell BK202.out 1).trans rfl, (blk_cell BK202.out 2).trans rfl, (blk_cell BK202.out 3).trans rfl, (blk_cell BK215.out 0).trans rfl, (blk_cell BK215.out 1).trans rfl, (blk_cell BK215.out 2).trans rfl, (blk_cell BK215.out 3).trans rfl, (blk_cell BK176.out 0).trans rfl, (blk_cell BK176.out 1).trans rfl, (blk_cell BK176.out 2).trans rfl, (blk_cell BK176.out 3).trans rfl⟩ (fun hHeld => ?_)
    clear hK K
    refine norm_ (a' := ?_) ?_ ?_
    rotate_left
    ·show Act.put _ (some 35) _ = _
     simp only [Act.put, List.setIfInBounds_toArray, List.set_cons_zero, List.set_cons_succ, i64_w, i32_w]
     rfl
    refine pure_ (i := 18) (N := some 36) (v := ?_) (a' := ?_) #[true, true, true, true, true, true, true, true, true, true, true, true, true, true, true, true, true, true, true, false] rfl rfl (any_of HT_.out (by kernel_rfl)) (fun _ _ _ h => h) (Or.inl ⟨by rfl, ?_⟩) ?_ ?_
    rotate_left
    ·intro w'
     go_simp
     with_reducible rfl
    rotate_left
    ·simp only [Act.put, List.setIfInBounds_toArray, List.set_cons_zero, List.set_cons_succ, i64_w, i32_w]
     rfl
    refine pure_ (i := 19) (N := some 0) (v := ?_) (a' := ?_) #[true, true, true, true, true, true, true, true, true, true, true, true, true, true, true, true, true, true, true, true] rfl rfl (any_of HT_.out (by kernel_rfl)) (fun _ _ _ h => h) (Or.inl ⟨by rfl, ?_⟩) ?_ ?_
    rotate_left
    ·intro w'
     go_simp
     with_reducible rfl
    rotate_left
    ·simp only [Act.put, List.setIfInBounds_toArray, List.set_cons_zero, List.set_cons_succ, i64_w, i32_w]
     rfl
    refine done_ (done_of HT_.out (by kernel_rfl)) ?_
    try go_wp2
    go_ret
    exact ⟨by first | rfl | (simp [errW_none, errW_some] <;> rfl) | (simp [*, errW_none, errW_some] <;> rfl), by repeat (first | (with_reducible first | exact HB.out | apply below_alloc | apply pw_below_drewN | apply below_drew1 | refine below_set ?_ GE176.out | refine below_set ?_ GE189.out | refine below_set ?_ GE202.out | refine below_set ?_ GE215.out) | exact HB.out)⟩
   ·rw [if_neg c16] at H
    have c16b0 : (t211 == t224 && ((t212 == t225 && (t213 == t226)) && (t214 == t227))) = false := by simpa using c16
    (try (have c16b1 : decide (t211 = t224 && ((t212 == t225 && (t213 == t226)) && (t214 == t227))) = false := by simpa using c16))
    (try (have c16b2 : (t211 == t224 && ((t212 == t225 && (t213 == t226)) && (t214 == t227))) = false := by simpa using c16))
    (try (have c16b3 : ¬ (t211 = t224 && ((t212 == t225 && (t213 == t226)) && (t214 == t227))) := by simpa using c16))
    clear c16
    exact absurd H (by simp)
  ·rw [if_neg c14] at H
   have c14b0 : (t198 == t220 && ((t199 == t221 && (t200 == t222)) && (t201 == t223))) = false := by simpa using c14
   (try (have c14b1 : decide (t198 = t220 && ((t199 == t221 && (t200 == t222)) && (t201 == t223))) = false := by simpa using c14))
   (try (have c14b2 : (t198 == t220 && ((t199 == t221 && (t200 == t222)) && (t201 == t223))) = false := by simpa using c14))
   (try (have c14b3 : ¬ (t198 = t220 && ((t199 == t221 && (t200 == t222)) && (t201 == t223))) := by simpa using c14))
   clear c14
   exact absurd H (by simp)
 ·rw [if_neg c12] at H
  have c12b0 : (t185 == t216 && ((t186 == t217 && (t187 == t218)) && (t188 == t219))) = false := by simpa using c12
  (try (have c12b1 : decide (t185 = t216 && ((t186 == t217 && (t187 == t218)) && (t188 == t219))) = false := by simpa using c12))
  (try (have c12b2 : (t185 == t216 && ((t186 == t217 && (t187 == t218)) && (t188 == t219))) = false := by simpa using c12))
  (try (have c12b3 : ¬ (t185 = t216 && ((t186 == t217 && (t187 == t218)) && (t188 == t219))) := by simpa using c12))
  clear c12
  exact absurd H (by simp)

end Go.Proofs.Ytjknnifcbcdjiaa.PValsAny
