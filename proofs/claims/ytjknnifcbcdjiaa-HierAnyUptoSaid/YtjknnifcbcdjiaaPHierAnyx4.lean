/- Printed by a program of this session (pr.py). -/
import Derived.Test.YtjknnifcbcdjiaaPHierAnyx0
import Derived.Test.YtjknnifcbcdjiaaPHierAnyx2
import Derived.Test.YtjknnifcbcdjiaaPHierAnyx3
import Derived.Test.YtjknnifcbcdjiaaShort
namespace Go.Proofs.Ytjknnifcbcdjiaa.PHierAny
open Go.RowKit Go.Proofs.YtjknnifcbcdjiaaW.PrintWords Go.Proofs.YtjknnifcbcdjiaaW.PrintLast Go.Proofs.YtjknnifcbcdjiaaW.PrintMore Go.Proofs.Ytjknnifcbcdjiaa.Short
attribute [local go_sem] max2_int min2_int max_two min_two max_three min_three max_four min_four   -- for this text's walks alone
set_option linter.unusedVariables false
set_option linter.unusedSimpArgs false

/-! ### garderobelaw13_works: function 46 -/
def garderobelaw13_works.f (k : Nat)  : Option (Bool) := (garderoberef12_World.f).bind fun bt132 => ((hier_From.f bt132.1 bt132.2.1 bt132.2.2.1 bt132.2.2.2 11 1).bind fun t145 => (if t145 = true then ((hier_From.f bt132.1 bt132.2.1 bt132.2.2.1 bt132.2.2.2 1 11).bind fun t146 => (if t146 = true then (none) else ((hier_Common.f bt132.1 bt132.2.1 bt132.2.2.1 bt132.2.2.2 2 11).bind fun t147 => (if t147 = 1 then ((hier_Common.f bt132.1 bt132.2.1 bt132.2.2.1 bt132.2.2.2 2 14).bind fun t148 => (if t148 = 0 then ((hier_Common.f bt132.1 bt132.2.1 bt132.2.2.1 bt132.2.2.2 13 1).bind fun t149 => (if t149 = 0 then ((hier_Up.f bt132.1 bt132.2.1 bt132.2.2.1 bt132.2.2.2 11).bind fun t150 => ((garderoberef00_Ints.f k t150 (([11, 1, 0] : List Int))).bind fun t156 => (if t156 = true then ((garderobelaw13_t.f 4 11).bind fun bt157 => ((garderobelaw13_t.f 4 1).bind fun bt159 => ((hier_Fits.f k bt132.1 bt132.2.1 bt132.2.2.1 bt132.2.2.2 bt157.1 bt157.2 bt159.1 bt159.2).bind fun t161 => (if t161 = true then ((garderobelaw13_t.f 6 0).bind fun bt162 => ((garderobelaw13_t.f 4 0).bind fun bt164 => ((hier_Fits.f k bt132.1 bt132.2.1 bt132.2.2.1 bt132.2.2.2 bt162.1 bt162.2 bt164.1 bt164.2).bind fun t166 => (if t166 = true then ((garderobelaw13_t.f 6 0).bind fun bt167 => ((garderobelaw13_t.f 7 0).bind fun bt169 => ((hier_Fits.f k bt132.1 bt132.2.1 bt132.2.2.1 bt132.2.2.2 bt167.1 bt167.2 bt169.1 bt169.2).bind fun t171 => (if t171 = true then (none) else ((garderobelaw13_t.f 4 2).bind fun bt172 => ((garderobelaw13_t.f 4 13).bind fun bt174 => ((hier_Fits.f k bt132.1 bt132.2.1 bt132.2.2.1 bt132.2.2.2 bt172.1 bt172.2 bt174.1 bt174.2).bind fun t176 => (some t176)))))))) else (none))))) else (none))))) else (none)))) else (none))) else (none))) else (none))))) else (none)))
theorem garderobelaw13_works.mono : ∀ k, LeO (garderobelaw13_works.f k ) (garderobelaw13_works.f (k + 1) ) := by
 intro  k
 unfold garderobelaw13_works.f
 repeat' first
   | (with_reducible exact garderoberef00_Ints.mono _ _ _)
   | (with_reducible exact hier_Fits.mono _ _ _ _ _ _ _ _ _)
   | (with_reducible exact LeO.refl _)
   | (with_reducible exact LeO.none _)
   | (with_reducible refine LeO.ite ?_ ?_)
   | (with_reducible refine LeO.bind ?_ (fun _ => ?_))
   | exact garderoberef00_Ints.mono _ _ _
   | exact hier_Fits.mono _ _ _ _ _ _ _ _ _
   | exact LeO.none _
   | refine LeO.ite ?_ ?_
   | refine LeO.bind ?_ (fun _ => ?_)
def garderobelaw13_works.T2 : Bool × List (List Nat × List Nat) := (true, [([], []), ([0], [0]), ([1, 1], [1]), ([2], [2]), ([3, 2, 2], [2, 3]), ([4, 2], [2, 4]), ([2, 5], [2, 5]), ([6, 4], [6]), ([7], [7]), ([8, 7, 7], [7, 8]), ([9, 7], [7, 9]), ([7, 10], [7, 10]), ([11, 9], [11]), ([12], [12]), ([13, 12, 12], [12, 13]), ([14, 12], [12, 14]), ([12, 15], [12, 15]), ([16, 14], [16]), ([17], [17]), ([18, 17, 17], [17, 18]), ([19, 17], [17, 19]), ([17, 20], [17, 20]), ([21, 19], [21]), ([22], [22]), ([23, 22, 22], [22, 23]), ([22], [22]), ([24, 25, 24, 22], [22, 24, 25]), ([22, 26], [22, 26]), ([27, 26], [27]), ([28], [28]), ([28, 28], [28]), ([30, 28], [28]), ([29, 30, 31, 31, 28], [28, 29, 30, 31]), ([28, 32], [28, 32]), ([33, 32], [33]), ([34], [34]), ([34, 34], [34]), ([36, 34], [34]), ([35, 36, 37, 37, 34], [34, 35, 36, 37]), ([34, 38], [34, 38]), ([39, 38], [39]), ([40], [40]), ([40, 40], [40]), ([42, 40], [40]), ([41, 42, 43, 43, 40], [40, 41, 42, 43]), ([44, 40], [40, 44]), ([40, 45], [40, 45]), ([46, 44], [46]), ([47], [47]), ([47, 47], [47]), ([49, 47], [47]), ([48, 49, 50, 50, 47], [47, 48, 49, 50]), ([47, 51], [47, 51]), ([52, 51, 0, 1, 2, 3, 4, 5, 6, 7, 8, 9, 10, 11, 12, 13, 14, 15, 16, 17, 18, 19, 20, 21, 22, 23, 24, 25, 26, 27, 28, 29, 30, 31, 32, 33, 34, 35, 36, 37, 38, 39, 40, 41, 42, 43, 44, 45, 46, 47, 48, 49, 50, 51, 52], [52])])
def garderobelaw13_works.B2 : List Nat := [0, 1, 3, 7, 15, 31, 63, 127, 255, 511, 1023, 2047, 4095, 8191, 16383, 32767, 65535, 131071, 262143, 524287, 1048575, 2097151, 4194303, 8388607, 16777215, 8388607, 67108863, 134217727, 268435455, 536870911, 536870911, 1610612735, 4294967295, 8589934591, 17179869183, 34359738367, 34359738367, 103079215103, 274877906943, 549755813887, 1099511627775, 2199023255551, 2199023255551, 6597069766655, 17592186044415, 35184372088831, 70368744177663, 140737488355327, 281474976710655, 281474976710655, 844424930131967, 2251799813685247, 4503599627370495, 9007199254740991]
theorem garderobelaw13_works.tab2 : rtab .any (opsOf Try.f46 2) = garderobelaw13_works.T2 := by kernel_rfl
theorem garderobelaw13_works.bits2 : waitsOk garderobelaw13_works.T2.2 garderobelaw13_works.B2 = true := by kernel_rfl
set_option maxHeartbeats 8000000 in
set_option maxRecDepth 100000 in
theorem garderobelaw13_works.calls (k : Nat)  (r : Bool) (w : World) (h : garderobelaw13_works.f k  = some r) :
  Calls Try.prog 46 #[] w fun e w' => e = .returned (.bool r) ∧ Below w.heap.size w w' := by
 have hu27 := Try.underlying27
 have HB := Aside0.mk (Below.refl w.heap.size w)
 have H : ((garderoberef12_World.f).bind fun bt132 => ((hier_From.f bt132.1 bt132.2.1 bt132.2.2.1 bt132.2.2.2 11 1).bind fun t145 => (if t145 = true then ((hier_From.f bt132.1 bt132.2.1 bt132.2.2.1 bt132.2.2.2 1 11).bind fun t146 => (if t146 = true then (none) else ((hier_Common.f bt132.1 bt132.2.1 bt132.2.2.1 bt132.2.2.2 2 11).bind fun t147 => (if t147 = 1 then ((hier_Common.f bt132.1 bt132.2.1 bt132.2.2.1 bt132.2.2.2 2 14).bind fun t148 => (if t148 = 0 then ((hier_Common.f bt132.1 bt132.2.1 bt132.2.2.1 bt132.2.2.2 13 1).bind fun t149 => (if t149 = 0 then ((hier_Up.f bt132.1 bt132.2.1 bt132.2.2.1 bt132.2.2.2 11).bind fun t150 => ((garderoberef00_Ints.f k t150 (([11, 1, 0] : List Int))).bind fun t156 => (if t156 = true then ((garderobelaw13_t.f 4 11).bind fun bt157 => ((garderobelaw13_t.f 4 1).bind fun bt159 => ((hier_Fits.f k bt132.1 bt132.2.1 bt132.2.2.1 bt132.2.2.2 bt157.1 bt157.2 bt159.1 bt159.2).bind fun t161 => (if t161 = true then ((garderobelaw13_t.f 6 0).bind fun bt162 => ((garderobelaw13_t.f 4 0).bind fun bt164 => ((hier_Fits.f k bt132.1 bt132.2.1 bt132.2.2.1 bt132.2.2.2 bt162.1 bt162.2 bt164.1 bt164.2).bind fun t166 => (if t166 = true then ((garderobelaw13_t.f 6 0).bind fun bt167 => ((garderobelaw13_t.f 7 0).bind fun bt169 => ((hier_Fits.f k bt132.1 bt132.2.1 bt132.2.2.1 bt132.2.2.2 bt167.1 bt167.2 bt169.1 bt169.2).bind fun t171 => (if t171 = true then (none) else ((garderobelaw13_t.f 4 2).bind fun bt172 => ((garderobelaw13_t.f 4 13).bind fun bt174 => ((hier_Fits.f k bt132.1 bt132.2.1 bt132.2.2.1 bt132.2.2.2 bt172.1 bt172.2 bt174.1 bt174.2).bind fun t176 => (some t176)))))))) else (none))))) else (none))))) else (none)))) else (none))) else (none))) else (none))))) else (none)))) = some r := h
 clear h
 replace H := Option.bind_eq_some_iff.mp H
 obtain ⟨⟨t132, t135, t138, t141⟩, A10, H⟩ := H
 replace H : ((hier_From.f t132 t135 t138 t141 11 1).bind fun t145 => (if t145 = true then ((hier_From.f t132 t135 t138 t141 1 11).bind fun t146 => (if t146 = true then (none) else ((hier_Common.f t132 t135 t138 t141 2 11).bind fun t147 => (if t147 = 1 then ((hier_Common.f t132 t135 t138 t141 2 14).bind fun t148 => (if t148 = 0 then ((hier_Common.f t132 t135 t138 t141 13 1).bind fun t149 => (if t149 = 0 then ((hier_Up.f t132 t135 t138 t141 11).bind fun t150 => ((garderoberef00_Ints.f k t150 (([11, 1, 0] : List Int))).bind fun t156 => (if t156 = true then ((garderobelaw13_t.f 4 11).bind fun bt157 => ((garderobelaw13_t.f 4 1).bind fun bt159 => ((hier_Fits.f k t132 t135 t138 t141 bt157.1 bt157.2 bt159.1 bt159.2).bind fun t161 => (if t161 = true then ((garderobelaw13_t.f 6 0).bind fun bt162 => ((garderobelaw13_t.f 4 0).bind fun bt164 => ((hier_Fits.f k t132 t135 t138 t141 bt162.1 bt162.2 bt164.1 bt164.2).bind fun t166 => (if t166 = true then ((garderobelaw13_t.f 6 0).bind fun bt167 => ((garderobelaw13_t.f 7 0).bind fun bt169 => ((hier_Fits.f k t132 t135 t138 t141 bt167.1 bt167.2 bt169.1 bt169.2).bind fun t171 => (if t171 = true then (none) else ((garderobelaw13_t.f 4 2).bind fun bt172 => ((garderobelaw13_t.f 4 13).bind fun bt174 => ((hier_Fits.f k t132 t135 t138 t141 bt172.1 bt172.2 bt174.1 bt174.2).bind fun t176 => (some t176)))))))) else (none))))) else (none))))) else (none)))) else (none))) else (none))) else (none))))) else (none))) = some r := H
 have A1 := Aside0.mk A10
 clear A10
 replace H := Option.bind_eq_some_iff.mp H
 obtain ⟨t145, A20, H⟩ := H
 replace H : (if t145 = true then ((hier_From.f t132 t135 t138 t141 1 11).bind fun t146 => (if t146 = true then (none) else ((hier_Common.f t132 t135 t138 t141 2 11).bind fun t147 => (if t147 = 1 then ((hier_Common.f t132 t135 t138 t141 2 14).bind fun t148 => (if t148 = 0 then ((hier_Common.f t132 t135 t138 t141 13 1).bind fun t149 => (if t149 = 0 then ((hier_Up.f t132 t135 t138 t141 11).bind fun t150 => ((garderoberef00_Ints.f k t150 (([11, 1, 0] : List Int))).bind fun t156 => (if t156 = true then ((garderobelaw13_t.f 4 11).bind fun bt157 => ((garderobelaw13_t.f 4 1).bind fun bt159 => ((hier_Fits.f k t132 t135 t138 t141 bt157.1 bt157.2 bt159.1 bt159.2).bind fun t161 => (if t161 = true then ((garderobelaw13_t.f 6 0).bind fun bt162 => ((garderobelaw13_t.f 4 0).bind fun bt164 => ((hier_Fits.f k t132 t135 t138 t141 bt162.1 bt162.2 bt164.1 bt164.2).bind fun t166 => (if t166 = true then ((garderobelaw13_t.f 6 0).bind fun bt167 => ((garderobelaw13_t.f 7 0).bind fun bt169 => ((hier_Fits.f k t132 t135 t138 t141 bt167.1 bt167.2 bt169.1 bt169.2).bind fun t171 => (if t171 = true then (none) else ((garderobelaw13_t.f 4 2).bind fun bt172 => ((garderobelaw13_t.f 4 13).bind fun bt174 => ((hier_Fits.f k t132 t135 t138 t141 bt172.1 bt172.2 bt174.1 bt174.2).bind fun t176 => (some t176)))))))) else (none))))) else (none))))) else (none)))) else (none))) else (none))) else (none))))) else (none)) = some r := H
 have A2 := Aside0.mk A20
 clear A20
 by_cases c3 : t145 = true
 ·subst c3
  have H1 : ((hier_From.f t132 t135 t138 t141 1 11).bind fun t146 => (if t146 = true then (none) else ((hier_Common.f t132 t135 t138 t141 2 11).bind fun t147 => (if t147 = 1 then ((hier_Common.f t132 t135 t138 t141 2 14).bind fun t148 => (if t148 = 0 then ((hier_Common.f t132 t135 t138 t141 13 1).bind fun t149 => (if t149 = 0 then ((hier_Up.f t132 t135 t138 t141 11).bind fun t150 => ((garderoberef00_Ints.f k t150 (([11, 1, 0] : List Int))).bind fun t156 => (if t156 = true then ((garderobelaw13_t.f 4 11).bind fun bt157 => ((garderobelaw13_t.f 4 1).bind fun bt159 => ((hier_Fits.f k t132 t135 t138 t141 bt157.1 bt157.2 bt159.1 bt159.2).bind fun t161 => (if t161 = true then ((garderobelaw13_t.f 6 0).bind fun bt162 => ((garderobelaw13_t.f 4 0).bind fun bt164 => ((hier_Fits.f k t132 t135 t138 t141 bt162.1 bt162.2 bt164.1 bt164.2).bind fun t166 => (if t166 = true then ((garderobelaw13_t.f 6 0).bind fun bt167 => ((garderobelaw13_t.f 7 0).bind fun bt169 => ((hier_Fits.f k t132 t135 t138 t141 bt167.1 bt167.2 bt169.1 bt169.2).bind fun t171 => (if t171 = true then (none) else ((garderobelaw13_t.f 4 2).bind fun bt172 => ((garderobelaw13_t.f 4 13).bind fun bt174 => ((hier_Fits.f k t132 t135 t138 t141 bt172.1 bt172.2 bt174.1 bt174.2).bind fun t176 => (some t176)))))))) else (none))))) else (none))))) else (none)))) else (none))) else (none))) else (none))))) = some r := by rw [if_pos rfl] at H; exact H
  clear H
  have H := H1
  clear H1
  replace H := Option.bind_eq_some_iff.mp H
  obtain ⟨t146, A40, H⟩ := H
  replace H : (if t146 = true then (none) else ((hier_Common.f t132 t135 t138 t141 2 11).bind fun t147 => (if t147 = 1 then ((hier_Common.f t132 t135 t138 t141 2 14).bind fun t148 => (if t148 = 0 then ((hier_Common.f t132 t135 t138 t141 13 1).bind fun t149 => (if t149 = 0 then ((hier_Up.f t132 t135 t138 t141 11).bind fun t150 => ((garderoberef00_Ints.f k t150 (([11, 1, 0] : List Int))).bind fun t156 => (if t156 = true then ((garderobelaw13_t.f 4 11).bind fun bt157 => ((garderobelaw13_t.f 4 1).bind fun bt159 => ((hier_Fits.f k t132 t135 t138 t141 bt157.1 bt157.2 bt159.1 bt159.2).bind fun t161 => (if t161 = true then ((garderobelaw13_t.f 6 0).bind fun bt162 => ((garderobelaw13_t.f 4 0).bind fun bt164 => ((hier_Fits.f k t132 t135 t138 t141 bt162.1 bt162.2 bt164.1 bt164.2).bind fun t166 => (if t166 = true then ((garderobelaw13_t.f 6 0).bind fun bt167 => ((garderobelaw13_t.f 7 0).bind fun bt169 => ((hier_Fits.f k t132 t135 t138 t141 bt167.1 bt167.2 bt169.1 bt169.2).bind fun t171 => (if t171 = true then (none) else ((garderobelaw13_t.f 4 2).bind fun bt172 => ((garderobelaw13_t.f 4 13).bind fun bt174 => ((hier_Fits.f k t132 t135 t138 t141 bt172.1 bt172.2 bt174.1 bt174.2).bind fun t176 => (some t176)))))))) else (none))))) else (none))))) else (none)))) else (none))) else (none))) else (none)))) = some r := H
  have A4 := Aside0.mk A40
  clear A40
  by_cases c5 : t146 = true
  ·subst c5
   have H1 : (none) = some r := by rw [if_pos rfl] at H; exact H
   clear H
   have H := H1
   clear H1
   exact absurd H (by simp)
  ·replace c5 := Bool.eq_false_iff.mpr c5
   subst c5
   have H1 : ((hier_Common.f t132 t135 t138 t141 2 11).bind fun t147 => (if t147 = 1 then ((hier_Common.f t132 t135 t138 t141 2 14).bind fun t148 => (if t148 = 0 then ((hier_Common.f t132 t135 t138 t141 13 1).bind fun t149 => (if t149 = 0 then ((hier_Up.f t132 t135 t138 t141 11).bind fun t150 => ((garderoberef00_Ints.f k t150 (([11, 1, 0] : List Int))).bind fun t156 => (if t156 = true then ((garderobelaw13_t.f 4 11).bind fun bt157 => ((garderobelaw13_t.f 4 1).bind fun bt159 => ((hier_Fits.f k t132 t135 t138 t141 bt157.1 bt157.2 bt159.1 bt159.2).bind fun t161 => (if t161 = true then ((garderobelaw13_t.f 6 0).bind fun bt162 => ((garderobelaw13_t.f 4 0).bind fun bt164 => ((hier_Fits.f k t132 t135 t138 t141 bt162.1 bt162.2 bt164.1 bt164.2).bind fun t166 => (if t166 = true then ((garderobelaw13_t.f 6 0).bind fun bt167 => ((garderobelaw13_t.f 7 0).bind fun bt169 => ((hier_Fits.f k t132 t135 t138 t141 bt167.1 bt167.2 bt169.1 bt169.2).bind fun t171 => (if t171 = true then (none) else ((garderobelaw13_t.f 4 2).bind fun bt172 => ((garderobelaw13_t.f 4 13).bind fun bt174 => ((hier_Fits.f k t132 t135 t138 t141 bt172.1 bt172.2 bt174.1 bt174.2).bind fun t176 => (some t176)))))))) else (none))))) else (none))))) else (none)))) else (none))) else (none))) else (none))) = some r := by rw [if_neg (show ¬ (false = true) by decide)] at H; exact H
   clear H
   have H := H1
   clear H1
   replace H := Option.bind_eq_some_iff.mp H
   obtain ⟨t147, A60, H⟩ := H
   replace H : (if t147 = 1 then ((hier_Common.f t132 t135 t138 t141 2 14).bind fun t148 => (if t148 = 0 then ((hier_Common.f t132 t135 t138 t141 13 1).bind fun t149 => (if t149 = 0 then ((hier_Up.f t132 t135 t138 t141 11).bind fun t150 => ((garderoberef00_Ints.f k t150 (([11, 1, 0] : List Int))).bind fun t156 => (if t156 = true then ((garderobelaw13_t.f 4 11).bind fun bt157 => ((garderobelaw13_t.f 4 1).bind fun bt159 => ((hier_Fits.f k t132 t135 t138 t141 bt157.1 bt157.2 bt159.1 bt159.2).bind fun t161 => (if t161 = true then ((garderobelaw13_t.f 6 0).bind fun bt162 => ((garderobelaw13_t.f 4 0).bind fun bt164 => ((hier_Fits.f k t132 t135 t138 t141 bt162.1 bt162.2 bt164.1 bt164.2).bind fun t166 => (if t166 = true then ((garderobelaw13_t.f 6 0).bind fun bt167 => ((garderobelaw13_t.f 7 0).bind fun bt169 => ((hier_Fits.f k t132 t135 t138 t141 bt167.1 bt167.2 bt169.1 bt169.2).bind fun t171 => (if t171 = true then (none) else ((garderobelaw13_t.f 4 2).bind fun bt172 => ((garderobelaw13_t.f 4 13).bind fun bt174 => ((hier_Fits.f k t132 t135 t138 t141 bt172.1 bt172.2 bt174.1 bt174.2).bind fun t176 => (some t176)))))))) else (none))))) else (none))))) else (none)))) else (none))) else (none))) else (none)) = some r := H
   have A6 := Aside0.mk A60
   clear A60
   by_cases c7 : t147 = 1
   ·rw [if_pos c7] at H
    have c7b0 : (t147 == 1) = true := beq_iff_eq.mpr c7
    have c7b1 : (t147 != 1) = false := bne_eq_false_iff_eq.mpr c7
    clear c7
    replace H := Option.bind_eq_some_iff.mp H
    obtain ⟨t148, A80, H⟩ := H
    replace H : (if t148 = 0 then ((hier_Common.f t132 t135 t138 t141 13 1).bind fun t149 => (if t149 = 0 then ((hier_Up.f t132 t135 t138 t141 11).bind fun t150 => ((garderoberef00_Ints.f k t150 (([11, 1, 0] : List Int))).bind fun t156 => (if t156 = true then ((garderobelaw13_t.f 4 11).bind fun bt157 => ((garderobelaw13_t.f 4 1).bind fun bt159 => ((hier_Fits.f k t132 t135 t138 t141 bt157.1 bt157.2 bt159.1 bt159.2).bind fun t161 => (if t161 = true then ((garderobelaw13_t.f 6 0).bind fun bt162 => ((garderobelaw13_t.f 4 0).bind fun bt164 => ((hier_Fits.f k t132 t135 t138 t141 bt162.1 bt162.2 bt164.1 bt164.2).bind fun t166 => (if t166 = true then ((garderobelaw13_t.f 6 0).bind fun bt167 => ((garderobelaw13_t.f 7 0).bind fun bt169 => ((hier_Fits.f k t132 t135 t138 t141 bt167.1 bt167.2 bt169.1 bt169.2).bind fun t171 => (if t171 = true then (none) else ((garderobelaw13_t.f 4 2).bind fun bt172 => ((garderobelaw13_t.f 4 13).bind fun bt174 => ((hier_Fits.f k t132 t135 t138 t141 bt172.1 bt172.2 bt174.1 bt174.2).bind fun t176 => (some t176)))))))) else (none))))) else (none))))) else (none)))) else (none))) else (none)) = some r := H
    have A8 := Aside0.mk A80
    clear A80
    by_cases c9 : t148 = 0
    ·rw [if_pos c9] at H
     have c9b0 : (t148 == 0) = true := beq_iff_eq.mpr c9
     have c9b1 : (t148 != 0) = false := bne_eq_false_iff_eq.mpr c9
     clear c9
     replace H := Option.bind_eq_some_iff.mp H
     obtain ⟨t149, A100, H⟩ := H
     replace H : (if t149 = 0 then ((hier_Up.f t132 t135 t138 t141 11).bind fun t150 => ((garderoberef00_Ints.f k t150 (([11, 1, 0] : List Int))).bind fun t156 => (if t156 = true then ((garderobelaw13_t.f 4 11).bind fun bt157 => ((garderobelaw13_t.f 4 1).bind fun bt159 => ((hier_Fits.f k t132 t135 t138 t141 bt157.1 bt157.2 bt159.1 bt159.2).bind fun t161 => (if t161 = true then ((garderobelaw13_t.f 6 0).bind fun bt162 => ((garderobelaw13_t.f 4 0).bind fun bt164 => ((hier_Fits.f k t132 t135 t138 t141 bt162.1 bt162.2 bt164.1 bt164.2).bind fun t166 => (if t166 = true then ((garderobelaw13_t.f 6 0).bind fun bt167 => ((garderobelaw13_t.f 7 0).bind fun bt169 => ((hier_Fits.f k t132 t135 t138 t141 bt167.1 bt167.2 bt169.1 bt169.2).bind fun t171 => (if t171 = true then (none) else ((garderobelaw13_t.f 4 2).bind fun bt172 => ((garderobelaw13_t.f 4 13).bind fun bt174 => ((hier_Fits.f k t132 t135 t138 t141 bt172.1 bt172.2 bt174.1 bt174.2).bind fun t176 => (some t176)))))))) else (none))))) else (none))))) else (none)))) else (none)) = some r := H
     have A10 := Aside0.mk A100
     clear A100
     by_cases c11 : t149 = 0
     ·rw [if_pos c11] at H
      have c11b0 : (t149 == 0) = true := beq_iff_eq.mpr c11
      have c11b1 : (t149 != 0) = false := bne_eq_false_iff_eq.mpr c11
      clear c11
      replace H := Option.bind_eq_some_iff.mp H
      obtain ⟨t150, A120, H⟩ := H
      replace H : ((garderoberef00_Ints.f k t150 (([11, 1, 0] : List Int))).bind fun t156 => (if t156 = true then ((garderobelaw13_t.f 4 11).bind fun bt157 => ((garderobelaw13_t.f 4 1).bind fun bt159 => ((hier_Fits.f k t132 t135 t138 t141 bt157.1 bt157.2 bt159.1 bt159.2).bind fun t161 => (if t161 = true then ((garderobelaw13_t.f 6 0).bind fun bt162 => ((garderobelaw13_t.f 4 0).bind fun bt164 => ((hier_Fits.f k t132 t135 t138 t141 bt162.1 bt162.2 bt164.1 bt164.2).bind fun t166 => (if t166 = true then ((garderobelaw13_t.f 6 0).bind fun bt167 => ((garderobelaw13_t.f 7 0).bind fun bt169 => ((hier_Fits.f k t132 t135 t138 t141 bt167.1 bt167.2 bt169.1 bt169.2).bind fun t171 => (if t171 = true then (none) else ((garderobelaw13_t.f 4 2).bind fun bt172 => ((garderobelaw13_t.f 4 13).bind fun bt174 => ((hier_Fits.f k t132 t135 t138 t141 bt172.1 bt172.2 bt174.1 bt174.2).bind fun t176 => (some t176)))))))) else (none))))) else (none))))) else (none))) = some r := H
      have A12 := Aside0.mk A120
      clear A120
      obtain ⟨y153, hy153⟩ : ∃ y_ : List Int, y_ = (([11, 1, 0] : List Int)) := ⟨_, rfl⟩
      replace H : ((garderoberef00_Ints.f k t150 y153).bind fun t156 => (if t156 = true then ((garderobelaw13_t.f 4 11).bind fun bt157 => ((garderobelaw13_t.f 4 1).bind fun bt159 => ((hier_Fits.f k t132 t135 t138 t141 bt157.1 bt157.2 bt159.1 bt159.2).bind fun t161 => (if t161 = true then ((garderobelaw13_t.f 6 0).bind fun bt162 => ((garderobelaw13_t.f 4 0).bind fun bt164 => ((hier_Fits.f k t132 t135 t138 t141 bt162.1 bt162.2 bt164.1 bt164.2).bind fun t166 => (if t166 = true then ((garderobelaw13_t.f 6 0).bind fun bt167 => ((garderobelaw13_t.f 7 0).bind fun bt169 => ((hier_Fits.f k t132 t135 t138 t141 bt167.1 bt167.2 bt169.1 bt169.2).bind fun t171 => (if t171 = true then (none) else ((garderobelaw13_t.f 4 2).bind fun bt172 => ((garderobelaw13_t.f 4 13).bind fun bt174 => ((hier_Fits.f k t132 t135 t138 t141 bt172.1 bt172.2 bt174.1 bt174.2).bind fun t176 => (some t176)))))))) else (none))))) else (none))))) else (none))) = some r := by first | (rw [hy153]; with_reducible exact H) | (have H2_ := (Option.bind_some _ _).symm.trans H; rw [hy153]; with_reducible exact H2_) | (have H2_ := (Option.bind_some _ _).symm.trans H; with_reducible exact H2_) | with_reducible exact H | (rw [hy153]; exact H) | exact H
      have Ny153 := Aside0.mk hy153
      clear hy153
      replace H := Option.bind_eq_some_iff.mp H
      obtain ⟨t156, A130, H⟩ := H
      replace H : (if t156 = true then ((garderobelaw13_t.f 4 11).bind fun bt157 => ((garderobelaw13_t.f 4 1).bind fun bt159 => ((hier_Fits.f k t132 t135 t138 t141 bt157.1 bt157.2 bt159.1 bt159.2).bind fun t161 => (if t161 = true then ((garderobelaw13_t.f 6 0).bind fun bt162 => ((garderobelaw13_t.f 4 0).bind fun bt164 => ((hier_Fits.f k t132 t135 t138 t141 bt162.1 bt162.2 bt164.1 bt164.2).bind fun t166 => (if t166 = true then ((garderobelaw13_t.f 6 0).bind fun bt167 => ((garderobelaw13_t.f 7 0).bind fun bt169 => ((hier_Fits.f k t132 t135 t138 t141 bt167.1 bt167.2 bt169.1 bt169.2).bind fun t171 => (if t171 = true then (none) else ((garderobelaw13_t.f 4 2).bind fun bt172 => ((garderobelaw13_t.f 4 13).bind fun bt174 => ((hier_Fits.f k t132 t135 t138 t141 bt172.1 bt172.2 bt174.1 bt174.2).bind fun t176 => (some t176)))))))) else (none))))) else (none))))) else (none)) = some r := H
      have A13 := Aside0.mk A130
      clear A130
      by_cases c14 : t156 = true
      ·subst c14
       have H1 : ((garderobelaw13_t.f 4 11).bind fun bt157 => ((garderobelaw13_t.f 4 1).bind fun bt159 => ((hier_Fits.f k t132 t135 t138 t141 bt157.1 bt157.2 bt159.1 bt159.2).bind fun t161 => (if t161 = true then ((garderobelaw13_t.f 6 0).bind fun bt162 => ((garderobelaw13_t.f 4 0).bind fun bt164 => ((hier_Fits.f k t132 t135 t138 t141 bt162.1 bt162.2 bt164.1 bt164.2).bind fun t166 => (if t166 = true then ((garderobelaw13_t.f 6 0).bind fun bt167 => ((garderobelaw13_t.f 7 0).bind fun bt169 => ((hier_Fits.f k t132 t135 t138 t141 bt167.1 bt167.2 bt169.1 bt169.2).bind fun t171 => (if t171 = true then (none) else ((garderobelaw13_t.f 4 2).bind fun bt172 => ((garderobelaw13_t.f 4 13).bind fun bt174 => ((hier_Fits.f k t132 t135 t138 t141 bt172.1 bt172.2 bt174.1 bt174.2).bind fun t176 => (some t176)))))))) else (none))))) else (none))))) = some r := by rw [if_pos rfl] at H; exact H
       clear H
       have H := H1
       clear H1
       replace H := Option.bind_eq_some_iff.mp H
       obtain ⟨⟨t157, t158⟩, A150, H⟩ := H
       replace H : ((garderobelaw13_t.f 4 1).bind fun bt159 => ((hier_Fits.f k t132 t135 t138 t141 t157 t158 bt159.1 bt159.2).bind fun t161 => (if t161 = true then ((garderobelaw13_t.f 6 0).bind fun bt162 => ((garderobelaw13_t.f 4 0).bind fun bt164 => ((hier_Fits.f k t132 t135 t138 t141 bt162.1 bt162.2 bt164.1 bt164.2).bind fun t166 => (if t166 = true then ((garderobelaw13_t.f 6 0).bind fun bt167 => ((garderobelaw13_t.f 7 0).bind fun bt169 => ((hier_Fits.f k t132 t135 t138 t141 bt167.1 bt167.2 bt169.1 bt169.2).bind fun t171 => (if t171 = true then (none) else ((garderobelaw13_t.f 4 2).bind fun bt172 => ((garderobelaw13_t.f 4 13).bind fun bt174 => ((hier_Fits.f k t132 t135 t138 t141 bt172.1 bt172.2 bt174.1 bt174.2).bind fun t176 => (some t176)))))))) else (none))))) else (none)))) = some r := H
       have A15 := Aside0.mk A150
       clear A150
       replace H := Option.bind_eq_some_iff.mp H
       obtain ⟨⟨t159, t160⟩, A160, H⟩ := H
       replace H : ((hier_Fits.f k t132 t135 t138 t141 t157 t158 t159 t160).bind fun t161 => (if t161 = true then ((garderobelaw13_t.f 6 0).bind fun bt162 => ((garderobelaw13_t.f 4 0).bind fun bt164 => ((hier_Fits.f k t132 t135 t138 t141 bt162.1 bt162.2 bt164.1 bt164.2).bind fun t166 => (if t166 = true then ((garderobelaw13_t.f 6 0).bind fun bt167 => ((garderobelaw13_t.f 7 0).bind fun bt169 => ((hier_Fits.f k t132 t135 t138 t141 bt167.1 bt167.2 bt169.1 bt169.2).bind fun t171 => (if t171 = true then (none) else ((garderobelaw13_t.f 4 2).bind fun bt172 => ((garderobelaw13_t.f 4 13).bind fun bt174 => ((hier_Fits.f k t132 t135 t138 t141 bt172.1 bt172.2 bt174.1 bt174.2).bind fun t176 => (some t176)))))))) else (none))))) else (none))) = some r := H
       have A16 := Aside0.mk A160
       clear A160
       replace H := Option.bind_eq_some_iff.mp H
       obtain ⟨t161, A170, H⟩ := H
       replace H : (if t161 = true then ((garderobelaw13_t.f 6 0).bind fun bt162 => ((garderobelaw13_t.f 4 0).bind fun bt164 => ((hier_Fits.f k t132 t135 t138 t141 bt162.1 bt162.2 bt164.1 bt164.2).bind fun t166 => (if t166 = true then ((garderobelaw13_t.f 6 0).bind fun bt167 => ((garderobelaw13_t.f 7 0).bind fun bt169 => ((hier_Fits.f k t132 t135 t138 t141 bt167.1 bt167.2 bt169.1 bt169.2).bind fun t171 => (if t171 = true then (none) else ((garderobelaw13_t.f 4 2).bind fun bt172 => ((garderobelaw13_t.f 4 13).bind fun bt174 => ((hier_Fits.f k t132 t135 t138 t141 bt172.1 bt172.2 bt174.1 bt174.2).bind fun t176 => (some t176)))))))) else (none))))) else (none)) = some r := H
       have A17 := Aside0.mk A170
       clear A170
       by_cases c18 : t161 = true
       ·subst c18
        have H1 : ((garderobelaw13_t.f 6 0).bind fun bt162 => ((garderobelaw13_t.f 4 0).bind fun bt164 => ((hier_Fits.f k t132 t135 t138 t141 bt162.1 bt162.2 bt164.1 bt164.2).bind fun t166 => (if t166 = true then ((garderobelaw13_t.f 6 0).bind fun bt167 => ((garderobelaw13_t.f 7 0).bind fun bt169 => ((hier_Fits.f k t132 t135 t138 t141 bt167.1 bt167.2 bt169.1 bt169.2).bind fun t171 => (if t171 = true then (none) else ((garderobelaw13_t.f 4 2).bind fun bt172 => ((garderobelaw13_t.f 4 13).bind fun bt174 => ((hier_Fits.f k t132 t135 t138 t141 bt172.1 bt172.2 bt174.1 bt174.2).bind fun t176 => (some t176)))))))) else (none))))) = some r := by rw [if_pos rfl] at H; exact H
        clear H
        have H := H1
        clear H1
        replace H := Option.bind_eq_some_iff.mp H
        obtain ⟨⟨t162, t163⟩, A190, H⟩ := H
        replace H : ((garderobelaw13_t.f 4 0).bind fun bt164 => ((hier_Fits.f k t132 t135 t138 t141 t162 t163 bt164.1 bt164.2).bind fun t166 => (if t166 = true then ((garderobelaw13_t.f 6 0).bind fun bt167 => ((garderobelaw13_t.f 7 0).bind fun bt169 => ((hier_Fits.f k t132 t135 t138 t141 bt167.1 bt167.2 bt169.1 bt169.2).bind fun t171 => (if t171 = true then (none) else ((garderobelaw13_t.f 4 2).bind fun bt172 => ((garderobelaw13_t.f 4 13).bind fun bt174 => ((hier_Fits.f k t132 t135 t138 t141 bt172.1 bt172.2 bt174.1 bt174.2).bind fun t176 => (some t176)))))))) else (none)))) = some r := H
        have A19 := Aside0.mk A190
        clear A190
        replace H := Option.bind_eq_some_iff.mp H
        obtain ⟨⟨t164, t165⟩, A200, H⟩ := H
        replace H : ((hier_Fits.f k t132 t135 t138 t141 t162 t163 t164 t165).bind fun t166 => (if t166 = true then ((garderobelaw13_t.f 6 0).bind fun bt167 => ((garderobelaw13_t.f 7 0).bind fun bt169 => ((hier_Fits.f k t132 t135 t138 t141 bt167.1 bt167.2 bt169.1 bt169.2).bind fun t171 => (if t171 = true then (none) else ((garderobelaw13_t.f 4 2).bind fun bt172 => ((garderobelaw13_t.f 4 13).bind fun bt174 => ((hier_Fits.f k t132 t135 t138 t141 bt172.1 bt172.2 bt174.1 bt174.2).bind fun t176 => (some t176)))))))) else (none))) = some r := H
        have A20 := Aside0.mk A200
        clear A200
        replace H := Option.bind_eq_some_iff.mp H
        obtain ⟨t166, A210, H⟩ := H
        replace H : (if t166 = true then ((garderobelaw13_t.f 6 0).bind fun bt167 => ((garderobelaw13_t.f 7 0).bind fun bt169 => ((hier_Fits.f k t132 t135 t138 t141 bt167.1 bt167.2 bt169.1 bt169.2).bind fun t171 => (if t171 = true then (none) else ((garderobelaw13_t.f 4 2).bind fun bt172 => ((garderobelaw13_t.f 4 13).bind fun bt174 => ((hier_Fits.f k t132 t135 t138 t141 bt172.1 bt172.2 bt174.1 bt174.2).bind fun t176 => (some t176)))))))) else (none)) = some r := H
        have A21 := Aside0.mk A210
        clear A210
        by_cases c22 : t166 = true
        ·subst c22
         have H1 : ((garderobelaw13_t.f 6 0).bind fun bt167 => ((garderobelaw13_t.f 7 0).bind fun bt169 => ((hier_Fits.f k t132 t135 t138 t141 bt167.1 bt167.2 bt169.1 bt169.2).bind fun t171 => (if t171 = true then (none) else ((garderobelaw13_t.f 4 2).bind fun bt172 => ((garderobelaw13_t.f 4 13).bind fun bt174 => ((hier_Fits.f k t132 t135 t138 t141 bt172.1 bt172.2 bt174.1 bt174.2).bind fun t176 => (some t176)))))))) = some r := by rw [if_pos rfl] at H; exact H
         clear H
         have H := H1
         clear H1
         replace H := Option.bind_eq_some_iff.mp H
         obtain ⟨⟨t167, t168⟩, A230, H⟩ := H
         replace H : ((garderobelaw13_t.f 7 0).bind fun bt169 => ((hier_Fits.f k t132 t135 t138 t141 t167 t168 bt169.1 bt169.2).bind fun t171 => (if t171 = true then (none) else ((garderobelaw13_t.f 4 2).bind fun bt172 => ((garderobelaw13_t.f 4 13).bind fun bt174 => ((hier_Fits.f k t132 t135 t138 t141 bt172.1 bt172.2 bt174.1 bt174.2).bind fun t176 => (some t176))))))) = some r := H
         have A23 := Aside0.mk A230
         clear A230
         replace H := Option.bind_eq_some_iff.mp H
         obtain ⟨⟨t169, t170⟩, A240, H⟩ := H
         replace H : ((hier_Fits.f k t132 t135 t138 t141 t167 t168 t169 t170).bind fun t171 => (if t171 = true then (none) else ((garderobelaw13_t.f 4 2).bind fun bt172 => ((garderobelaw13_t.f 4 13).bind fun bt174 => ((hier_Fits.f k t132 t135 t138 t141 bt172.1 bt172.2 bt174.1 bt174.2).bind fun t176 => (some t176)))))) = some r := H
         have A24 := Aside0.mk A240
         clear A240
         replace H := Option.bind_eq_some_iff.mp H
         obtain ⟨t171, A250, H⟩ := H
         replace H : (if t171 = true then (none) else ((garderobelaw13_t.f 4 2).bind fun bt172 => ((garderobelaw13_t.f 4 13).bind fun bt174 => ((hier_Fits.f k t132 t135 t138 t141 bt172.1 bt172.2 bt174.1 bt174.2).bind fun t176 => (some t176))))) = some r := H
         have A25 := Aside0.mk A250
         clear A250
         by_cases c26 : t171 = true
         ·subst c26
          have H1 : (none) = some r := by rw [if_pos rfl] at H; exact H
          clear H
          have H := H1
          clear H1
          exact absurd H (by simp)
         ·replace c26 := Bool.eq_false_iff.mpr c26
          subst c26
          have H1 : ((garderobelaw13_t.f 4 2).bind fun bt172 => ((garderobelaw13_t.f 4 13).bind fun bt174 => ((hier_Fits.f k t132 t135 t138 t141 bt172.1 bt172.2 bt174.1 bt174.2).bind fun t176 => (some t176)))) = some r := by rw [if_neg (show ¬ (false = true) by decide)] at H; exact H
          clear H
          have H := H1
          clear H1
          replace H := Option.bind_eq_some_iff.mp H
          obtain ⟨⟨t172, t173⟩, A270, H⟩ := H
          replace H : ((garderobelaw13_t.f 4 13).bind fun bt174 => ((hier_Fits.f k t132 t135 t138 t141 t172 t173 bt174.1 bt174.2).bind fun t176 => (some t176))) = some r := H
          have A27 := Aside0.mk A270
          clear A270
          replace H := Option.bind_eq_some_iff.mp H
          obtain ⟨⟨t174, t175⟩, A280, H⟩ := H
          replace H : ((hier_Fits.f k t132 t135 t138 t141 t172 t173 t174 t175).bind fun t176 => (some t176)) = some r := H
          have A28 := Aside0.mk A280
          clear A280
          replace H := Option.bind_eq_some_iff.mp H
          obtain ⟨t176, A290, H⟩ := H
          replace H : (some t176) = some r := H
          have A29 := Aside0.mk A290
          clear A290
          obtain rfl := Option.some.inj H
          go_enter Try.func46, Try.ntmps46
          try go_wp2_with (first | ((with_reducible refine gate_callee (f := 57) rfl ?_); refine goesL_ (some 2) rfl rfl Try.func57 (by kernel_rfl) rfl #[] rfl (by (try simp only [List.map_toArray, List.map_cons, List.map_nil]); first | done | rfl | (simp only [List.length_drop, List.length_take]; rfl)) ?_; (with_reducible refine (garderoberef12_World.calls  t132 t135 t138 t141 _ A1.out).mono ?_); rintro e w30 ⟨v133, v136, v139, v142, rfl, ho0, ho1, ho2, ho3, hb⟩; refine ⟨_, rfl, ?_⟩; have n0_ := Aside0.mk (Kd.R_lower ho0 (below_size (qW HB.out))); have n1_ := Aside0.mk (Kd.R_lower ho1 (below_size (qW HB.out))); have n2_ := Aside0.mk (Kd.R_lower ho2 (below_size (qW HB.out))); have n3_ := Aside0.mk (Kd.R_lower ho3 (below_size (qW HB.out))); have n4_ := Aside0.mk (below_step (qW HB.out) hb); clear HB; have HO134 := n0_; have HO137 := n1_; have HO140 := n2_; have HO143 := n3_; have HB := n4_; clear n0_ n1_ n2_ n3_ n4_; (try clear hb); (try clear hb2); (try clear hk); (try clear hi); (try clear ho0); (try clear ho1); (try clear ho2); (try clear ho3)) | ((with_reducible refine gate_dst (N := 1) rfl ?_); (try (refine gate_guard (by rfl) ?_; dsimp only)); refine box_event ?hg (N := 1) ?hd (cs := #[.slice none 0 0, .slice none 0 0, .slice none 0 0, .slice none 0 0]) (t := 27) ?hr ?_; (case hd => rfl); (case hg => rfl); (case hr => first | (go_simp; done) | (go_simp; rfl)); intro gb144 hg w31 hbox hb; have n0_ := Aside0.mk (Kd.R_below (qR HO134.out) hb); have n1_ := Aside0.mk (Kd.R_below (qR HO137.out) hb); have n2_ := Aside0.mk (Kd.R_below (qR HO140.out) hb); have n3_ := Aside0.mk (Kd.R_below (qR HO143.out) hb); have n4_ := Aside0.mk (below_step (qW HB.out) hb); have n5_ := Aside0.mk (hbox); have n6_ := Aside0.mk ((by rw [hg]; exact (below_size (qW HB.out)) : w.heap.size ≤ gb144)); have n7_ := Aside0.mk ((by rw [hg]; exact (below_size (qW HB.out)) : w.heap.size ≤ gb144)); clear HO134 HO137 HO140 HO143 HB; have HO134 := n0_; have HO137 := n1_; have HO140 := n2_; have HO143 := n3_; have HB := n4_; have BK144 := n5_; have GW144 := n6_; have GE144 := n7_; clear n0_ n1_ n2_ n3_ n4_ n5_ n6_ n7_; clear hb hbox hg; obtain ⟨Ao32, co32, eo32⟩ := Kd.R_slice HO134.out; subst eo32; have hcz33_0 : w31.cell? ⟨gb144, 0, none⟩ = some (.slice none 0 0) := (blk_cell BK144.out 0).trans rfl; have hcz33_1 : w31.cell? ⟨gb144, 1, none⟩ = some (.slice none 0 0) := (blk_cell BK144.out 1).trans rfl; have hcz33_2 : w31.cell? ⟨gb144, 2, none⟩ = some (.slice none 0 0) := (blk_cell BK144.out 2).trans rfl; have hcz33_3 : w31.cell? ⟨gb144, 3, none⟩ = some (.slice none 0 0) := (blk_cell BK144.out 3).trans rfl; have hfz33_0 := blk_frozen BK144.out 0; have hfz33_1 := blk_frozen BK144.out 1; have hfz33_2 := blk_frozen BK144.out 2; have hfz33_3 := blk_frozen BK144.out 3; obtain ⟨Ao34, co34, eo34⟩ := Kd.R_slice HO137.out; subst eo34; obtain ⟨Ao35, co35, eo35⟩ := Kd.R_slice HO140.out; subst eo35; obtain ⟨Ao36, co36, eo36⟩ := Kd.R_slice HO143.out; subst eo36))
          have n0_ : Aside0 (Kd.R k103 103 ((((w31.setCell ⟨gb144, 0, none⟩ (.slice Ao32 t132.length co32)).setCell ⟨gb144, 1, none⟩ (.slice Ao34 t135.length co34)).setCell ⟨gb144, 2, none⟩ (.slice Ao35 t138.length co35)).setCell ⟨gb144, 3, none⟩ (.slice Ao36 t141.length co36)) w.heap.size (fun _ => True) (.slice Ao32 t132.length co32) t132) := ⟨by (with_reducible repeat (first | apply Kd.R_alloc | apply Kd.R_drewN | apply Kd.R_drew)); exact Kd.R_mono (Kd.R_far (p := ⟨gb144, 3, none⟩) (Kd.R_far (p := ⟨gb144, 2, none⟩) (Kd.R_far (p := ⟨gb144, 1, none⟩) (Kd.R_far (p := ⟨gb144, 0, none⟩) (Kd.R_types HO134.out BK144.out (by decide)) (fun _ hk => hk.2) (.slice Ao32 t132.length co32)) (fun _ hk => hk.2) (.slice Ao34 t135.length co34)) (fun _ hk => hk.2) (.slice Ao35 t138.length co35)) (fun _ hk => hk.2) (.slice Ao36 t141.length co36)) (fun _ hk => trivial)⟩
          have n1_ : Aside0 (Kd.R k38 38 ((((w31.setCell ⟨gb144, 0, none⟩ (.slice Ao32 t132.length co32)).setCell ⟨gb144, 1, none⟩ (.slice Ao34 t135.length co34)).setCell ⟨gb144, 2, none⟩ (.slice Ao35 t138.length co35)).setCell ⟨gb144, 3, none⟩ (.slice Ao36 t141.length co36)) w.heap.size (fun _ => True) (.slice Ao34 t135.length co34) t135) := ⟨by (with_reducible repeat (first | apply Kd.R_alloc | apply Kd.R_drewN | apply Kd.R_drew)); exact Kd.R_mono (Kd.R_far (p := ⟨gb144, 3, none⟩) (Kd.R_far (p := ⟨gb144, 2, none⟩) (Kd.R_far (p := ⟨gb144, 1, none⟩) (Kd.R_far (p := ⟨gb144, 0, none⟩) (Kd.R_types HO137.out BK144.out (by decide)) (fun _ hk => hk.2) (.slice Ao32 t132.length co32)) (fun _ hk => hk.2) (.slice Ao34 t135.length co34)) (fun _ hk => hk.2) (.slice Ao35 t138.length co35)) (fun _ hk => hk.2) (.slice Ao36 t141.length co36)) (fun _ hk => trivial)⟩
          have n2_ : Aside0 (Kd.R k206 206 ((((w31.setCell ⟨gb144, 0, none⟩ (.slice Ao32 t132.length co32)).setCell ⟨gb144, 1, none⟩ (.slice Ao34 t135.length co34)).setCell ⟨gb144, 2, none⟩ (.slice Ao35 t138.length co35)).setCell ⟨gb144, 3, none⟩ (.slice Ao36 t141.length co36)) w.heap.size (fun _ => True) (.slice Ao35 t138.length co35) t138) := ⟨by (with_reducible repeat (first | apply Kd.R_alloc | apply Kd.R_drewN | apply Kd.R_drew)); exact Kd.R_mono (Kd.R_far (p := ⟨gb144, 3, none⟩) (Kd.R_far (p := ⟨gb144, 2, none⟩) (Kd.R_far (p := ⟨gb144, 1, none⟩) (Kd.R_far (p := ⟨gb144, 0, none⟩) (Kd.R_types HO140.out BK144.out (by decide)) (fun _ hk => hk.2) (.slice Ao32 t132.length co32)) (fun _ hk => hk.2) (.slice Ao34 t135.length co34)) (fun _ hk => hk.2) (.slice Ao35 t138.length co35)) (fun _ hk => hk.2) (.slice Ao36 t141.length co36)) (fun _ hk => trivial)⟩
          have n3_ : Aside0 (Kd.R k117 117 ((((w31.setCell ⟨gb144, 0, none⟩ (.slice Ao32 t132.length co32)).setCell ⟨gb144, 1, none⟩ (.slice Ao34 t135.length co34)).setCell ⟨gb144, 2, none⟩ (.slice Ao35 t138.length co35)).setCell ⟨gb144, 3, none⟩ (.slice Ao36 t141.length co36)) w.heap.size (fun _ => True) (.slice Ao36 t141.length co36) t141) := ⟨by (with_reducible repeat (first | apply Kd.R_alloc | apply Kd.R_drewN | apply Kd.R_drew)); exact Kd.R_mono (Kd.R_far (p := ⟨gb144, 3, none⟩) (Kd.R_far (p := ⟨gb144, 2, none⟩) (Kd.R_far (p := ⟨gb144, 1, none⟩) (Kd.R_far (p := ⟨gb144, 0, none⟩) (Kd.R_types HO143.out BK144.out (by decide)) (fun _ hk => hk.2) (.slice Ao32 t132.length co32)) (fun _ hk => hk.2) (.slice Ao34 t135.length co34)) (fun _ hk => hk.2) (.slice Ao35 t138.length co35)) (fun _ hk => hk.2) (.slice Ao36 t141.length co36)) (fun _ hk => trivial)⟩
          have n4_ : Aside0 (((((w31.setCell ⟨gb144, 0, none⟩ (.slice Ao32 t132.length co32)).setCell ⟨gb144, 1, none⟩ (.slice Ao34 t135.length co34)).setCell ⟨gb144, 2, none⟩ (.slice Ao35 t138.length co35)).setCell ⟨gb144, 3, none⟩ (.slice Ao36 t141.length co36)).heap[gb144]? = some (.cells #[.slice Ao32 t132.length co32, .slice Ao34 t135.length co34, .slice Ao35 t138.length co35, .slice Ao36 t141.length co36] 27 (0, 0))) := ⟨by (with_reducible repeat (first | refine blk_drewN ?_ _ | refine blk_drew ?_ | refine blk_alloc ?_ _)); refine blk_put (cs := #[.slice Ao32 t132.length co32, .slice Ao34 t135.length co34, .slice Ao35 t138.length co35, .slice none 0 0]) ?_ 3 _ rfl; (with_reducible repeat (first | refine blk_drewN ?_ _ | refine blk_drew ?_ | refine blk_alloc ?_ _)); refine blk_put (cs := #[.slice Ao32 t132.length co32, .slice Ao34 t135.length co34, .slice none 0 0, .slice none 0 0]) ?_ 2 _ rfl; (with_reducible repeat (first | refine blk_drewN ?_ _ | refine blk_drew ?_ | refine blk_alloc ?_ _)); refine blk_put (cs := #[.slice Ao32 t132.length co32, .slice none 0 0, .slice none 0 0, .slice none 0 0]) ?_ 1 _ rfl; (with_reducible repeat (first | refine blk_drewN ?_ _ | refine blk_drew ?_ | refine blk_alloc ?_ _)); refine blk_put (cs := #[.slice none 0 0, .slice none 0 0, .slice none 0 0, .slice none 0 0]) ?_ 0 _ rfl; (with_reducible repeat (first | refine blk_drewN ?_ _ | refine blk_drew ?_ | refine blk_alloc ?_ _)); exact BK144.out⟩
          have n5_ : Aside0 (Below w.heap.size w ((((w31.setCell ⟨gb144, 0, none⟩ (.slice Ao32 t132.length co32)).setCell ⟨gb144, 1, none⟩ (.slice Ao34 t135.length co34)).setCell ⟨gb144, 2, none⟩ (.slice Ao35 t138.length co35)).setCell ⟨gb144, 3, none⟩ (.slice Ao36 t141.length co36))) := ⟨qW HB.out⟩
          (try clear HO134)
          (try clear HO137)
          (try clear HO140)
          (try clear HO143)
          (try clear BK144)
          (try clear HB)
          generalize ((((w31.setCell ⟨gb144, 0, none⟩ (.slice Ao32 t132.length co32)).setCell ⟨gb144, 1, none⟩ (.slice Ao34 t135.length co34)).setCell ⟨gb144, 2, none⟩ (.slice Ao35 t138.length co35)).setCell ⟨gb144, 3, none⟩ (.slice Ao36 t141.length co36)) = w37 at n0_ n1_ n2_ n3_ n4_ n5_ ⊢
          have HO134 := n0_
          have HO137 := n1_
          have HO140 := n2_
          have HO143 := n3_
          have BK144 := n4_
          have HB := n5_
          clear n0_ n1_ n2_ n3_ n4_ n5_
          have n0_ := Aside0.mk (Kd.R_drew HO134.out)
          have n1_ := Aside0.mk (Kd.R_drew HO137.out)
          have n2_ := Aside0.mk (Kd.R_drew HO140.out)
          have n3_ := Aside0.mk (Kd.R_drew HO143.out)
          have n4_ := Aside0.mk (blk_drew BK144.out)
          have n5_ := Aside0.mk (below_drew1 HB.out)
          clear HO134
          clear HO137
          clear HO140
          clear HO143
          clear BK144
          clear HB
          have HO134 := n0_
          have HO137 := n1_
          have HO140 := n2_
          have HO143 := n3_
          have BK144 := n4_
          have HB := n5_
          clear n0_ n1_ n2_ n3_ n4_ n5_
          refine start_ (n := 54) (S := fun w' => w'.cell? ⟨gb144, 0, none⟩ = some (.slice Ao32 t132.length co32) ∧ w'.cell? ⟨gb144, 1, none⟩ = some (.slice Ao34 t135.length co34) ∧ w'.cell? ⟨gb144, 2, none⟩ = some (.slice Ao35 t138.length co35) ∧ w'.cell? ⟨gb144, 3, none⟩ = some (.slice Ao36 t141.length co36)) (ds := []) #[false, false, false, false, false, false, false, false, false, false, false, false, false, false, false, false, false, false, false, false, false, false, false, false, false, false, false, false, false, false, false, false, false, false, false, false, false, false, false, false, false, false, false, false, false, false, false, false, false, false, false, false, false, false] (by kernel_rfl) rfl rfl ⟨(blk_cell BK144.out 0).trans rfl, (blk_cell BK144.out 1).trans rfl, (blk_cell BK144.out 2).trans rfl, (blk_cell BK144.out 3).trans rfl⟩ (fun hHeld => ?_); refine with_tabW garderobelaw13_works.tab2 garderobelaw13_works.bits2 (fun HT_ HW_ => ?_)
          generalize w37.drew = w38 at HO134 HO137 HO140 HO143 BK144 HB hHeld ⊢
          refine take_ (i := 0) (N := some 3) (v := ?_) (a' := ?_) #[true, false, false, false, false, false, false, false, false, false, false, false, false, false, false, false, false, false, false, false, false, false, false, false, false, false, false, false, false, false, false, false, false, false, false, false, false, false, false, false, false, false, false, false, false, false, false, false, false, false, false, false, false, false] rfl rfl (take_ofW HT_.out HW_.out (by kernel_rfl)) (fun _ _ _ h => h) (Or.inl ⟨by rfl, ?_⟩) hHeld ?_ ?_
          rotate_left
          ·rintro w' ⟨s0, s1, s2, s3⟩
           go_simp
           with_reducible rfl
          rotate_left
          ·simp only [Act.put, List.setIfInBounds_toArray, List.set_cons_zero, List.set_cons_succ, i64_w, i32_w]
           rfl
          refine one_ (i := 1) (N := some 4) #[true, true, false, false, false, false, false, false, false, false, false, false, false, false, false, false, false, false, false, false, false, false, false, false, false, false, false, false, false, false, false, false, false, false, false, false, false, false, false, false, false, false, false, false, false, false, false, false, false, false, false, false, false, false] rfl rfl (one_of HT_.out (by kernel_rfl)) (by decide) (fun K hK => ?_)
          refine goes_ Try.func41 (by kernel_rfl) rfl #[.agg #[.slice Ao32 t132.length co32, .slice Ao34 t135.length co34, .slice Ao35 t138.length co35, .slice Ao36 t141.length co36], .int .i64 11, .int .i64 1] (by rfl) rfl rfl (by (try simp only [List.map_toArray, List.map_cons, List.map_nil]); first | done | rfl | (simp only [List.length_drop, List.length_take]; rfl)) ?_
          with_reducible refine (hier_From.calls _ _ t132 _ _ t135 _ _ t138 _ _ t141 11 1 true _ ?side1 ?side2 ?side3 ?side4 ?side5 ?side6 ?side7 ?side8 A2.out).mono ?_
          (case side1 => exact qC (Kd.R_reads' HO134.out).2.2)
          (case side2 => exact (Kd.R_reads' HO134.out).2.1)
          (case side3 => exact qC (Kd.R_reads' HO137.out).2.2)
          (case side4 => exact (Kd.R_reads' HO137.out).2.1)
          (case side5 => exact qC (Kd.R_reads' HO140.out).2.2)
          (case side6 => exact (Kd.R_reads' HO140.out).2.1)
          (case side7 => exact qC (Kd.R_reads' HO143.out).2.2)
          (case side8 => exact (Kd.R_reads' HO143.out).2.1)
          rintro e w39 ⟨rfl, hb⟩
          refine ⟨_, rfl, ?_⟩
          have n0_ := Aside0.mk (Kd.R_below (qR HO134.out) hb)
          have n1_ := Aside0.mk (Kd.R_below (qR HO137.out) hb)
          have n2_ := Aside0.mk (Kd.R_below (qR HO140.out) hb)
          have n3_ := Aside0.mk (Kd.R_below (qR HO143.out) hb)
          have n4_ := Aside0.mk (blk_below (qb BK144.out) hb)
          have n5_ := Aside0.mk (below_step (qW HB.out) hb)
          clear HO134
          clear HO137
          clear HO140
          clear HO143
          clear BK144
          clear HB
          have HO134 := n0_
          have HO137 := n1_
          have HO140 := n2_
          have HO143 := n3_
          have BK144 := n4_
          have HB := n5_
          clear n0_ n1_ n2_ n3_ n4_ n5_
          (try clear hb)
          (try clear hb2)
          (try clear hk)
          (try clear hi)
          refine hK.out _ _ ⟨(blk_cell BK144.out 0).trans rfl, (blk_cell BK144.out 1).trans rfl, (blk_cell BK144.out 2).trans rfl, (blk_cell BK144.out 3).trans rfl⟩ (fun hHeld => ?_)
          clear hK K
          refine norm_ (a' := ?_) ?_ ?_
          rotate_left
          ·show Act.put _ (some 4) _ = _
           simp only [Act.put, List.setIfInBounds_toArray, List.set_cons_zero, List.set_cons_succ, i64_w, i32_w]
           rfl
          refine pure_ (i := 2) (N := some 5) (v := ?_) (a' := ?_) #[true, true, true, false, false, false, false, false, false, false, false, false, false, false, false, false, false, false, false, false, false, false, false, false, false, false, false, false, false, false, false, false, false, false, false, false, false, false, false, false, false, false, false, false, false, false, false, false, false, false, false, false, false, false] rfl rfl (any_of HT_.out (by kernel_rfl)) (fun _ _ _ h => h) (Or.inl ⟨by rfl, ?_⟩) ?_ ?_
          rotate_left
          ·intro w'
           go_simp
           with_reducible rfl
          rotate_left
          ·simp only [Act.put, List.setIfInBounds_toArray, List.set_cons_zero, List.set_cons_succ, i64_w, i32_w]
           rfl
          refine take_ (i := 3) (N := some 6) (v := ?_) (a' := ?_) #[true, true, true, true, false, false, false, false, false, false, false, false, false, false, false, false, false, false, false, false, false, false, false, false, false, false, false, false, false, false, false, false, false, false, false, false, false, false, false, false, false, false, false, false, false, false, false, false, false, false, false, false, false, false] rfl rfl (take_ofW HT_.out HW_.out (by kernel_rfl)) (fun _ _ _ h => h) (Or.inl ⟨by rfl, ?_⟩) hHeld ?_ ?_
          rotate_left
          ·rintro w' ⟨s0, s1, s2, s3⟩
           go_simp
           with_reducible rfl
          rotate_left
          ·simp only [Act.put, List.setIfInBounds_toArray, List.set_cons_zero, List.set_cons_succ, i64_w, i32_w]
           rfl
          refine one_ (i := 4) (N := some 7) #[true, true, true, true, true, false, false, false, false, false, false, false, false, false, false, false, false, false, false, false, false, false, false, false, false, false, false, false, false, false, false, false, false, false, false, false, false, false, false, false, false, false, false, false, false, false, false, false, false, false, false, false, false, false] rfl rfl (one_of HT_.out (by kernel_rfl)) (by decide) (fun K hK => ?_)
          refine goes_ Try.func41 (by kernel_rfl) rfl #[.agg #[.slice Ao32 t132.length co32, .slice Ao34 t135.length co34, .slice Ao35 t138.length co35, .slice Ao36 t141.length co36], .int .i64 1, .int .i64 11] (by rfl) rfl rfl (by (try simp only [List.map_toArray, List.map_cons, List.map_nil]); first | done | rfl | (simp only [List.length_drop, List.length_take]; rfl)) ?_
          with_reducible refine (hier_From.calls _ _ t132 _ _ t135 _ _ t138 _ _ t141 1 11 false _ ?side1 ?side2 ?side3 ?side4 ?side5 ?side6 ?side7 ?side8 A4.out).mono ?_
          (case side1 => exact qC (Kd.R_reads' HO134.out).2.2)
          (case side2 => exact (Kd.R_reads' HO134.out).2.1)
          (case side3 => exact qC (Kd.R_reads' HO137.out).2.2)
          (case side4 => exact (Kd.R_reads' HO137.out).2.1)
          (case side5 => exact qC (Kd.R_reads' HO140.out).2.2)
          (case side6 => exact (Kd.R_reads' HO140.out).2.1)
          (case side7 => exact qC (Kd.R_reads' HO143.out).2.2)
          (case side8 => exact (Kd.R_reads' HO143.out).2.1)
          rintro e w40 ⟨rfl, hb⟩
          refine ⟨_, rfl, ?_⟩
          have n0_ := Aside0.mk (Kd.R_below (qR HO134.out) hb)
          have n1_ := Aside0.mk (Kd.R_below (qR HO137.out) hb)
          have n2_ := Aside0.mk (Kd.R_below (qR HO140.out) hb)
          have n3_ := Aside0.mk (Kd.R_below (qR HO143.out) hb)
          have n4_ := Aside0.mk (blk_below (qb BK144.out) hb)
          have n5_ := Aside0.mk (below_step (qW HB.out) hb)
          clear HO134
          clear HO137
          clear HO140
          clear HO143
          clear BK144
          clear HB
          have HO134 := n0_
          have HO137 := n1_
          have HO140 := n2_
          have HO143 := n3_
          have BK144 := n4_
          have HB := n5_
          clear n0_ n1_ n2_ n3_ n4_ n5_
          (try clear hb)
          (try clear hb2)
          (try clear hk)
          (try clear hi)
          refine hK.out _ _ ⟨(blk_cell BK144.out 0).trans rfl, (blk_cell BK144.out 1).trans rfl, (blk_cell BK144.out 2).trans rfl, (blk_cell BK144.out 3).trans rfl⟩ (fun hHeld => ?_)
          clear hK K
          refine norm_ (a' := ?_) ?_ ?_
          rotate_left
          ·show Act.put _ (some 7) _ = _
           simp only [Act.put, List.setIfInBounds_toArray, List.set_cons_zero, List.set_cons_succ, i64_w, i32_w]
           rfl
          refine pure_ (i := 5) (N := some 8) (v := ?_) (a' := ?_) #[true, true, true, true, true, true, false, false, false, false, false, false, false, false, false, false, false, false, false, false, false, false, false, false, false, false, false, false, false, false, false, false, false, false, false, false, false, false, false, false, false, false, false, false, false, false, false, false, false, false, false, false, false, false] rfl rfl (any_of HT_.out (by kernel_rfl)) (fun _ _ _ h => h) (Or.inl ⟨by rfl, ?_⟩) ?_ ?_
          rotate_left
          ·intro w'
           go_simp
           with_reducible rfl
          rotate_left
          ·simp only [Act.put, List.setIfInBounds_toArray, List.set_cons_zero, List.set_cons_succ, i64_w, i32_w]
           rfl
          refine pure_ (i := 6) (N := some 9) (v := ?_) (a' := ?_) #[true, true, true, true, true, true, true, false, false, false, false, false, false, false, false, false, false, false, false, false, false, false, false, false, false, false, false, false, false, false, false, false, false, false, false, false, false, false, false, false, false, false, false, false, false, false, false, false, false, false, false, false, false, false] rfl rfl (any_of HT_.out (by kernel_rfl)) (fun _ _ _ h => h) (Or.inl ⟨by rfl, ?_⟩) ?_ ?_
          rotate_left
          ·intro w'
           go_simp
           with_reducible rfl
          rotate_left
          ·simp only [Act.put, List.setIfInBounds_toArray, List.set_cons_zero, List.set_cons_succ, i64_w, i32_w]
           rfl
          refine pure_ (i := 7) (N := some 10) (v := ?_) (a' := ?_) #[true, true, true, true, true, true, true, true, false, false, false, false, false, false, false, false, false, false, false, false, false, false, false, false, false, false, false, false, false, false, false, false, false, false, false, false, false, false, false, false, false, false, false, false, false, false, false, false, false, false, false, false, false, false] rfl rfl (any_of HT_.out (by kernel_rfl)) (fun _ _ _ h => h) (Or.inl ⟨by rfl, ?_⟩) ?_ ?_
          rotate_left
          ·intro w'
           go_simp
           with_reducible rfl
          rotate_left
          ·simp only [Act.put, List.setIfInBounds_toArray, List.set_cons_zero, List.set_cons_succ, i64_w, i32_w]
           rfl
          refine take_ (i := 8) (N := some 11) (v := ?_) (a' := ?_) #[true, true, true, true, true, true, true, true, true, false, false, false, false, false, false, false, false, false, false, false, false, false, false, false, false, false, false, false, false, false, false, false, false, false, false, false, false, false, false, false, false, false, false, false, false, false, false, false, false, false, false, false, false, false] rfl rfl (take_ofW HT_.out HW_.out (by kernel_rfl)) (fun _ _ _ h => h) (Or.inl ⟨by rfl, ?_⟩) hHeld ?_ ?_
          rotate_left
          ·rintro w' ⟨s0, s1, s2, s3⟩
           go_simp
           with_reducible rfl
          rotate_left
          ·simp only [Act.put, List.setIfInBounds_toArray, List.set_cons_zero, List.set_cons_succ, i64_w, i32_w]
           rfl
          refine one_ (i := 9) (N := some 12) #[true, true, true, true, true, true, true, true, true, true, false, false, false, false, false, false, false, false, false, false, false, false, false, false, false, false, false, false, false, false, false, false, false, false, false, false, false, false, false, false, false, false, false, false, false, false, false, false, false, false, false, false, false, false] rfl rfl (one_of HT_.out (by kernel_rfl)) (by decide) (fun K hK => ?_)
          refine goes_ Try.func42 (by kernel_rfl) rfl #[.agg #[.slice Ao32 t132.length co32, .slice Ao34 t135.length co34, .slice Ao35 t138.length co35, .slice Ao36 t141.length co36], .int .i64 2, .int .i64 11] (by rfl) rfl rfl (by (try simp only [List.map_toArray, List.map_cons, List.map_nil]); first | done | rfl | (simp only [List.length_drop, List.length_take]; rfl)) ?_
          with_reducible refine (hier_Common.calls _ _ t132 _ _ t135 _ _ t138 _ _ t141 2 11 t147 _ ?side1 ?side2 ?side3 ?side4 ?side5 ?side6 ?side7 ?side8 A6.out).mono ?_
          (case side1 => exact qC (Kd.R_reads' HO134.out).2.2)
          (case side2 => exact (Kd.R_reads' HO134.out).2.1)
          (case side3 => exact qC (Kd.R_reads' HO137.out).2.2)
          (case side4 => exact (Kd.R_reads' HO137.out).2.1)
          (case side5 => exact qC (Kd.R_reads' HO140.out).2.2)
          (case side6 => exact (Kd.R_reads' HO140.out).2.1)
          (case side7 => exact qC (Kd.R_reads' HO143.out).2.2)
          (case side8 => exact (Kd.R_reads' HO143.out).2.1)
          rintro e w41 ⟨rfl, hb⟩
          refine ⟨_, rfl, ?_⟩
          have n0_ := Aside0.mk (Kd.R_below (qR HO134.out) hb)
          have n1_ := Aside0.mk (Kd.R_below (qR HO137.out) hb)
          have n2_ := Aside0.mk (Kd.R_below (qR HO140.out) hb)
          have n3_ := Aside0.mk (Kd.R_below (qR HO143.out) hb)
          have n4_ := Aside0.mk (blk_below (qb BK144.out) hb)
          have n5_ := Aside0.mk (below_step (qW HB.out) hb)
          clear HO134
          clear HO137
          clear HO140
          clear HO143
          clear BK144
          clear HB
          have HO134 := n0_
          have HO137 := n1_
          have HO140 := n2_
          have HO143 := n3_
          have BK144 := n4_
          have HB := n5_
          clear n0_ n1_ n2_ n3_ n4_ n5_
          (try clear hb)
          (try clear hb2)
          (try clear hk)
          (try clear hi)
          refine hK.out _ _ ⟨(blk_cell BK144.out 0).trans rfl, (blk_cell BK144.out 1).trans rfl, (blk_cell BK144.out 2).trans rfl, (blk_cell BK144.out 3).trans rfl⟩ (fun hHeld => ?_)
          clear hK K
          refine norm_ (a' := ?_) ?_ ?_
          rotate_left
          ·show Act.put _ (some 12) _ = _
           simp only [Act.put, List.setIfInBounds_toArray, List.set_cons_zero, List.set_cons_succ, i64_w, i32_w]
           rfl
          refine pure_ (i := 10) (N := some 13) (v := ?_) (a' := ?_) #[true, true, true, true, true, true, true, true, true, true, true, false, false, false, false, false, false, false, false, false, false, false, false, false, false, false, false, false, false, false, false, false, false, false, false, false, false, false, false, false, false, false, false, false, false, false, false, false, false, false, false, false, false, false] rfl rfl (any_of HT_.out (by kernel_rfl)) (fun _ _ _ h => h) (Or.inl ⟨by rfl, ?_⟩) ?_ ?_
          rotate_left
          ·intro w'
           go_simp
           with_reducible rfl
          rotate_left
          ·simp only [Act.put, List.setIfInBounds_toArray, List.set_cons_zero, List.set_cons_succ, i64_w, i32_w]
           rfl
          refine pure_ (i := 11) (N := some 14) (v := ?_) (a' := ?_) #[true, true, true, true, true, true, true, true, true, true, true, true, false, false, false, false, false, false, false, false, false, false, false, false, false, false, false, false, false, false, false, false, false, false, false, false, false, false, false, false, false, false, false, false, false, false, false, false, false, false, false, false, false, false] rfl rfl (any_of HT_.out (by kernel_rfl)) (fun _ _ _ h => h) (Or.inl ⟨by rfl, ?_⟩) ?_ ?_
          rotate_left
          ·intro w'
           go_simp
           with_reducible rfl
          rotate_left
          ·simp only [Act.put, List.setIfInBounds_toArray, List.set_cons_zero, List.set_cons_succ, i64_w, i32_w]
           rfl
          refine pure_ (i := 12) (N := some 15) (v := ?_) (a' := ?_) #[true, true, true, true, true, true, true, true, true, true, true, true, true, false, false, false, false, false, false, false, false, false, false, false, false, false, false, false, false, false, false, false, false, false, false, false, false, false, false, false, false, false, false, false, false, false, false, false, false, false, false, false, false, false] rfl rfl (any_of HT_.out (by kernel_rfl)) (fun _ _ _ h => h) (Or.inl ⟨by rfl, ?_⟩) ?_ ?_
          rotate_left
          ·intro w'
           go_simp
           with_reducible rfl
          rotate_left
          ·simp only [Act.put, List.setIfInBounds_toArray, List.set_cons_zero, List.set_cons_succ, i64_w, i32_w]
           rfl
          refine take_ (i := 13) (N := some 16) (v := ?_) (a' := ?_) #[true, true, true, true, true, true, true, true, true, true, true, true, true, true, false, false, false, false, false, false, false, false, false, false, false, false, false, false, false, false, false, false, false, false, false, false, false, false, false, false, false, false, false, false, false, false, false, false, false, false, false, false, false, false] rfl rfl (take_ofW HT_.out HW_.out (by kernel_rfl)) (fun _ _ _ h => h) (Or.inl ⟨by rfl, ?_⟩) hHeld ?_ ?_
          rotate_left
          ·rintro w' ⟨s0, s1, s2, s3⟩
           go_simp
           with_reducible rfl
          rotate_left
          ·simp only [Act.put, List.setIfInBounds_toArray, List.set_cons_zero, List.set_cons_succ, i64_w, i32_w]
           rfl
          refine one_ (i := 14) (N := some 17) #[true, true, true, true, true, true, true, true, true, true, true, true, true, true, true, false, false, false, false, false, false, false, false, false, false, false, false, false, false, false, false, false, false, false, false, false, false, false, false, false, false, false, false, false, false, false, false, false, false, false, false, false, false, false] rfl rfl (one_of HT_.out (by kernel_rfl)) (by decide) (fun K hK => ?_)
          refine goes_ Try.func42 (by kernel_rfl) rfl #[.agg #[.slice Ao32 t132.length co32, .slice Ao34 t135.length co34, .slice Ao35 t138.length co35, .slice Ao36 t141.length co36], .int .i64 2, .int .i64 14] (by rfl) rfl rfl (by (try simp only [List.map_toArray, List.map_cons, List.map_nil]); first | done | rfl | (simp only [List.length_drop, List.length_take]; rfl)) ?_
          with_reducible refine (hier_Common.calls _ _ t132 _ _ t135 _ _ t138 _ _ t141 2 14 t148 _ ?side1 ?side2 ?side3 ?side4 ?side5 ?side6 ?side7 ?side8 A8.out).mono ?_
          (case side1 => exact qC (Kd.R_reads' HO134.out).2.2)
          (case side2 => exact (Kd.R_reads' HO134.out).2.1)
          (case side3 => exact qC (Kd.R_reads' HO137.out).2.2)
          (case side4 => exact (Kd.R_reads' HO137.out).2.1)
          (case side5 => exact qC (Kd.R_reads' HO140.out).2.2)
          (case side6 => exact (Kd.R_reads' HO140.out).2.1)
          (case side7 => exact qC (Kd.R_reads' HO143.out).2.2)
          (case side8 => exact (Kd.R_reads' HO143.out).2.1)
          rintro e w42 ⟨rfl, hb⟩
          refine ⟨_, rfl, ?_⟩
          have n0_ := Aside0.mk (Kd.R_below (qR HO134.out) hb)
          have n1_ := Aside0.mk (Kd.R_below (qR HO137.out) hb)
          have n2_ := Aside0.mk (Kd.R_below (qR HO140.out) hb)
          have n3_ := Aside0.mk (Kd.R_below (qR HO143.out) hb)
          have n4_ := Aside0.mk (blk_below (qb BK144.out) hb)
          have n5_ := Aside0.mk (below_step (qW HB.out) hb)
          clear HO134
          clear HO137
          clear HO140
          clear HO143
          clear BK144
          clear HB
          have HO134 := n0_
          have HO137 := n1_
          have HO140 := n2_
          have HO143 := n3_
          have BK144 := n4_
          have HB := n5_
          clear n0_ n1_ n2_ n3_ n4_ n5_
          (try clear hb)
          (try clear hb2)
          (try clear hk)
          (try clear hi)
          refine hK.out _ _ ⟨(blk_cell BK144.out 0).trans rfl, (blk_cell BK144.out 1).trans rfl, (blk_cell BK144.out 2).trans rfl, (blk_cell BK144.out 3).trans rfl⟩ (fun hHeld => ?_)
          clear hK K
          refine norm_ (a' := ?_) ?_ ?_
          rotate_left
          ·show Act.put _ (some 17) _ = _
           simp only [Act.put, List.setIfInBounds_toArray, List.set_cons_zero, List.set_cons_succ, i64_w, i32_w]
           rfl
          refine pure_ (i := 15) (N := some 18) (v := ?_) (a' := ?_) #[true, true, true, true, true, true, true, true, true, true, true, true, true, true, true, true, false, false, false, false, false, false, false, false, false, false, false, false, false, false, false, false, false, false, false, false, false, false, false, false, false, false, false, false, false, false, false, false, false, false, false, false, false, false] rfl rfl (any_of HT_.out (by kernel_rfl)) (fun _ _ _ h => h) (Or.inl ⟨by rfl, ?_⟩) ?_ ?_
          rotate_left
          ·intro w'
           go_simp
           with_reducible rfl
          rotate_left
          ·simp only [Act.put, List.setIfInBounds_toArray, List.set_cons_zero, List.set_cons_succ, i64_w, i32_w]
           rfl
          refine pure_ (i := 16) (N := some 19) (v := ?_) (a' := ?_) #[true, true, true, true, true, true, true, true, true, true, true, true, true, true, true, true, true, false, false, false, false, false, false, false, false, false, false, false, false, false, false, false, false, false, false, false, false, false, false, false, false, false, false, false, false, false, false, false, false, false, false, false, false, false] rfl rfl (any_of HT_.out (by kernel_rfl)) (fun _ _ _ h => h) (Or.inl ⟨by rfl, ?_⟩) ?_ ?_
          rotate_left
          ·intro w'
           go_simp
           with_reducible rfl
          rotate_left
          ·simp only [Act.put, List.setIfInBounds_toArray, List.set_cons_zero, List.set_cons_succ, i64_w, i32_w]
           rfl
          refine pure_ (i := 17) (N := some 20) (v := ?_) (a' := ?_) #[true, true, true, true, true, true, true, true, true, true, true, true, true, true, true, true, true, true, false, false, false, false, false, false, false, false, false, false, false, false, false, false, false, false, false, false, false, false, false, false, false, false, false, false, false, false, false, false, false, false, false, false, false, false] rfl rfl (any_of HT_.out (by kernel_rfl)) (fun _ _ _ h => h) (Or.inl ⟨by rfl, ?_⟩) ?_ ?_
          rotate_left
          ·intro w'
           go_simp
           with_reducible rfl
          rotate_left
          ·simp only [Act.put, List.setIfInBounds_toArray, List.set_cons_zero, List.set_cons_succ, i64_w, i32_w]
           rfl
          refine take_ (i := 18) (N := some 21) (v := ?_) (a' := ?_) #[true, true, true, true, true, true, true, true, true, true, true, true, true, true, true, true, true, true, true, false, false, false, false, false, false, false, false, false, false, false, false, false, false, false, false, false, false, false, false, false, false, false, false, false, false, false, false, false, false, false, false, false, false, false] rfl rfl (take_ofW HT_.out HW_.out (by kernel_rfl)) (fun _ _ _ h => h) (Or.inl ⟨by rfl, ?_⟩) hHeld ?_ ?_
          rotate_left
          ·rintro w' ⟨s0, s1, s2, s3⟩
           go_simp
           with_reducible rfl
          rotate_left
          ·simp only [Act.put, List.setIfInBounds_toArray, List.set_cons_zero, List.set_cons_succ, i64_w, i32_w]
           rfl
          refine one_ (i := 19) (N := some 22) #[true, true, true, true, true, true, true, true, true, true, true, true, true, true, true, true, true, true, true, true, false, false, false, false, false, false, false, false, false, false, false, false, false, false, false, false, false, false, false, false, false, false, false, false, false, false, false, false, false, false, false, false, false, false] rfl rfl (one_of HT_.out (by kernel_rfl)) (by decide) (fun K hK => ?_)
          refine goes_ Try.func42 (by kernel_rfl) rfl #[.agg #[.slice Ao32 t132.length co32, .slice Ao34 t135.length co34, .slice Ao35 t138.length co35, .slice Ao36 t141.length co36], .int .i64 13, .int .i64 1] (by rfl) rfl rfl (by (try simp only [List.map_toArray, List.map_cons, List.map_nil]); first | done | rfl | (simp only [List.length_drop, List.length_take]; rfl)) ?_
          with_reducible refine (hier_Common.calls _ _ t132 _ _ t135 _ _ t138 _ _ t141 13 1 t149 _ ?side1 ?side2 ?side3 ?side4 ?side5 ?side6 ?side7 ?side8 A10.out).mono ?_
          (case side1 => exact qC (Kd.R_reads' HO134.out).2.2)
          (case side2 => exact (Kd.R_reads' HO134.out).2.1)
          (case side3 => exact qC (Kd.R_reads' HO137.out).2.2)
          (case side4 => exact (Kd.R_reads' HO137.out).2.1)
          (case side5 => exact qC (Kd.R_reads' HO140.out).2.2)
          (case side6 => exact (Kd.R_reads' HO140.out).2.1)
          (case side7 => exact qC (Kd.R_reads' HO143.out).2.2)
          (case side8 => exact (Kd.R_reads' HO143.out).2.1)
          rintro e w43 ⟨rfl, hb⟩
          refine ⟨_, rfl, ?_⟩
          have n0_ := Aside0.mk (Kd.R_below (qR HO134.out) hb)
          have n1_ := Aside0.mk (Kd.R_below (qR HO137.out) hb)
          have n2_ := Aside0.mk (Kd.R_below (qR HO140.out) hb)
          have n3_ := Aside0.mk (Kd.R_below (qR HO143.out) hb)
          have n4_ := Aside0.mk (blk_below (qb BK144.out) hb)
          have n5_ := Aside0.mk (below_step (qW HB.out) hb)
          clear HO134
          clear HO137
          clear HO140
          clear HO143
          clear BK144
          clear HB
          have HO134 := n0_
          have HO137 := n1_
          have HO140 := n2_
          have HO143 := n3_
          have BK144 := n4_
          have HB := n5_
          clear n0_ n1_ n2_ n3_ n4_ n5_
          (try clear hb)
          (try clear hb2)
          (try clear hk)
          (try clear hi)
          refine hK.out _ _ ⟨(blk_cell BK144.out 0).trans rfl, (blk_cell BK144.out 1).trans rfl, (blk_cell BK144.out 2).trans rfl, (blk_cell BK144.out 3).trans rfl⟩ (fun hHeld => ?_)
          clear hK K
          refine norm_ (a' := ?_) ?_ ?_
          rotate_left
          ·show Act.put _ (some 22) _ = _
           simp only [Act.put, List.setIfInBounds_toArray, List.set_cons_zero, List.set_cons_succ, i64_w, i32_w]
           rfl
          refine pure_ (i := 20) (N := some 23) (v := ?_) (a' := ?_) #[true, true, true, true, true, true, true, true, true, true, true, true, true, true, true, true, true, true, true, true, true, false, false, false, false, false, false, false, false, false, false, false, false, false, false, false, false, false, false, false, false, false, false, false, false, false, false, false, false, false, false, false, false, false] rfl rfl (any_of HT_.out (by kernel_rfl)) (fun _ _ _ h => h) (Or.inl ⟨by rfl, ?_⟩) ?_ ?_
          rotate_left
          ·intro w'
           go_simp
           with_reducible rfl
          rotate_left
          ·simp only [Act.put, List.setIfInBounds_toArray, List.set_cons_zero, List.set_cons_succ, i64_w, i32_w]
           rfl
          refine pure_ (i := 21) (N := some 24) (v := ?_) (a' := ?_) #[true, true, true, true, true, true, true, true, true, true, true, true, true, true, true, true, true, true, true, true, true, true, false, false, false, false, false, false, false, false, false, false, false, false, false, false, false, false, false, false, false, false, false, false, false, false, false, false, false, false, false, false, false, false] rfl rfl (any_of HT_.out (by kernel_rfl)) (fun _ _ _ h => h) (Or.inl ⟨by rfl, ?_⟩) ?_ ?_
          rotate_left
          ·intro w'
           go_simp
           with_reducible rfl
          rotate_left
          ·simp only [Act.put, List.setIfInBounds_toArray, List.set_cons_zero, List.set_cons_succ, i64_w, i32_w]
           rfl
          refine pure_ (i := 22) (N := some 25) (v := ?_) (a' := ?_) #[true, true, true, true, true, true, true, true, true, true, true, true, true, true, true, true, true, true, true, true, true, true, true, false, false, false, false, false, false, false, false, false, false, false, false, false, false, false, false, false, false, false, false, false, false, false, false, false, false, false, false, false, false, false] rfl rfl (any_of HT_.out (by kernel_rfl)) (fun _ _ _ h => h) (Or.inl ⟨by rfl, ?_⟩) ?_ ?_
          rotate_left
          ·intro w'
           go_simp
           with_reducible rfl
          rotate_left
          ·simp only [Act.put, List.setIfInBounds_toArray, List.set_cons_zero, List.set_cons_succ, i64_w, i32_w]
           rfl
          refine take_ (i := 23) (N := some 26) (v := ?_) (a' := ?_) #[true, true, true, true, true, true, true, true, true, true, true, true, true, true, true, true, true, true, true, true, true, true, true, true, false, false, false, false, false, false, false, false, false, false, false, false, false, false, false, false, false, false, false, false, false, false, false, false, false, false, false, false, false, false] rfl rfl (take_ofW HT_.out HW_.out (by kernel_rfl)) (fun _ _ _ h => h) (Or.inl ⟨by rfl, ?_⟩) hHeld ?_ ?_
          rotate_left
          ·rintro w' ⟨s0, s1, s2, s3⟩
           go_simp
           with_reducible rfl
          rotate_left
          ·simp only [Act.put, List.setIfInBounds_toArray, List.set_cons_zero, List.set_cons_succ, i64_w, i32_w]
           rfl
          refine join_ (σ := Value × Value) 28 #[true, true, true, true, true, true, true, true, true, true, true, true, true, true, true, true, true, true, true, true, true, true, true, true, true, true, false, false, false, false, false, false, false, false, false, false, false, false, false, false, false, false, false, false, false, false, false, false, false, false, false, false, false, false] (fun s_ => [(27, s_.1), (28, s_.2)]) (fun s_ w' => (w'.cell? ⟨gb144, 0, none⟩ = some (.slice Ao32 t132.length co32) ∧ w'.cell? ⟨gb144, 1, none⟩ = some (.slice Ao34 t135.length co34) ∧ w'.cell? ⟨gb144, 2, none⟩ = some (.slice Ao35 t138.length co35) ∧ w'.cell? ⟨gb144, 3, none⟩ = some (.slice Ao36 t141.length co36)) ∧ (Kd.R k103 103 w' w.heap.size (fun k_ => some k_ ≠ (s_.1 : Value).ownBlock ∧ some k_ ≠ (s_.2 : Value).ownBlock) (.slice Ao32 t132.length co32) t132) ∧ (Kd.R k38 38 w' w.heap.size (fun k_ => some k_ ≠ (s_.1 : Value).ownBlock ∧ some k_ ≠ (s_.2 : Value).ownBlock) (.slice Ao34 t135.length co34) t135) ∧ (Kd.R k206 206 w' w.heap.size (fun _ => True) (.slice Ao35 t138.length co35) t138) ∧ (Kd.R k117 117 w' w.heap.size (fun k_ => some k_ ≠ (s_.1 : Value).ownBlock ∧ some k_ ≠ (s_.2 : Value).ownBlock) (.slice Ao36 t141.length co36) t141) ∧ (Kd.R (Kd.int .i64) 3 w' w.heap.size (fun k_ => some k_ ≠ (s_.2 : Value).ownBlock) s_.1 t150) ∧ (Kd.R (Kd.int .i64) 3 w' w.heap.size (fun k_ => some k_ ≠ (s_.1 : Value).ownBlock) s_.2 y153) ∧ (w'.heap[gb144]? = some (.cells #[.slice Ao32 t132.length co32, .slice Ao34 t135.length co34, .slice Ao35 t138.length co35, .slice Ao36 t141.length co36] 27 (0, 0))) ∧ (Below w.heap.size w w')) ?_ ?_
          rotate_left
          ·intro hCont
           refine two_ (i := 24) (j := 25) (Ni := some 27) (Nj := some 28) #[true, true, true, true, true, true, true, true, true, true, true, true, true, true, true, true, true, true, true, true, true, true, true, true, true, false, false, false, false, false, false, false, false, false, false, false, false, false, false, false, false, false, false, false, false, false, false, false, false, false, false, false, false, false] #[true, true, true, true, true, true, true, true, true, true, true, true, true, true, true, true, true, true, true, true, true, true, true, true, false, true, false, false, false, false, false, false, false, false, false, false, false, false, false, false, false, false, false, false, false, false, false, false, false, false, false, false, false, false] rfl rfl rfl rfl (two_of HT_.out (by kernel_rfl)) (by decide) (by decide) (fun K hK => ?_) (fun K hK => ?_)
           ·skip
            refine goes_ Try.func40 (by kernel_rfl) rfl #[.agg #[.slice Ao32 t132.length co32, .slice Ao34 t135.length co34, .slice Ao35 t138.length co35, .slice Ao36 t141.length co36], .int .i64 11] (by rfl) rfl rfl (by (try simp only [List.map_toArray, List.map_cons, List.map_nil]); first | done | rfl | (simp only [List.length_drop, List.length_take]; rfl)) ?_
            with_reducible refine (hier_Up.calls _ _ t132 _ _ t135 _ _ t138 _ _ t141 11 t150 _ ?side1 ?side2 ?side3 ?side4 ?side5 ?side6 ?side7 ?side8 A12.out).mono ?_
            (case side1 => exact qC (Kd.R_reads' HO134.out).2.2)
            (case side2 => exact (Kd.R_reads' HO134.out).2.1)
            (case side3 => exact qC (Kd.R_reads' HO137.out).2.2)
            (case side4 => exact (Kd.R_reads' HO137.out).2.1)
            (case side5 => exact qC (Kd.R_reads' HO140.out).2.2)
            (case side6 => exact (Kd.R_reads' HO140.out).2.1)
            (case side7 => exact qC (Kd.R_reads' HO143.out).2.2)
            (case side8 => exact (Kd.R_reads' HO143.out).2.1)
            rintro e w44 ⟨v151, rfl, ho0, hb⟩
            refine ⟨_, rfl, ?_⟩
            have n0_ := Aside0.mk (Kd.R_elder' (qR HO134.out) (Kd.R_base ho0) hb)
            have n1_ := Aside0.mk (Kd.R_elder' (qR HO137.out) (Kd.R_base ho0) hb)
            have n2_ := Aside0.mk (Kd.R_below (qR HO140.out) hb)
            have n3_ := Aside0.mk (Kd.R_elder' (qR HO143.out) (Kd.R_base ho0) hb)
            have n4_ := Aside0.mk (Kd.R_lower ho0 (below_size (qW HB.out)))
            have n5_ := Aside0.mk (blk_below (qb BK144.out) hb)
            have n6_ := Aside0.mk (below_step (qW HB.out) hb)
            clear HO134
            clear HO137
            clear HO140
            clear HO143
            clear BK144
            clear HB
            have HO134 := n0_
            have HO137 := n1_
            have HO140 := n2_
            have HO143 := n3_
            have HO152 := n4_
            have BK144 := n5_
            have HB := n6_
            clear n0_ n1_ n2_ n3_ n4_ n5_ n6_
            (try clear hb)
            (try clear hb2)
            (try clear hk)
            (try clear hi)
            (try clear ho0)
            refine hK.out _ _ ⟨(blk_cell BK144.out 0).trans rfl, (blk_cell BK144.out 1).trans rfl, (blk_cell BK144.out 2).trans rfl, (blk_cell BK144.out 3).trans rfl⟩ (fun hHeld => ?_)
            clear hK K
            refine norm_ (a' := ?_) ?_ ?_
            rotate_left
            ·show Act.put _ (some 27) _ = _
             simp only [Act.put, List.setIfInBounds_toArray, List.set_cons_zero, List.set_cons_succ, i64_w, i32_w]
             rfl
            refine one_ (i := 25) (N := some 28) #[true, true, true, true, true, true, true, true, true, true, true, true, true, true, true, true, true, true, true, true, true, true, true, true, true, true, false, false, false, false, false, false, false, false, false, false, false, false, false, false, false, false, false, false, false, false, false, false, false, false, false, false, false, false] rfl rfl (one_of HT_.out (by kernel_rfl)) (by decide) (fun K hK => ?_)
            refine Kd.R_lit_step (Kd.int .i64) _ 3 ?hg (N := 28) ?hd (xs := ([11, 1, 0] : List Int)) (inner := [.int .i64 11, .int .i64 1, .int .i64 0]) (ok := fun _ => True) (okp := fun _ => True) ?hr ?hp (fun _ hk => hk) trivial (Below.refl _ _) (Nat.le_refl _) (by simp) ?_; (case hd => rfl); (case hg => rfl); (case hr => first | (go_simp; done) | (go_simp; rfl)); (case hp => exact (Reps.one (show Kd.M (Kd.int .i64) _ _ _ 11 [.int .i64 11] from rfl) (Reps.one (show Kd.M (Kd.int .i64) _ _ _ 1 [.int .i64 1] from rfl) (Reps.one (show Kd.M (Kd.int .i64) _ _ _ 0 [.int .i64 0] from rfl) (Reps.none _ _)))))
            intro v154 w45 ho46 hb hg_ hnew_
            clear hg_ hnew_
            (first | rw [← Ny153.out] at ho46 | (simp only [Int.reduceToNat] at ho46; rw [← Ny153.out] at ho46))
            have n0_ := Aside0.mk (Kd.R_elder' (qR HO134.out) (Kd.R_base ho46) hb)
            have n1_ := Aside0.mk (Kd.R_elder' (qR HO137.out) (Kd.R_base ho46) hb)
            have n2_ := Aside0.mk (Kd.R_below (qR HO140.out) hb)
            have n3_ := Aside0.mk (Kd.R_elder' (qR HO143.out) (Kd.R_base ho46) hb)
            have n4_ := Aside0.mk (Kd.R_elder' (qR HO152.out) (Kd.R_base ho46) hb)
            have n5_ := Aside0.mk (Kd.R_lower (Kd.R_new' ho46 (Kd.R_lt (qR HO152.out))) (below_size (qW HB.out)))
            have n6_ := Aside0.mk (blk_below (qb BK144.out) hb)
            have n7_ := Aside0.mk (below_step (qW HB.out) hb)
            clear HO134
            clear HO137
            clear HO140
            clear HO143
            clear HO152
            clear BK144
            clear HB
            have HO134 := n0_
            have HO137 := n1_
            have HO140 := n2_
            have HO143 := n3_
            have HO152 := n4_
            have HO155 := n5_
            have BK144 := n6_
            have HB := n7_
            clear n0_ n1_ n2_ n3_ n4_ n5_ n6_ n7_
            clear hb ho46
            refine hK.out _ _ ⟨(blk_cell BK144.out 0).trans rfl, (blk_cell BK144.out 1).trans rfl, (blk_cell BK144.out 2).trans rfl, (blk_cell BK144.out 3).trans rfl⟩ (fun hHeld => ?_)
            clear hK K
            refine norm_ (a' := ?_) ?_ ?_
            rotate_left
            ·show Act.put _ (some 28) _ = _
             simp only [Act.put, List.setIfInBounds_toArray, List.set_cons_zero, List.set_cons_succ, i64_w, i32_w]
             rfl
            exact norm_ (by simp only [putAll, Act.put, List.setIfInBounds_toArray, List.set_cons_zero, List.set_cons_succ]) (hCont (v151, v154) _ ⟨hHeld, (qR (Kd.R_mono HO134.out (fun _ hk => ⟨hk.1.2, hk.2⟩))), (qR (Kd.R_mono HO137.out (fun _ hk => ⟨hk.1.2, hk.2⟩))), (qR HO140.out), (qR (Kd.R_mono HO143.out (fun _ hk => ⟨hk.1.2, hk.2⟩))), (qR (Kd.R_mono HO152.out (fun _ hk => hk.2))), (qR (Kd.R_mono HO155.out (fun _ hk => hk.2))), (qb BK144.out), (qW HB.out)⟩)
           ·skip
            refine Kd.R_lit_step (Kd.int .i64) _ 3 ?hg (N := 28) ?hd (xs := ([11, 1, 0] : List Int)) (inner := [.int .i64 11, .int .i64 1, .int .i64 0]) (ok := fun _ => True) (okp := fun _ => True) ?hr ?hp (fun _ hk => hk) trivial (Below.refl _ _) (Nat.le_refl _) (by simp) ?_; (case hd => rfl); (case hg => rfl); (case hr => first | (go_simp; done) | (go_simp; rfl)); (case hp => exact (Reps.one (show Kd.M (Kd.int .i64) _ _ _ 11 [.int .i64 11] from rfl) (Reps.one (show Kd.M (Kd.int .i64) _ _ _ 1 [.int .i64 1] from rfl) (Reps.one (show Kd.M (Kd.int .i64) _ _ _ 0 [.int .i64 0] from rfl) (Reps.none _ _)))))
            intro v154 w44 ho45 hb hg_ hnew_
            clear hg_ hnew_
            (first | rw [← Ny153.out] at ho45 | (simp only [Int.reduceToNat] at ho45; rw [← Ny153.out] at ho45))
            have n0_ := Aside0.mk (Kd.R_elder' (qR HO134.out) (Kd.R_base ho45) hb)
            have n1_ := Aside0.mk (Kd.R_elder' (qR HO137.out) (Kd.R_base ho45) hb)
            have n2_ := Aside0.mk (Kd.R_below (qR HO140.out) hb)
            have n3_ := Aside0.mk (Kd.R_elder' (qR HO143.out) (Kd.R_base ho45) hb)
            have n4_ := Aside0.mk (Kd.R_lower ho45 (below_size (qW HB.out)))
            have n5_ := Aside0.mk (blk_below (qb BK144.out) hb)
            have n6_ := Aside0.mk (below_step (qW HB.out) hb)
            clear HO134
            clear HO137
            clear HO140
            clear HO143
            clear BK144
            clear HB
            have HO134 := n0_
            have HO137 := n1_
            have HO140 := n2_
            have HO143 := n3_
            have HO155 := n4_
            have BK144 := n5_
            have HB := n6_
            clear n0_ n1_ n2_ n3_ n4_ n5_ n6_
            clear hb ho45
            refine hK.out _ _ ⟨(blk_cell BK144.out 0).trans rfl, (blk_cell BK144.out 1).trans rfl, (blk_cell BK144.out 2).trans rfl, (blk_cell BK144.out 3).trans rfl⟩ (fun hHeld => ?_)
            clear hK K
            refine norm_ (a' := ?_) ?_ ?_
            rotate_left
            ·show Act.put _ (some 28) _ = _
             simp only [Act.put, List.setIfInBounds_toArray, List.set_cons_zero, List.set_cons_succ, i64_w, i32_w]
             rfl
            refine one_ (i := 24) (N := some 27) #[true, true, true, true, true, true, true, true, true, true, true, true, true, true, true, true, true, true, true, true, true, true, true, true, true, true, false, false, false, false, false, false, false, false, false, false, false, false, false, false, false, false, false, false, false, false, false, false, false, false, false, false, false, false] rfl rfl (one_of HT_.out (by kernel_rfl)) (by decide) (fun K hK => ?_)
            refine goes_ Try.func40 (by kernel_rfl) rfl #[.agg #[.slice Ao32 t132.length co32, .slice Ao34 t135.length co34, .slice Ao35 t138.length co35, .slice Ao36 t141.length co36], .int .i64 11] (by rfl) rfl rfl (by (try simp only [List.map_toArray, List.map_cons, List.map_nil]); first | done | rfl | (simp only [List.length_drop, List.length_take]; rfl)) ?_
            with_reducible refine (hier_Up.calls _ _ t132 _ _ t135 _ _ t138 _ _ t141 11 t150 _ ?side1 ?side2 ?side3 ?side4 ?side5 ?side6 ?side7 ?side8 A12.out).mono ?_
            (case side1 => exact qC (Kd.R_reads' HO134.out).2.2)
            (case side2 => exact (Kd.R_reads' HO134.out).2.1)
            (case side3 => exact qC (Kd.R_reads' HO137.out).2.2)
            (case side4 => exact (Kd.R_reads' HO137.out).2.1)
            (case side5 => exact qC (Kd.R_reads' HO140.out).2.2)
            (case side6 => exact (Kd.R_reads' HO140.out).2.1)
            (case side7 => exact qC (Kd.R_reads' HO143.out).2.2)
            (case side8 => exact (Kd.R_reads' HO143.out).2.1)
            rintro e w46 ⟨v151, rfl, ho0, hb⟩
            refine ⟨_, rfl, ?_⟩
            have n0_ := Aside0.mk (Kd.R_elder' (qR HO134.out) (Kd.R_base ho0) hb)
            have n1_ := Aside0.mk (Kd.R_elder' (qR HO137.out) (Kd.R_base ho0) hb)
            have n2_ := Aside0.mk (Kd.R_below (qR HO140.out) hb)
            have n3_ := Aside0.mk (Kd.R_elder' (qR HO143.out) (Kd.R_base ho0) hb)
            have n4_ := Aside0.mk (Kd.R_elder' (qR HO155.out) (Kd.R_base ho0) hb)
            have n5_ := Aside0.mk (Kd.R_lower (Kd.R_new' ho0 (Kd.R_lt (qR HO155.out))) (below_size (qW HB.out)))
            have n6_ := Aside0.mk (blk_below (qb BK144.out) hb)
            have n7_ := Aside0.mk (below_step (qW HB.out) hb)
            clear HO134
            clear HO137
            clear HO140
            clear HO143
            clear HO155
            clear BK144
            clear HB
            have HO134 := n0_
            have HO137 := n1_
            have HO140 := n2_
            have HO143 := n3_
            have HO155 := n4_
            have HO152 := n5_
            have BK144 := n6_
            have HB := n7_
            clear n0_ n1_ n2_ n3_ n4_ n5_ n6_ n7_
            (try clear hb)
            (try clear hb2)
            (try clear hk)
            (try clear hi)
            (try clear ho0)
            refine hK.out _ _ ⟨(blk_cell BK144.out 0).trans rfl, (blk_cell BK144.out 1).trans rfl, (blk_cell BK144.out 2).trans rfl, (blk_cell BK144.out 3).trans rfl⟩ (fun hHeld => ?_)
            clear hK K
            refine norm_ (a' := ?_) ?_ ?_
            rotate_left
            ·show Act.put _ (some 27) _ = _
             simp only [Act.put, List.setIfInBounds_toArray, List.set_cons_zero, List.set_cons_succ, i64_w, i32_w]
             rfl
            exact norm_ (by simp only [putAll, Act.put, List.setIfInBounds_toArray, List.set_cons_zero, List.set_cons_succ]) (hCont (v151, v154) _ ⟨hHeld, (qR (Kd.R_mono HO134.out (fun _ hk => ⟨hk.2, hk.1.2⟩))), (qR (Kd.R_mono HO137.out (fun _ hk => ⟨hk.2, hk.1.2⟩))), (qR HO140.out), (qR (Kd.R_mono HO143.out (fun _ hk => ⟨hk.2, hk.1.2⟩))), (qR (Kd.R_mono HO152.out (fun _ hk => hk.2))), (qR (Kd.R_mono HO155.out (fun _ hk => hk.2))), (qb BK144.out), (qW HB.out)⟩)
          rintro ⟨v151, v154⟩ w47 ⟨hS_, h0_, h1_, h2_, h3_, h4_, h5_, h6_, h7_⟩
          have n0_ : Aside0 (Kd.R k103 103 w47 w.heap.size (fun k_ => some k_ ≠ (v151 : Value).ownBlock ∧ some k_ ≠ (v154 : Value).ownBlock) (.slice Ao32 t132.length co32) t132) := ⟨h0_⟩
          have n1_ : Aside0 (Kd.R k38 38 w47 w.heap.size (fun k_ => some k_ ≠ (v151 : Value).ownBlock ∧ some k_ ≠ (v154 : Value).ownBlock) (.slice Ao34 t135.length co34) t135) := ⟨h1_⟩
          have n2_ : Aside0 (Kd.R k206 206 w47 w.heap.size (fun _ => True) (.slice Ao35 t138.length co35) t138) := ⟨h2_⟩
          have n3_ : Aside0 (Kd.R k117 117 w47 w.heap.size (fun k_ => some k_ ≠ (v151 : Value).ownBlock ∧ some k_ ≠ (v154 : Value).ownBlock) (.slice Ao36 t141.length co36) t141) := ⟨h3_⟩
          have n4_ : Aside0 (Kd.R (Kd.int .i64) 3 w47 w.heap.size (fun k_ => some k_ ≠ (v154 : Value).ownBlock) v151 t150) := ⟨h4_⟩
          have n5_ : Aside0 (Kd.R (Kd.int .i64) 3 w47 w.heap.size (fun k_ => some k_ ≠ (v151 : Value).ownBlock) v154 y153) := ⟨h5_⟩
          have n6_ : Aside0 (w47.heap[gb144]? = some (.cells #[.slice Ao32 t132.length co32, .slice Ao34 t135.length co34, .slice Ao35 t138.length co35, .slice Ao36 t141.length co36] 27 (0, 0))) := ⟨h6_⟩
          have n7_ : Aside0 (Below w.heap.size w w47) := ⟨h7_⟩
          clear HO134
          clear HO137
          clear HO140
          clear HO143
          clear BK144
          clear HB
          clear h0_ h1_ h2_ h3_ h4_ h5_ h6_ h7_
          have HO134 := n0_
          have HO137 := n1_
          have HO140 := n2_
          have HO143 := n3_
          have HO152 := n4_
          have HO155 := n5_
          have BK144 := n6_
          have HB := n7_
          clear n0_ n1_ n2_ n3_ n4_ n5_ n6_ n7_
          have hHeld : w47.cell? ⟨gb144, 0, none⟩ = some (.slice Ao32 t132.length co32) ∧ w47.cell? ⟨gb144, 1, none⟩ = some (.slice Ao34 t135.length co34) ∧ w47.cell? ⟨gb144, 2, none⟩ = some (.slice Ao35 t138.length co35) ∧ w47.cell? ⟨gb144, 3, none⟩ = some (.slice Ao36 t141.length co36) := hS_
          obtain ⟨Ao48, co48, eo48⟩ := Kd.R_slice HO152.out
          (first | subst eo48 | (injection eo48 with f1_ f2_ f3_; have f4_ := f1_.symm; have f5_ := f3_.symm; clear f1_ f2_ f3_; subst f4_; subst f5_))
          obtain ⟨Ao49, co49, eo49⟩ := Kd.R_slice HO155.out
          (first | subst eo49 | (injection eo49 with f1_ f2_ f3_; have f4_ := f1_.symm; have f5_ := f3_.symm; clear f1_ f2_ f3_; subst f4_; subst f5_))
          refine norm_ (a' := ?_) ?_ ?_
          rotate_left
          ·simp only [putAll, Act.put, List.setIfInBounds_toArray, List.set_cons_zero, List.set_cons_succ]
           rfl
          refine one_ (i := 26) (N := some 29) #[true, true, true, true, true, true, true, true, true, true, true, true, true, true, true, true, true, true, true, true, true, true, true, true, true, true, true, false, false, false, false, false, false, false, false, false, false, false, false, false, false, false, false, false, false, false, false, false, false, false, false, false, false, false] rfl rfl (one_of HT_.out (by kernel_rfl)) (by decide) (fun K hK => ?_)
          refine goes_ Try.func86 (by kernel_rfl) rfl #[.slice Ao48 t150.length co48, .slice Ao49 y153.length co49] (by rfl) rfl rfl (by (try simp only [List.map_toArray, List.map_cons, List.map_nil]); first | done | rfl | (simp only [List.length_drop, List.length_take]; rfl)) ?_
          with_reducible refine (garderoberef00_Ints.calls k _ _ t150 _ _ y153 true _ ?side1 ?side2 ?side3 ?side4 A13.out).mono ?_
          (case side1 => exact qC (Kd.R_reads' HO152.out).2.2)
          (case side2 => exact (Kd.R_reads' HO152.out).2.1)
          (case side3 => exact qC (Kd.R_reads' HO155.out).2.2)
          (case side4 => exact (Kd.R_reads' HO155.out).2.1)
          rintro e w' ⟨rfl, ⟨nd, rfl⟩⟩
          refine ⟨_, rfl, ?_⟩
          refine hK.out _ _ ⟨(blk_cell BK144.out 0).trans rfl, (blk_cell BK144.out 1).trans rfl, (blk_cell BK144.out 2).trans rfl, (blk_cell BK144.out 3).trans rfl⟩ (fun hHeld => ?_)
          clear hK K
          refine norm_ (a' := ?_) ?_ ?_
          rotate_left
          ·show Act.put _ (some 29) _ = _
           simp only [Act.put, List.setIfInBounds_toArray, List.set_cons_zero, List.set_cons_succ, i64_w, i32_w]
           rfl
          refine pure_ (i := 27) (N := some 30) (v := ?_) (a' := ?_) #[true, true, true, true, true, true, true, true, true, true, true, true, true, true, true, true, true, true, true, true, true, true, true, true, true, true, true, true, false, false, false, false, false, false, false, false, false, false, false, false, false, false, false, false, false, false, false, false, false, false, false, false, false, false] rfl rfl (any_of HT_.out (by kernel_rfl)) (fun _ _ _ h => h) (Or.inl ⟨by rfl, ?_⟩) ?_ ?_
          rotate_left
          ·intro w'
           go_simp
           with_reducible rfl
          rotate_left
          ·simp only [Act.put, List.setIfInBounds_toArray, List.set_cons_zero, List.set_cons_succ, i64_w, i32_w]
           rfl
          refine pure_ (i := 28) (N := some 31) (v := ?_) (a' := ?_) #[true, true, true, true, true, true, true, true, true, true, true, true, true, true, true, true, true, true, true, true, true, true, true, true, true, true, true, true, true, false, false, false, false, false, false, false, false, false, false, false, false, false, false, false, false, false, false, false, false, false, false, false, false, false] rfl rfl (any_of HT_.out (by kernel_rfl)) (fun _ _ _ h => h) (Or.inl ⟨by rfl, ?_⟩) ?_ ?_
          rotate_left
          ·intro w'
           go_simp
           with_reducible rfl
          rotate_left
          ·simp only [Act.put, List.setIfInBounds_toArray, List.set_cons_zero, List.set_cons_succ, i64_w, i32_w]
           rfl
          refine take_ (i := 29) (N := some 32) (v := ?_) (a' := ?_) #[true, true, true, true, true, true, true, true, true, true, true, true, true, true, true, true, true, true, true, true, true, true, true, true, true, true, true, true, true, true, false, false, false, false, false, false, false, false, false, false, false, false, false, false, false, false, false, false, false, false, false, false, false, false] rfl rfl (take_ofW HT_.out HW_.out (by kernel_rfl)) (fun _ _ _ h => h) (Or.inl ⟨by rfl, ?_⟩) hHeld ?_ ?_
          rotate_left
          ·rintro w' ⟨s0, s1, s2, s3⟩
           go_simp
           with_reducible rfl
          rotate_left
          ·simp only [Act.put, List.setIfInBounds_toArray, List.set_cons_zero, List.set_cons_succ, i64_w, i32_w]
           rfl
          refine one_ (i := 30) (N := some 33) #[true, true, true, true, true, true, true, true, true, true, true, true, true, true, true, true, true, true, true, true, true, true, true, true, true, true, true, true, true, true, true, false, false, false, false, false, false, false, false, false, false, false, false, false, false, false, false, false, false, false, false, false, false, false] rfl rfl (one_of HT_.out (by kernel_rfl)) (by decide) (fun K hK => ?_)
          refine goes_ Try.func87 (by kernel_rfl) rfl #[.int .u8 4, .int .u16 11] (by rfl) rfl rfl (by (try simp only [List.map_toArray, List.map_cons, List.map_nil]); first | done | rfl | (simp only [List.length_drop, List.length_take]; rfl)) ?_
          with_reducible refine (garderobelaw13_t.calls 4 11 t157 t158 _ A15.out).mono ?_
          rintro e w50 ⟨rfl, hb⟩
          refine ⟨_, rfl, ?_⟩
          have n0_ := Aside0.mk (Kd.R_below (qR HO134.out) hb)
          have n1_ := Aside0.mk (Kd.R_below (qR HO137.out) hb)
          have n2_ := Aside0.mk (Kd.R_below (qR HO140.out) hb)
          have n3_ := Aside0.mk (Kd.R_below (qR HO143.out) hb)
          have n4_ := Aside0.mk (Kd.R_below (qR HO152.out) hb)
          have n5_ := Aside0.mk (Kd.R_below (qR HO155.out) hb)
          have n6_ := Aside0.mk (blk_below (qb BK144.out) hb)
          have n7_ := Aside0.mk (below_step (qW HB.out) hb)
          clear HO134
          clear HO137
          clear HO140
          clear HO143
          clear HO152
          clear HO155
          clear BK144
          clear HB
          have HO134 := n0_
          have HO137 := n1_
          have HO140 := n2_
          have HO143 := n3_
          have HO152 := n4_
          have HO155 := n5_
          have BK144 := n6_
          have HB := n7_
          clear n0_ n1_ n2_ n3_ n4_ n5_ n6_ n7_
          (try clear hb)
          (try clear hb2)
          (try clear hk)
          (try clear hi)
          refine hK.out _ _ ⟨(blk_cell BK144.out 0).trans rfl, (blk_cell BK144.out 1).trans rfl, (blk_cell BK144.out 2).trans rfl, (blk_cell BK144.out 3).trans rfl⟩ (fun hHeld => ?_)
          clear hK K
          refine norm_ (a' := ?_) ?_ ?_
          rotate_left
          ·show Act.put _ (some 33) _ = _
           simp only [Act.put, List.setIfInBounds_toArray, List.set_cons_zero, List.set_cons_succ, i64_w, i32_w]
           rfl
          refine one_ (i := 31) (N := some 34) #[true, true, true, true, true, true, true, true, true, true, true, true, true, true, true, true, true, true, true, true, true, true, true, true, true, true, true, true, true, true, true, true, false, false, false, false, false, false, false, false, false, false, false, false, false, false, false, false, false, false, false, false, false, false] rfl rfl (one_of HT_.out (by kernel_rfl)) (by decide) (fun K hK => ?_)
          refine goes_ Try.func87 (by kernel_rfl) rfl #[.int .u8 4, .int .u16 1] (by rfl) rfl rfl (by (try simp only [List.map_toArray, List.map_cons, List.map_nil]); first | done | rfl | (simp only [List.length_drop, List.length_take]; rfl)) ?_
          with_reducible refine (garderobelaw13_t.calls 4 1 t159 t160 _ A16.out).mono ?_
          rintro e w51 ⟨rfl, hb⟩
          refine ⟨_, rfl, ?_⟩
          have n0_ := Aside0.mk (Kd.R_below (qR HO134.out) hb)
          have n1_ := Aside0.mk (Kd.R_below (qR HO137.out) hb)
          have n2_ := Aside0.mk (Kd.R_below (qR HO140.out) hb)
          have n3_ := Aside0.mk (Kd.R_below (qR HO143.out) hb)
          have n4_ := Aside0.mk (Kd.R_below (qR HO152.out) hb)
          have n5_ := Aside0.mk (Kd.R_below (qR HO155.out) hb)
          have n6_ := Aside0.mk (blk_below (qb BK144.out) hb)
          have n7_ := Aside0.mk (below_step (qW HB.out) hb)
          clear HO134
          clear HO137
          clear HO140
          clear HO143
          clear HO152
          clear HO155
          clear BK144
          clear HB
          have HO134 := n0_
          have HO137 := n1_
          have HO140 := n2_
          have HO143 := n3_
          have HO152 := n4_
          have HO155 := n5_
          have BK144 := n6_
          have HB := n7_
          clear n0_ n1_ n2_ n3_ n4_ n5_ n6_ n7_
          (try clear hb)
          (try clear hb2)
          (try clear hk)
          (try clear hi)
          refine hK.out _ _ ⟨(blk_cell BK144.out 0).trans rfl, (blk_cell BK144.out 1).trans rfl, (blk_cell BK144.out 2).trans rfl, (blk_cell BK144.out 3).trans rfl⟩ (fun hHeld => ?_)
          clear hK K
          refine norm_ (a' := ?_) ?_ ?_
          rotate_left
          ·show Act.put _ (some 34) _ = _
           simp only [Act.put, List.setIfInBounds_toArray, List.set_cons_zero, List.set_cons_succ, i64_w, i32_w]
           rfl
          refine one_ (i := 32) (N := some 35) #[true, true, true, true, true, true, true, true, true, true, true, true, true, true, true, true, true, true, true, true, true, true, true, true, true, true, true, true, true, true, true, true, true, false, false, false, false, false, false, false, false, false, false, false, false, false, false, false, false, false, false, false, false, false] rfl rfl (one_of HT_.out (by kernel_rfl)) (by decide) (fun K hK => ?_)
          refine goes_ Try.func45 (by kernel_rfl) rfl #[.agg #[.slice Ao32 t132.length co32, .slice Ao34 t135.length co34, .slice Ao35 t138.length co35, .slice Ao36 t141.length co36], .agg #[.int .u8 t157, .int .u16 t158], .agg #[.int .u8 t159, .int .u16 t160]] (by rfl) rfl rfl (by (try simp only [List.map_toArray, List.map_cons, List.map_nil]); first | done | rfl | (simp only [List.length_drop, List.length_take]; rfl)) ?_
          with_reducible refine (hier_Fits.calls k _ _ t132 _ _ t135 _ _ t138 _ _ t141 t157 t158 t159 t160 true _ ?side1 ?side2 ?side3 ?side4 ?side5 ?side6 ?side7 ?side8 A17.out).mono ?_
          (case side1 => exact qC (Kd.R_reads' HO134.out).2.2)
          (case side2 => exact (Kd.R_reads' HO134.out).2.1)
          (case side3 => exact qC (Kd.R_reads' HO137.out).2.2)
          (case side4 => exact (Kd.R_reads' HO137.out).2.1)
          (case side5 => exact qC (Kd.R_reads' HO140.out).2.2)
          (case side6 => exact (Kd.R_reads' HO140.out).2.1)
          (case side7 => exact qC (Kd.R_reads' HO143.out).2.2)
          (case side8 => exact (Kd.R_reads' HO143.out).2.1)
          rintro e w52 ⟨rfl, hb⟩
          refine ⟨_, rfl, ?_⟩
          have n0_ := Aside0.mk (Kd.R_below (qR HO134.out) hb)
          have n1_ := Aside0.mk (Kd.R_below (qR HO137.out) hb)
          have n2_ := Aside0.mk (Kd.R_below (qR HO140.out) hb)
          have n3_ := Aside0.mk (Kd.R_below (qR HO143.out) hb)
          have n4_ := Aside0.mk (Kd.R_below (qR HO152.out) hb)
          have n5_ := Aside0.mk (Kd.R_below (qR HO155.out) hb)
          have n6_ := Aside0.mk (blk_below (qb BK144.out) hb)
          have n7_ := Aside0.mk (below_step (qW HB.out) hb)
          clear HO134
          clear HO137
          clear HO140
          clear HO143
          clear HO152
          clear HO155
          clear BK144
          clear HB
          have HO134 := n0_
          have HO137 := n1_
          have HO140 := n2_
          have HO143 := n3_
          have HO152 := n4_
          have HO155 := n5_
          have BK144 := n6_
          have HB := n7_
          clear n0_ n1_ n2_ n3_ n4_ n5_ n6_ n7_
          (try clear hb)
          (try clear hb2)
          (try clear hk)
          (try clear hi)
          refine hK.out _ _ ⟨(blk_cell BK144.out 0).trans rfl, (blk_cell BK144.out 1).trans rfl, (blk_cell BK144.out 2).trans rfl, (blk_cell BK144.out 3).trans rfl⟩ (fun hHeld => ?_)
          clear hK K
          refine norm_ (a' := ?_) ?_ ?_
          rotate_left
          ·show Act.put _ (some 35) _ = _
           simp only [Act.put, List.setIfInBounds_toArray, List.set_cons_zero, List.set_cons_succ, i64_w, i32_w]
           rfl
          refine pure_ (i := 33) (N := some 36) (v := ?_) (a' := ?_) #[true, true, true, true, true, true, true, true, true, true, true, true, true, true, true, true, true, true, true, true, true, true, true, true, true, true, true, true, true, true, true, true, true, true, false, false, false, false, false, false, false, false, false, false, false, false, false, false, false, false, false, false, false, false] rfl rfl (any_of HT_.out (by kernel_rfl)) (fun _ _ _ h => h) (Or.inl ⟨by rfl, ?_⟩) ?_ ?_
          rotate_left
          ·intro w'
           go_simp
           with_reducible rfl
          rotate_left
          ·simp only [Act.put, List.setIfInBounds_toArray, List.set_cons_zero, List.set_cons_succ, i64_w, i32_w]
           rfl
          refine pure_ (i := 34) (N := some 37) (v := ?_) (a' := ?_) #[true, true, true, true, true, true, true, true, true, true, true, true, true, true, true, true, true, true, true, true, true, true, true, true, true, true, true, true, true, true, true, true, true, true, true, false, false, false, false, false, false, false, false, false, false, false, false, false, false, false, false, false, false, false] rfl rfl (any_of HT_.out (by kernel_rfl)) (fun _ _ _ h => h) (Or.inl ⟨by rfl, ?_⟩) ?_ ?_
          rotate_left
          ·intro w'
           go_simp
           with_reducible rfl
          rotate_left
          ·simp only [Act.put, List.setIfInBounds_toArray, List.set_cons_zero, List.set_cons_succ, i64_w, i32_w]
           rfl
          refine take_ (i := 35) (N := some 38) (v := ?_) (a' := ?_) #[true, true, true, true, true, true, true, true, true, true, true, true, true, true, true, true, true, true, true, true, true, true, true, true, true, true, true, true, true, true, true, true, true, true, true, true, false, false, false, false, false, false, false, false, false, false, false, false, false, false, false, false, false, false] rfl rfl (take_ofW HT_.out HW_.out (by kernel_rfl)) (fun _ _ _ h => h) (Or.inl ⟨by rfl, ?_⟩) hHeld ?_ ?_
          rotate_left
          ·rintro w' ⟨s0, s1, s2, s3⟩
           go_simp
           with_reducible rfl
          rotate_left
          ·simp only [Act.put, List.setIfInBounds_toArray, List.set_cons_zero, List.set_cons_succ, i64_w, i32_w]
           rfl
          refine one_ (i := 36) (N := some 39) #[true, true, true, true, true, true, true, true, true, true, true, true, true, true, true, true, true, true, true, true, true, true, true, true, true, true, true, true, true, true, true, true, true, true, true, true, true, false, false, false, false, false, false, false, false, false, false, false, false, false, false, false, false, false] rfl rfl (one_of HT_.out (by kernel_rfl)) (by decide) (fun K hK => ?_)
          refine goes_ Try.func87 (by kernel_rfl) rfl #[.int .u8 6, .int .u16 0] (by rfl) rfl rfl (by (try simp only [List.map_toArray, List.map_cons, List.map_nil]); first | done | rfl | (simp only [List.length_drop, List.length_take]; rfl)) ?_
          with_reducible refine (garderobelaw13_t.calls 6 0 t162 t163 _ A19.out).mono ?_
          rintro e w53 ⟨rfl, hb⟩
          refine ⟨_, rfl, ?_⟩
          have n0_ := Aside0.mk (Kd.R_below (qR HO134.out) hb)
          have n1_ := Aside0.mk (Kd.R_below (qR HO137.out) hb)
          have n2_ := Aside0.mk (Kd.R_below (qR HO140.out) hb)
          have n3_ := Aside0.mk (Kd.R_below (qR HO143.out) hb)
          have n4_ := Aside0.mk (Kd.R_below (qR HO152.out) hb)
          have n5_ := Aside0.mk (Kd.R_below (qR HO155.out) hb)
          have n6_ := Aside0.mk (blk_below (qb BK144.out) hb)
          have n7_ := Aside0.mk (below_step (qW HB.out) hb)
          clear HO134
          clear HO137
          clear HO140
          clear HO143
          clear HO152
          clear HO155
          clear BK144
          clear HB
          have HO134 := n0_
          have HO137 := n1_
          have HO140 := n2_
          have HO143 := n3_
          have HO152 := n4_
          have HO155 := n5_
          have BK144 := n6_
          have HB := n7_
          clear n0_ n1_ n2_ n3_ n4_ n5_ n6_ n7_
          (try clear hb)
          (try clear hb2)
          (try clear hk)
          (try clear hi)
          refine hK.out _ _ ⟨(blk_cell BK144.out 0).trans rfl, (blk_cell BK144.out 1).trans rfl, (blk_cell BK144.out 2).trans rfl, (blk_cell BK144.out 3).trans rfl⟩ (fun hHeld => ?_)
          clear hK K
          refine norm_ (a' := ?_) ?_ ?_
          rotate_left
          ·show Act.put _ (some 39) _ = _
           simp only [Act.put, List.setIfInBounds_toArray, List.set_cons_zero, List.set_cons_succ, i64_w, i32_w]
           rfl
          refine one_ (i := 37) (N := some 40) #[true, true, true, true, true, true, true, true, true, true, true, true, true, true, true, true, true, true, true, true, true, true, true, true, true, true, true, true, true, true, true, true, true, true, true, true, true, true, false, false, false, false, false, false, false, false, false, false, false, false, false, false, false, false] rfl rfl (one_of HT_.out (by kernel_rfl)) (by decide) (fun K hK => ?_)
          refine goes_ Try.func87 (by kernel_rfl) rfl #[.int .u8 4, .int .u16 0] (by rfl) rfl rfl (by (try simp only [List.map_toArray, List.map_cons, List.map_nil]); first | done | rfl | (simp only [List.length_drop, List.length_take]; rfl)) ?_
          with_reducible refine (garderobelaw13_t.calls 4 0 t164 t165 _ A20.out).mono ?_
          rintro e w54 ⟨rfl, hb⟩
          refine ⟨_, rfl, ?_⟩
          have n0_ := Aside0.mk (Kd.R_below (qR HO134.out) hb)
          have n1_ := Aside0.mk (Kd.R_below (qR HO137.out) hb)
          have n2_ := Aside0.mk (Kd.R_below (qR HO140.out) hb)
          have n3_ := Aside0.mk (Kd.R_below (qR HO143.out) hb)
          have n4_ := Aside0.mk (Kd.R_below (qR HO152.out) hb)
          have n5_ := Aside0.mk (Kd.R_below (qR HO155.out) hb)
          have n6_ := Aside0.mk (blk_below (qb BK144.out) hb)
          have n7_ := Aside0.mk (below_step (qW HB.out) hb)
          clear HO134
          clear HO137
          clear HO140
          clear HO143
          clear HO152
          clear HO155
          clear BK144
          clear HB
          have HO134 := n0_
          have HO137 := n1_
          have HO140 := n2_
          have HO143 := n3_
          have HO152 := n4_
          have HO155 := n5_
          have BK144 := n6_
          have HB := n7_
          clear n0_ n1_ n2_ n3_ n4_ n5_ n6_ n7_
          (try clear hb)
          (try clear hb2)
          (try clear hk)
          (try clear hi)
          refine hK.out _ _ ⟨(blk_cell BK144.out 0).trans rfl, (blk_cell BK144.out 1).trans rfl, (blk_cell BK144.out 2).trans rfl, (blk_cell BK144.out 3).trans rfl⟩ (fun hHeld => ?_)
          clear hK K
          refine norm_ (a' := ?_) ?_ ?_
          rotate_left
          ·show Act.put _ (some 40) _ = _
           simp only [Act.put, List.setIfInBounds_toArray, List.set_cons_zero, List.set_cons_succ, i64_w, i32_w]
           rfl
          refine one_ (i := 38) (N := some 41) #[true, true, true, true, true, true, true, true, true, true, true, true, true, true, true, true, true, true, true, true, true, true, true, true, true, true, true, true, true, true, true, true, true, true, true, true, true, true, true, false, false, false, false, false, false, false, false, false, false, false, false, false, false, false] rfl rfl (one_of HT_.out (by kernel_rfl)) (by decide) (fun K hK => ?_)
          refine goes_ Try.func45 (by kernel_rfl) rfl #[.agg #[.slice Ao32 t132.length co32, .slice Ao34 t135.length co34, .slice Ao35 t138.length co35, .slice Ao36 t141.length co36], .agg #[.int .u8 t162, .int .u16 t163], .agg #[.int .u8 t164, .int .u16 t165]] (by rfl) rfl rfl (by (try simp only [List.map_toArray, List.map_cons, List.map_nil]); first | done | rfl | (simp only [List.length_drop, List.length_take]; rfl)) ?_
          with_reducible refine (hier_Fits.calls k _ _ t132 _ _ t135 _ _ t138 _ _ t141 t162 t163 t164 t165 true _ ?side1 ?side2 ?side3 ?side4 ?side5 ?side6 ?side7 ?side8 A21.out).mono ?_
          (case side1 => exact qC (Kd.R_reads' HO134.out).2.2)
          (case side2 => exact (Kd.R_reads' HO134.out).2.1)
          (case side3 => exact qC (Kd.R_reads' HO137.out).2.2)
          (case side4 => exact (Kd.R_reads' HO137.out).2.1)
          (case side5 => exact qC (Kd.R_reads' HO140.out).2.2)
          (case side6 => exact (Kd.R_reads' HO140.out).2.1)
          (case side7 => exact qC (Kd.R_reads' HO143.out).2.2)
          (case side8 => exact (Kd.R_reads' HO143.out).2.1)
          rintro e w55 ⟨rfl, hb⟩
          refine ⟨_, rfl, ?_⟩
          have n0_ := Aside0.mk (Kd.R_below (qR HO134.out) hb)
          have n1_ := Aside0.mk (Kd.R_below (qR HO137.out) hb)
          have n2_ := Aside0.mk (Kd.R_below (qR HO140.out) hb)
          have n3_ := Aside0.mk (Kd.R_below (qR HO143.out) hb)
          have n4_ := Aside0.mk (Kd.R_below (qR HO152.out) hb)
          have n5_ := Aside0.mk (Kd.R_below (qR HO155.out) hb)
          have n6_ := Aside0.mk (blk_below (qb BK144.out) hb)
          have n7_ := Aside0.mk (below_step (qW HB.out) hb)
          clear HO134
          clear HO137
          clear HO140
          clear HO143
          clear HO152
          clear HO155
          clear BK144
          clear HB
          have HO134 := n0_
          have HO137 := n1_
          have HO140 := n2_
          have HO143 := n3_
          have HO152 := n4_
          have HO155 := n5_
          have BK144 := n6_
          have HB := n7_
          clear n0_ n1_ n2_ n3_ n4_ n5_ n6_ n7_
          (try clear hb)
          (try clear hb2)
          (try clear hk)
          (try clear hi)
          refine hK.out _ _ ⟨(blk_cell BK144.out 0).trans rfl, (blk_cell BK144.out 1).trans rfl, (blk_cell BK144.out 2).trans rfl, (blk_cell BK144.out 3).trans rfl⟩ (fun hHeld => ?_)
          clear hK K
          refine norm_ (a' := ?_) ?_ ?_
          rotate_left
          ·show Act.put _ (some 41) _ = _
           simp only [Act.put, List.setIfInBounds_toArray, List.set_cons_zero, List.set_cons_succ, i64_w, i32_w]
           rfl
          refine pure_ (i := 39) (N := some 42) (v := ?_) (a' := ?_) #[true, true, true, true, true, true, true, true, true, true, true, true, true, true, true, true, true, true, true, true, true, true, true, true, true, true, true, true, true, true, true, true, true, true, true, true, true, true, true, true, false, false, false, false, false, false, false, false, false, false, false, false, false, false] rfl rfl (any_of HT_.out (by kernel_rfl)) (fun _ _ _ h => h) (Or.inl ⟨by rfl, ?_⟩) ?_ ?_
          rotate_left
          ·intro w'
           go_simp
           with_reducible rfl
          rotate_left
          ·simp only [Act.put, List.setIfInBounds_toArray, List.set_cons_zero, List.set_cons_succ, i64_w, i32_w]
           rfl
          refine pure_ (i := 40) (N := some 43) (v := ?_) (a' := ?_) #[true, true, true, true, true, true, true, true, true, true, true, true, true, true, true, true, true, true, true, true, true, true, true, true, true, true, true, true, true, true, true, true, true, true, true, true, true, true, true, true, true, false, false, false, false, false, false, false, false, false, false, false, false, false] rfl rfl (any_of HT_.out (by kernel_rfl)) (fun _ _ _ h => h) (Or.inl ⟨by rfl, ?_⟩) ?_ ?_
          rotate_left
          ·intro w'
           go_simp
           with_reducible rfl
          rotate_left
          ·simp only [Act.put, List.setIfInBounds_toArray, List.set_cons_zero, List.set_cons_succ, i64_w, i32_w]
           rfl
          refine take_ (i := 41) (N := some 44) (v := ?_) (a' := ?_) #[true, true, true, true, true, true, true, true, true, true, true, true, true, true, true, true, true, true, true, true, true, true, true, true, true, true, true, true, true, true, true, true, true, true, true, true, true, true, true, true, true, true, false, false, false, false, false, false, false, false, false, false, false, false] rfl rfl (take_ofW HT_.out HW_.out (by kernel_rfl)) (fun _ _ _ h => h) (Or.inl ⟨by rfl, ?_⟩) hHeld ?_ ?_
          rotate_left
          ·rintro w' ⟨s0, s1, s2, s3⟩
           go_simp
           with_reducible rfl
          rotate_left
          ·simp only [Act.put, List.setIfInBounds_toArray, List.set_cons_zero, List.set_cons_succ, i64_w, i32_w]
           rfl
          refine one_ (i := 42) (N := some 45) #[true, true, true, true, true, true, true, true, true, true, true, true, true, true, true, true, true, true, true, true, true, true, true, true, true, true, true, true, true, true, true, true, true, true, true, true, true, true, true, true, true, true, true, false, false, false, false, false, false, false, false, false, false, false] rfl rfl (one_of HT_.out (by kernel_rfl)) (by decide) (fun K hK => ?_)
          refine goes_ Try.func87 (by kernel_rfl) rfl #[.int .u8 6, .int .u16 0] (by rfl) rfl rfl (by (try simp only [List.map_toArray, List.map_cons, List.map_nil]); first | done | rfl | (simp only [List.length_drop, List.length_take]; rfl)) ?_
          with_reducible refine (garderobelaw13_t.calls 6 0 t167 t168 _ A23.out).mono ?_
          rintro e w56 ⟨rfl, hb⟩
          refine ⟨_, rfl, ?_⟩
          have n0_ := Aside0.mk (Kd.R_below (qR HO134.out) hb)
          have n1_ := Aside0.mk (Kd.R_below (qR HO137.out) hb)
          have n2_ := Aside0.mk (Kd.R_below (qR HO140.out) hb)
          have n3_ := Aside0.mk (Kd.R_below (qR HO143.out) hb)
          have n4_ := Aside0.mk (Kd.R_below (qR HO152.out) hb)
          have n5_ := Aside0.mk (Kd.R_below (qR HO155.out) hb)
          have n6_ := Aside0.mk (blk_below (qb BK144.out) hb)
          have n7_ := Aside0.mk (below_step (qW HB.out) hb)
          clear HO134
          clear HO137
          clear HO140
          clear HO143
          clear HO152
          clear HO155
          clear BK144
          clear HB
          have HO134 := n0_
          have HO137 := n1_
          have HO140 := n2_
          have HO143 := n3_
          have HO152 := n4_
          have HO155 := n5_
          have BK144 := n6_
          have HB := n7_
          clear n0_ n1_ n2_ n3_ n4_ n5_ n6_ n7_
          (try clear hb)
          (try clear hb2)
          (try clear hk)
          (try clear hi)
          refine hK.out _ _ ⟨(blk_cell BK144.out 0).trans rfl, (blk_cell BK144.out 1).trans rfl, (blk_cell BK144.out 2).trans rfl, (blk_cell BK144.out 3).trans rfl⟩ (fun hHeld => ?_)
          clear hK K
          refine norm_ (a' := ?_) ?_ ?_
          rotate_left
          ·show Act.put _ (some 45) _ = _
           simp only [Act.put, List.setIfInBounds_toArray, List.set_cons_zero, List.set_cons_succ, i64_w, i32_w]
           rfl
          refine one_ (i := 43) (N := some 46) #[true, true, true, true, true, true, true, true, true, true, true, true, true, true, true, true, true, true, true, true, true, true, true, true, true, true, true, true, true, true, true, true, true, true, true, true, true, true, true, true, true, true, true, true, false, false, false, false, false, false, false, false, false, false] rfl rfl (one_of HT_.out (by kernel_rfl)) (by decide) (fun K hK => ?_)
          refine goes_ Try.func87 (by kernel_rfl) rfl #[.int .u8 7, .int .u16 0] (by rfl) rfl rfl (by (try simp only [List.map_toArray, List.map_cons, List.map_nil]); first | done | rfl | (simp only [List.length_drop, List.length_take]; rfl)) ?_
          with_reducible refine (garderobelaw13_t.calls 7 0 t169 t170 _ A24.out).mono ?_
          rintro e w57 ⟨rfl, hb⟩
          refine ⟨_, rfl, ?_⟩
          have n0_ := Aside0.mk (Kd.R_below (qR HO134.out) hb)
          have n1_ := Aside0.mk (Kd.R_below (qR HO137.out) hb)
          have n2_ := Aside0.mk (Kd.R_below (qR HO140.out) hb)
          have n3_ := Aside0.mk (Kd.R_below (qR HO143.out) hb)
          have n4_ := Aside0.mk (Kd.R_below (qR HO152.out) hb)
          have n5_ := Aside0.mk (Kd.R_below (qR HO155.out) hb)
          have n6_ := Aside0.mk (blk_below (qb BK144.out) hb)
          have n7_ := Aside0.mk (below_step (qW HB.out) hb)
          clear HO134
          clear HO137
          clear HO140
          clear HO143
          clear HO152
          clear HO155
          clear BK144
          clear HB
          have HO134 := n0_
          have HO137 := n1_
          have HO140 := n2_
          have HO143 := n3_
          have HO152 := n4_
          have HO155 := n5_
          have BK144 := n6_
          have HB := n7_
          clear n0_ n1_ n2_ n3_ n4_ n5_ n6_ n7_
          (try clear hb)
          (try clear hb2)
          (try clear hk)
          (try clear hi)
          refine hK.out _ _ ⟨(blk_cell BK144.out 0).trans rfl, (blk_cell BK144.out 1).trans rfl, (blk_cell BK144.out 2).trans rfl, (blk_cell BK144.out 3).trans rfl⟩ (fun hHeld => ?_)
          clear hK K
          refine norm_ (a' := ?_) ?_ ?_
          rotate_left
          ·show Act.put _ (some 46) _ = _
           simp only [Act.put, List.setIfInBounds_toArray, List.set_cons_zero, List.set_cons_succ, i64_w, i32_w]
           rfl
          refine one_ (i := 44) (N := some 47) #[true, true, true, true, true, true, true, true, true, true, true, true, true, true, true, true, true, true, true, true, true, true, true, true, true, true, true, true, true, true, true, true, true, true, true, true, true, true, true, true, true, true, true, true, true, false, false, false, false, false, false, false, false, false] rfl rfl (one_of HT_.out (by kernel_rfl)) (by decide) (fun K hK => ?_)
          refine goes_ Try.func45 (by kernel_rfl) rfl #[.agg #[.slice Ao32 t132.length co32, .slice Ao34 t135.length co34, .slice Ao35 t138.length co35, .slice Ao36 t141.length co36], .agg #[.int .u8 t167, .int .u16 t168], .agg #[.int .u8 t169, .int .u16 t170]] (by rfl) rfl rfl (by (try simp only [List.map_toArray, List.map_cons, List.map_nil]); first | done | rfl | (simp only [List.length_drop, List.length_take]; rfl)) ?_
          with_reducible refine (hier_Fits.calls k _ _ t132 _ _ t135 _ _ t138 _ _ t141 t167 t168 t169 t170 false _ ?side1 ?side2 ?side3 ?side4 ?side5 ?side6 ?side7 ?side8 A25.out).mono ?_
          (case side1 => exact qC (Kd.R_reads' HO134.out).2.2)
          (case side2 => exact (Kd.R_reads' HO134.out).2.1)
          (case side3 => exact qC (Kd.R_reads' HO137.out).2.2)
          (case side4 => exact (Kd.R_reads' HO137.out).2.1)
          (case side5 => exact qC (Kd.R_reads' HO140.out).2.2)
          (case side6 => exact (Kd.R_reads' HO140.out).2.1)
          (case side7 => exact qC (Kd.R_reads' HO143.out).2.2)
          (case side8 => exact (Kd.R_reads' HO143.out).2.1)
          rintro e w58 ⟨rfl, hb⟩
          refine ⟨_, rfl, ?_⟩
          have n0_ := Aside0.mk (Kd.R_below (qR HO134.out) hb)
          have n1_ := Aside0.mk (Kd.R_below (qR HO137.out) hb)
          have n2_ := Aside0.mk (Kd.R_below (qR HO140.out) hb)
          have n3_ := Aside0.mk (Kd.R_below (qR HO143.out) hb)
          have n4_ := Aside0.mk (Kd.R_below (qR HO152.out) hb)
          have n5_ := Aside0.mk (Kd.R_below (qR HO155.out) hb)
          have n6_ := Aside0.mk (blk_below (qb BK144.out) hb)
          have n7_ := Aside0.mk (below_step (qW HB.out) hb)
          clear HO134
          clear HO137
          clear HO140
          clear HO143
          clear HO152
          clear HO155
          clear BK144
          clear HB
          have HO134 := n0_
          have HO137 := n1_
          have HO140 := n2_
          have HO143 := n3_
          have HO152 := n4_
          have HO155 := n5_
          have BK144 := n6_
          have HB := n7_
          clear n0_ n1_ n2_ n3_ n4_ n5_ n6_ n7_
          (try clear hb)
          (try clear hb2)
          (try clear hk)
          (try clear hi)
          refine hK.out _ _ ⟨(blk_cell BK144.out 0).trans rfl, (blk_cell BK144.out 1).trans rfl, (blk_cell BK144.out 2).trans rfl, (blk_cell BK144.out 3).trans rfl⟩ (fun hHeld => ?_)
          clear hK K
          refine norm_ (a' := ?_) ?_ ?_
          rotate_left
          ·show Act.put _ (some 47) _ = _
           simp only [Act.put, List.setIfInBounds_toArray, List.set_cons_zero, List.set_cons_succ, i64_w, i32_w]
           rfl
          refine pure_ (i := 45) (N := some 48) (v := ?_) (a' := ?_) #[true, true, true, true, true, true, true, true, true, true, true, true, true, true, true, true, true, true, true, true, true, true, true, true, true, true, true, true, true, true, true, true, true, true, true, true, true, true, true, true, true, true, true, true, true, true, false, false, false, false, false, false, false, false] rfl rfl (any_of HT_.out (by kernel_rfl)) (fun _ _ _ h => h) (Or.inl ⟨by rfl, ?_⟩) ?_ ?_
          rotate_left
          ·intro w'
           go_simp
           with_reducible rfl
          rotate_left
          ·simp only [Act.put, List.setIfInBounds_toArray, List.set_cons_zero, List.set_cons_succ, i64_w, i32_w]
           rfl
          refine pure_ (i := 46) (N := some 49) (v := ?_) (a' := ?_) #[true, true, true, true, true, true, true, true, true, true, true, true, true, true, true, true, true, true, true, true, true, true, true, true, true, true, true, true, true, true, true, true, true, true, true, true, true, true, true, true, true, true, true, true, true, true, true, false, false, false, false, false, false, false] rfl rfl (any_of HT_.out (by kernel_rfl)) (fun _ _ _ h => h) (Or.inl ⟨by rfl, ?_⟩) ?_ ?_
          rotate_left
          ·intro w'
           go_simp
           with_reducible rfl
          rotate_left
          ·simp only [Act.put, List.setIfInBounds_toArray, List.set_cons_zero, List.set_cons_succ, i64_w, i32_w]
           rfl
          refine pure_ (i := 47) (N := some 50) (v := ?_) (a' := ?_) #[true, true, true, true, true, true, true, true, true, true, true, true, true, true, true, true, true, true, true, true, true, true, true, true, true, true, true, true, true, true, true, true, true, true, true, true, true, true, true, true, true, true, true, true, true, true, true, true, false, false, false, false, false, false] rfl rfl (any_of HT_.out (by kernel_rfl)) (fun _ _ _ h => h) (Or.inl ⟨by rfl, ?_⟩) ?_ ?_
          rotate_left
          ·intro w'
           go_simp
           with_reducible rfl
          rotate_left
          ·simp only [Act.put, List.setIfInBounds_toArray, List.set_cons_zero, List.set_cons_succ, i64_w, i32_w]
           rfl
          refine take_ (i := 48) (N := some 51) (v := ?_) (a' := ?_) #[true, true, true, true, true, true, true, true, true, true, true, true, true, true, true, true, true, true, true, true, true, true, true, true, true, true, true, true, true, true, true, true, true, true, true, true, true, true, true, true, true, true, true, true, true, true, true, true, true, false, false, false, false, false] rfl rfl (take_ofW HT_.out HW_.out (by kernel_rfl)) (fun _ _ _ h => h) (Or.inl ⟨by rfl, ?_⟩) hHeld ?_ ?_
          rotate_left
          ·rintro w' ⟨s0, s1, s2, s3⟩
           go_simp
           with_reducible rfl
          rotate_left
          ·simp only [Act.put, List.setIfInBounds_toArray, List.set_cons_zero, List.set_cons_succ, i64_w, i32_w]
           rfl
          refine one_ (i := 49) (N := some 52) #[true, true, true, true, true, true, true, true, true, true, true, true, true, true, true, true, true, true, true, true, true, true, true, true, true, true, true, true, true, true, true, true, true, true, true, true, true, true, true, true, true, true, true, true, true, true, true, true, true, true, false, false, false, false] rfl rfl (one_of HT_.out (by kernel_rfl)) (by decide) (fun K hK => ?_)
          refine goes_ Try.func87 (by kernel_rfl) rfl #[.int .u8 4, .int .u16 2] (by rfl) rfl rfl (by (try simp only [List.map_toArray, List.map_cons, List.map_nil]); first | done | rfl | (simp only [List.length_drop, List.length_take]; rfl)) ?_
          with_reducible refine (garderobelaw13_t.calls 4 2 t172 t173 _ A27.out).mono ?_
          rintro e w59 ⟨rfl, hb⟩
          refine ⟨_, rfl, ?_⟩
          have n0_ := Aside0.mk (Kd.R_below (qR HO134.out) hb)
          have n1_ := Aside0.mk (Kd.R_below (qR HO137.out) hb)
          have n2_ := Aside0.mk (Kd.R_below (qR HO140.out) hb)
          have n3_ := Aside0.mk (Kd.R_below (qR HO143.out) hb)
          have n4_ := Aside0.mk (Kd.R_below (qR HO152.out) hb)
          have n5_ := Aside0.mk (Kd.R_below (qR HO155.out) hb)
          have n6_ := Aside0.mk (blk_below (qb BK144.out) hb)
          have n7_ := Aside0.mk (below_step (qW HB.out) hb)
          clear HO134
          clear HO137
          clear HO140
          clear HO143
          clear HO152
          clear HO155
          clear BK144
          clear HB
          have HO134 := n0_
          have HO137 := n1_
          have HO140 := n2_
          have HO143 := n3_
          have HO152 := n4_
          have HO155 := n5_
          have BK144 := n6_
          have HB := n7_
          clear n0_ n1_ n2_ n3_ n4_ n5_ n6_ n7_
          (try clear hb)
          (try clear hb2)
          (try clear hk)
          (try clear hi)
          refine hK.out _ _ ⟨(blk_cell BK144.out 0).trans rfl, (blk_cell BK144.out 1).trans rfl, (blk_cell BK144.out 2).trans rfl, (blk_cell BK144.out 3).trans rfl⟩ (fun hHeld => ?_)
          clear hK K
          refine norm_ (a' := ?_) ?_ ?_
          rotate_left
          ·show Act.put _ (some 52) _ = _
           simp only [Act.put, List.setIfInBounds_toArray, List.set_cons_zero, List.set_cons_succ, i64_w, i32_w]
           rfl
          refine one_ (i := 50) (N := some 53) #[true, true, true, true, true, true, true, true, true, true, true, true, true, true, true, true, true, true, true, true, true, true, true, true, true, true, true, true, true, true, true, true, true, true, true, true, true, true, true, true, true, true, true, true, true, true, true, true, true, true, true, false, false, false] rfl rfl (one_of HT_.out (by kernel_rfl)) (by decide) (fun K hK => ?_)
          refine goes_ Try.func87 (by kernel_rfl) rfl #[.int .u8 4, .int .u16 13] (by rfl) rfl rfl (by (try simp only [List.map_toArray, List.map_cons, List.map_nil]); first | done | rfl | (simp only [List.length_drop, List.length_take]; rfl)) ?_
          with_reducible refine (garderobelaw13_t.calls 4 13 t174 t175 _ A28.out).mono ?_
          rintro e w60 ⟨rfl, hb⟩
          refine ⟨_, rfl, ?_⟩
          have n0_ := Aside0.mk (Kd.R_below (qR HO134.out) hb)
          have n1_ := Aside0.mk (Kd.R_below (qR HO137.out) hb)
          have n2_ := Aside0.mk (Kd.R_below (qR HO140.out) hb)
          have n3_ := Aside0.mk (Kd.R_below (qR HO143.out) hb)
          have n4_ := Aside0.mk (Kd.R_below (qR HO152.out) hb)
          have n5_ := Aside0.mk (Kd.R_below (qR HO155.out) hb)
          have n6_ := Aside0.mk (blk_below (qb BK144.out) hb)
          have n7_ := Aside0.mk (below_step (qW HB.out) hb)
          clear HO134
          clear HO137
          clear HO140
          clear HO143
          clear HO152
          clear HO155
          clear BK144
          clear HB
          have HO134 := n0_
          have HO137 := n1_
          have HO140 := n2_
          have HO143 := n3_
          have HO152 := n4_
          have HO155 := n5_
          have BK144 := n6_
          have HB := n7_
          clear n0_ n1_ n2_ n3_ n4_ n5_ n6_ n7_
          (try clear hb)
          (try clear hb2)
          (try clear hk)
          (try clear hi)
          refine hK.out _ _ ⟨(blk_cell BK144.out 0).trans rfl, (blk_cell BK144.out 1).trans rfl, (blk_cell BK144.out 2).trans rfl, (blk_cell BK144.out 3).trans rfl⟩ (fun hHeld => ?_)
          clear hK K
          refine norm_ (a' := ?_) ?_ ?_
          rotate_left
          ·show Act.put _ (some 53) _ = _
           simp only [Act.put, List.setIfInBounds_toArray, List.set_cons_zero, List.set_cons_succ, i64_w, i32_w]
           rfl
          refine one_ (i := 51) (N := some 54) #[true, true, true, true, true, true, true, true, true, true, true, true, true, true, true, true, true, true, true, true, true, true, true, true, true, true, true, true, true, true, true, true, true, true, true, true, true, true, true, true, true, true, true, true, true, true, true, true, true, true, true, true, false, false] rfl rfl (one_of HT_.out (by kernel_rfl)) (by decide) (fun K hK => ?_)
          refine goes_ Try.func45 (by kernel_rfl) rfl #[.agg #[.slice Ao32 t132.length co32, .slice Ao34 t135.length co34, .slice Ao35 t138.length co35, .slice Ao36 t141.length co36], .agg #[.int .u8 t172, .int .u16 t173], .agg #[.int .u8 t174, .int .u16 t175]] (by rfl) rfl rfl (by (try simp only [List.map_toArray, List.map_cons, List.map_nil]); first | done | rfl | (simp only [List.length_drop, List.length_take]; rfl)) ?_
          with_reducible refine (hier_Fits.calls k _ _ t132 _ _ t135 _ _ t138 _ _ t141 t172 t173 t174 t175 t176 _ ?side1 ?side2 ?side3 ?side4 ?side5 ?side6 ?side7 ?side8 A29.out).mono ?_
          (case side1 => exact qC (Kd.R_reads' HO134.out).2.2)
          (case side2 => exact (Kd.R_reads' HO134.out).2.1)
          (case side3 => exact qC (Kd.R_reads' HO137.out).2.2)
          (case side4 => exact (Kd.R_reads' HO137.out).2.1)
          (case side5 => exact qC (Kd.R_reads' HO140.out).2.2)
          (case side6 => exact (Kd.R_reads' HO140.out).2.1)
          (case side7 => exact qC (Kd.R_reads' HO143.out).2.2)
          (case side8 => exact (Kd.R_reads' HO143.out).2.1)
          rintro e w61 ⟨rfl, hb⟩
          refine ⟨_, rfl, ?_⟩
          have n0_ := Aside0.mk (Kd.R_below (qR HO134.out) hb)
          have n1_ := Aside0.mk (Kd.R_below (qR HO137.out) hb)
          have n2_ := Aside0.mk (Kd.R_below (qR HO140.out) hb)
          have n3_ := Aside0.mk (Kd.R_below (qR HO143.out) hb)
          have n4_ := Aside0.mk (Kd.R_below (qR HO152.out) hb)
          have n5_ := Aside0.mk (Kd.R_below (qR HO155.out) hb)
          have n6_ := Aside0.mk (blk_below (qb BK144.out) hb)
          have n7_ := Aside0.mk (below_step (qW HB.out) hb)
          clear HO134
          clear HO137
          clear HO140
          clear HO143
          clear HO152
          clear HO155
          clear BK144
          clear HB
          have HO134 := n0_
          have HO137 := n1_
          have HO140 := n2_
          have HO143 := n3_
          have HO152 := n4_
          have HO155 := n5_
          have BK144 := n6_
          have HB := n7_
          clear n0_ n1_ n2_ n3_ n4_ n5_ n6_ n7_
          (try clear hb)
          (try clear hb2)
          (try clear hk)
          (try clear hi)
          refine hK.out _ _ ⟨(blk_cell BK144.out 0).trans rfl, (blk_cell BK144.out 1).trans rfl, (blk_cell BK144.out 2).trans rfl, (blk_cell BK144.out 3).trans rfl⟩ (fun hHeld => ?_)
          clear hK K
          refine norm_ (a' := ?_) ?_ ?_
          rotate_left
          ·show Act.put _ (some 54) _ = _
           simp only [Act.put, List.setIfInBounds_toArray, List.set_cons_zero, List.set_cons_succ, i64_w, i32_w]
           rfl
          refine pure_ (i := 52) (N := some 55) (v := ?_) (a' := ?_) #[true, true, true, true, true, true, true, true, true, true, true, true, true, true, true, true, true, true, true, true, true, true, true, true, true, true, true, true, true, true, true, true, true, true, true, true, true, true, true, true, true, true, true, true, true, true, true, true, true, true, true, true, true, false] rfl rfl (any_of HT_.out (by kernel_rfl)) (fun _ _ _ h => h) (Or.inl ⟨by rfl, ?_⟩) ?_ ?_
          rotate_left
          ·intro w'
           go_simp
           with_reducible rfl
          rotate_left
          ·simp only [Act.put, List.setIfInBounds_toArray, List.set_cons_zero, List.set_cons_succ, i64_w, i32_w]
           rfl
          refine pure_ (i := 53) (N := some 0) (v := ?_) (a' := ?_) #[true, true, true, true, true, true, true, true, true, true, true, true, true, true, true, true, true, true, true, true, true, true, true, true, true, true, true, true, true, true, true, true, true, true, true, true, true, true, true, true, true, true, true, true, true, true, true, true, true, true, true, true, true, true] rfl rfl (any_of HT_.out (by kernel_rfl)) (fun _ _ _ h => h) (Or.inl ⟨by rfl, ?_⟩) ?_ ?_
          rotate_left
          ·intro w'
           go_simp
           with_reducible rfl
          rotate_left
          ·simp only [Act.put, List.setIfInBounds_toArray, List.set_cons_zero, List.set_cons_succ, i64_w, i32_w]
           rfl
          refine done_ (done_of HT_.out (by kernel_rfl)) ?_
          try go_wp2
          go_ret
          exact ⟨by first | rfl | (simp [errW_none, errW_some] <;> rfl) | (simp [*, errW_none, errW_some] <;> rfl), by repeat (first | (with_reducible first | exact HB.out | apply below_alloc | apply pw_below_drewN | apply below_drew1 | refine below_set ?_ GE144.out) | exact HB.out)⟩
        ·replace c22 := Bool.eq_false_iff.mpr c22
         subst c22
         have H1 : (none) = some r := by rw [if_neg (show ¬ (false = true) by decide)] at H; exact H
         clear H
         have H := H1
         clear H1
         exact absurd H (by simp)
       ·replace c18 := Bool.eq_false_iff.mpr c18
        subst c18
        have H1 : (none) = some r := by rw [if_neg (show ¬ (false = true) by decide)] at H; exact H
        clear H
        have H := H1
        clear H1
        exact absurd H (by simp)
      ·replace c14 := Bool.eq_false_iff.mpr c14
       subst c14
       have H1 : (none) = some r := by rw [if_neg (show ¬ (false = true) by decide)] at H; exact H
       clear H
       have H := H1
       clear H1
       exact absurd H (by simp)
     ·rw [if_neg c11] at H
      have c11b0 : (t149 == 0) = false := beq_eq_false_iff_ne.mpr c11
      have c11b1 : (t149 != 0) = true := bne_iff_ne.mpr c11
      exact absurd H (by simp)
    ·rw [if_neg c9] at H
     have c9b0 : (t148 == 0) = false := beq_eq_false_iff_ne.mpr c9
     have c9b1 : (t148 != 0) = true := bne_iff_ne.mpr c9
     exact absurd H (by simp)
   ·rw [if_neg c7] at H
    have c7b0 : (t147 == 1) = false := beq_eq_false_iff_ne.mpr c7
    have c7b1 : (t147 != 1) = true := bne_iff_ne.mpr c7
    exact absurd H (by simp)
 ·replace c3 := Bool.eq_false_iff.mpr c3
  subst c3
  have H1 : (none) = some r := by rw [if_neg (show ¬ (false = true) by decide)] at H; exact H
  clear H
  have H := H1
  clear H1
  exact absurd H (by simp)

end Go.Proofs.Ytjknnifcbcdjiaa.PHierAny
