/- Printed by a program of this session (pr.py). -/
import Derived.Test.YtjknnifcbcdjiaaPValsAnyx0
import Derived.Test.YtjknnifcbcdjiaaPValsAnyx1
import Derived.Test.YtjknnifcbcdjiaaPValsAnyx6
import Derived.Test.YtjknnifcbcdjiaaShort
namespace Go.Proofs.Ytjknnifcbcdjiaa.PValsAny
open Go.RowKit Go.Proofs.YtjknnifcbcdjiaaW.PrintWords Go.Proofs.YtjknnifcbcdjiaaW.PrintLast Go.Proofs.YtjknnifcbcdjiaaW.PrintMore Go.Proofs.Ytjknnifcbcdjiaa.Short
attribute [local go_sem] max2_int min2_int max_two min_two max_three min_three max_four min_four   -- for this text's walks alone
set_option linter.unusedVariables false
set_option linter.unusedSimpArgs false

attribute [local go_sem high] eqA32
/-! ### hier_Fits: function 45 -/
def hier_Fits.j0 : Nat → Int → Int → Bool → List (S103) → List (S38) → List (S206) → List (S117) → Int → Int → Int → Int → Option (Bool)
 | 0, _, _, _, _, _, _, _, _, _, _, _ => none
 | k + 1, x7, x8, x16, x144000, x144001, x144002, x144003, x145000, x145001, x146000, x146001 => if x16 = true then (some false) else (if x8 = 1 then (some true) else (if x8 = 2 then (if x146001 = 0 then (some true) else ((hier_iface.f x144000 x144001 x144002 x144003 (wrap64 (x146001))).bind fun t148 => (if t148 = true then (some true) else (if x7 = 2 then ((hier_iface.f x144000 x144001 x144002 x144003 (wrap64 (x145001))).bind fun t149 => (if t149 = true then (some false) else ((hier_From.f x144000 x144001 x144002 x144003 (wrap64 (x145001)) (wrap64 (x146001))).bind fun t150 => (some t150)))) else (some false))))) else (if x8 = 3 then (some (x145000 == x146000 && (x145001 == x146001))) else (if x7 = 4 then (if x146001 = 0 then (some true) else ((hier_From.f x144000 x144001 x144002 x144003 (wrap64 (x145001)) (wrap64 (x146001))).bind fun t151 => (some t151))) else (some false)))))
def hier_Fits.f (k : Nat) (l0_0 : List (S103)) (l0_1 : List (S38)) (l0_2 : List (S206)) (l0_3 : List (S117)) (a1_0 : Int) (a1_1 : Int) (a2_0 : Int) (a2_1 : Int) : Option (Bool) := (hier_of.f k l0_0 l0_1 l0_2 l0_3 a1_0 a1_1).bind fun t146 => ((hier_of.f k l0_0 l0_1 l0_2 l0_3 a2_0 a2_1).bind fun t147 => (if t146 = 0 then (hier_Fits.j0 k t146 t147 true l0_0 l0_1 l0_2 l0_3 a1_0 a1_1 a2_0 a2_1) else (if t147 = 0 then (hier_Fits.j0 k t146 t147 true l0_0 l0_1 l0_2 l0_3 a1_0 a1_1 a2_0 a2_1) else (hier_Fits.j0 k t146 t147 ((t146 == 1) != (t147 == 1)) l0_0 l0_1 l0_2 l0_3 a1_0 a1_1 a2_0 a2_1))))
theorem hier_Fits.mono_l : ∀ k, (∀ y0 y1 y2 y3 y4 y5 y6 y7 y8 y9 y10, LeO (hier_Fits.j0 k y0 y1 y2 y3 y4 y5 y6 y7 y8 y9 y10) (hier_Fits.j0 (k + 1) y0 y1 y2 y3 y4 y5 y6 y7 y8 y9 y10))
 | 0 => fun _ _ _ _ _ _ _ _ _ _ _ r h => by simp [hier_Fits.j0] at h
 | k + 1 => by
  have ih0 := hier_Fits.mono_l k
  ·intro y0 y1 y2 y3 y4 y5 y6 y7 y8 y9 y10
   unfold hier_Fits.j0
   repeat' first
   | (with_reducible exact ih0 _ _ _ _ _ _ _ _ _ _ _)
   | (with_reducible exact hier_of.mono _ _ _ _ _ _ _)
   | (with_reducible exact LeO.refl _)
   | (with_reducible exact LeO.none _)
   | (with_reducible refine LeO.ite ?_ ?_)
   | (with_reducible refine LeO.bind ?_ (fun _ => ?_))
   | exact ih0 _ _ _ _ _ _ _ _ _ _ _
   | exact hier_of.mono _ _ _ _ _ _ _
   | exact LeO.none _
   | refine LeO.ite ?_ ?_
   | refine LeO.bind ?_ (fun _ => ?_)
theorem hier_Fits.mono : ∀ a0 a1 a2 a3 a4 a5 a6 a7 k, LeO (hier_Fits.f k a0 a1 a2 a3 a4 a5 a6 a7) (hier_Fits.f (k + 1) a0 a1 a2 a3 a4 a5 a6 a7) := by
 intro a0 a1 a2 a3 a4 a5 a6 a7 k
 have ih0 := hier_Fits.mono_l k
 unfold hier_Fits.f
 repeat' first
   | (with_reducible exact ih0 _ _ _ _ _ _ _ _ _ _ _)
   | (with_reducible exact hier_of.mono _ _ _ _ _ _ _)
   | (with_reducible exact LeO.refl _)
   | (with_reducible exact LeO.none _)
   | (with_reducible refine LeO.ite ?_ ?_)
   | (with_reducible refine LeO.bind ?_ (fun _ => ?_))
   | exact ih0 _ _ _ _ _ _ _ _ _ _ _
   | exact hier_of.mono _ _ _ _ _ _ _
   | exact LeO.none _
   | refine LeO.ite ?_ ?_
   | refine LeO.bind ?_ (fun _ => ?_)
def hier_Fits.T1 : Bool × List (List Nat × List Nat) := (true, [([], []), ([], []), ([0, 1], [0, 1]), ([], []), ([], []), ([3, 4, 2], [3, 4]), ([2, 5, 0, 1, 2], [2]), ([5, 6, 0, 1, 2, 3, 4, 5, 6], [5])])
def hier_Fits.B1 : List Nat := [0, 0, 3, 0, 0, 31, 63, 127]
theorem hier_Fits.tab1 : rtab .any (opsOf Try.f45 1) = hier_Fits.T1 := by kernel_rfl
theorem hier_Fits.bits1 : waitsOk hier_Fits.T1.2 hier_Fits.B1 = true := by kernel_rfl
set_option maxHeartbeats 8000000 in
set_option maxRecDepth 100000 in
theorem hier_Fits.calls (k : Nat) (A0_0 : Option Addr) (c0_0 : Nat) (l0_0 : List (S103)) (A0_1 : Option Addr) (c0_1 : Nat) (l0_1 : List (S38)) (A0_2 : Option Addr) (c0_2 : Nat) (l0_2 : List (S206)) (A0_3 : Option Addr) (c0_3 : Nat) (l0_3 : List (S117)) (a1_0 : Int) (a1_1 : Int) (a2_0 : Int) (a2_1 : Int) (r : Bool) (w : World) (hr0_0 : Kd.C k103 w A0_0 l0_0.length l0_0) (hc0_0 : l0_0.length ≤ c0_0) (hr0_1 : Kd.C k38 w A0_1 l0_1.length l0_1) (hc0_1 : l0_1.length ≤ c0_1) (hr0_2 : Kd.C k206 w A0_2 l0_2.length l0_2) (hc0_2 : l0_2.length ≤ c0_2) (hr0_3 : Kd.C k117 w A0_3 l0_3.length l0_3) (hc0_3 : l0_3.length ≤ c0_3) (h : hier_Fits.f k l0_0 l0_1 l0_2 l0_3 a1_0 a1_1 a2_0 a2_1 = some r) :
  Calls Try.prog 45 #[.agg #[.slice A0_0 l0_0.length c0_0, .slice A0_1 l0_1.length c0_1, .slice A0_2 l0_2.length c0_2, .slice A0_3 l0_3.length c0_3], .agg #[.int .u8 a1_0, .int .u16 a1_1], .agg #[.int .u8 a2_0, .int .u16 a2_1]] w fun e w' => e = .returned (.bool r) ∧ Below w.heap.size w w' := by
 have hu27 := Try.underlying27
 have hu32 := Try.underlying32
 have HR0_0 := Aside0.mk hr0_0
 have HC0_0 := Aside0.mk hc0_0
 clear hr0_0 hc0_0
 have HR0_1 := Aside0.mk hr0_1
 have HC0_1 := Aside0.mk hc0_1
 clear hr0_1 hc0_1
 have HR0_2 := Aside0.mk hr0_2
 have HC0_2 := Aside0.mk hc0_2
 clear hr0_2 hc0_2
 have HR0_3 := Aside0.mk hr0_3
 have HC0_3 := Aside0.mk hc0_3
 clear hr0_3 hc0_3
 have HB := Aside0.mk (Below.refl w.heap.size w)
 have H : ((hier_of.f k l0_0 l0_1 l0_2 l0_3 a1_0 a1_1).bind fun t146 => ((hier_of.f k l0_0 l0_1 l0_2 l0_3 a2_0 a2_1).bind fun t147 => (if t146 = 0 then (hier_Fits.j0 k t146 t147 true l0_0 l0_1 l0_2 l0_3 a1_0 a1_1 a2_0 a2_1) else (if t147 = 0 then (hier_Fits.j0 k t146 t147 true l0_0 l0_1 l0_2 l0_3 a1_0 a1_1 a2_0 a2_1) else (hier_Fits.j0 k t146 t147 ((t146 == 1) != (t147 == 1)) l0_0 l0_1 l0_2 l0_3 a1_0 a1_1 a2_0 a2_1))))) = some r := h
 clear h
 replace H := Option.bind_eq_some_iff.mp H
 obtain ⟨t146, A40, H⟩ := H
 replace H : ((hier_of.f k l0_0 l0_1 l0_2 l0_3 a2_0 a2_1).bind fun t147 => (if t146 = 0 then (hier_Fits.j0 k t146 t147 true l0_0 l0_1 l0_2 l0_3 a1_0 a1_1 a2_0 a2_1) else (if t147 = 0 then (hier_Fits.j0 k t146 t147 true l0_0 l0_1 l0_2 l0_3 a1_0 a1_1 a2_0 a2_1) else (hier_Fits.j0 k t146 t147 ((t146 == 1) != (t147 == 1)) l0_0 l0_1 l0_2 l0_3 a1_0 a1_1 a2_0 a2_1)))) = some r := H
 have A4 := Aside0.mk A40
 clear A40
 replace H := Option.bind_eq_some_iff.mp H
 obtain ⟨t147, A50, H⟩ := H
 replace H : (if t146 = 0 then (hier_Fits.j0 k t146 t147 true l0_0 l0_1 l0_2 l0_3 a1_0 a1_1 a2_0 a2_1) else (if t147 = 0 then (hier_Fits.j0 k t146 t147 true l0_0 l0_1 l0_2 l0_3 a1_0 a1_1 a2_0 a2_1) else (hier_Fits.j0 k t146 t147 ((t146 == 1) != (t147 == 1)) l0_0 l0_1 l0_2 l0_3 a1_0 a1_1 a2_0 a2_1))) = some r := H
 have A5 := Aside0.mk A50
 clear A50
 have HC6 := Aside0.mk H
 clear H
 go_enter Try.func45, Try.ntmps45
 try go_wp2_with (first | ((with_reducible refine gate_dst (N := 3) rfl ?_); refine box_event ?hg (N := 3) ?hd (cs := #[.slice A0_0 l0_0.length c0_0, .slice A0_1 l0_1.length c0_1, .slice A0_2 l0_2.length c0_2, .slice A0_3 l0_3.length c0_3]) (t := 27) ?hr ?_; (case hd => rfl); (case hg => rfl); (case hr => first | (go_simp; done) | (go_simp; rfl)); intro gb143 hg w7 hbox hb; have n0_ := Aside0.mk (below_step (qW HB.out) hb); have n1_ := Aside0.mk (hbox); have n2_ := Aside0.mk ((by rw [hg]; exact (below_size (qW HB.out)) : w.heap.size ≤ gb143)); have n3_ := Aside0.mk ((by rw [hg]; exact (below_size (qW HB.out)) : w.heap.size ≤ gb143)); clear HB; have HB := n0_; have BK143 := n1_; have GW143 := n2_; have GE143 := n3_; clear n0_ n1_ n2_ n3_; clear hb hbox hg) | ((with_reducible refine gate_dst (N := 4) rfl ?_); refine box_event ?hg (N := 4) ?hd (cs := #[.int .u8 a1_0, .int .u16 a1_1]) (t := 32) ?hr ?_; (case hd => rfl); (case hg => rfl); (case hr => first | (go_simp; done) | (go_simp; rfl)); intro gb144 hg w8 hbox hb; have n0_ := Aside0.mk (blk_below (qb BK143.out) hb); have n1_ := Aside0.mk (below_step (qW HB.out) hb); have n2_ := Aside0.mk (hbox); have n3_ := Aside0.mk ((by rw [hg]; exact (below_size (qW HB.out)) : w.heap.size ≤ gb144)); have n4_ := Aside0.mk ((by rw [hg]; exact (below_size (qW HB.out)) : w.heap.size ≤ gb144)); have n5_ := Aside0.mk ((by rw [hg]; exact Nat.ne_of_lt (blk_lt (qb BK143.out)) : gb143 ≠ gb144)); have n6_ := Aside0.mk ((by rw [hg]; exact Nat.ne_of_gt (blk_lt (qb BK143.out)) : gb144 ≠ gb143)); clear BK143 HB; have BK143 := n0_; have HB := n1_; have BK144 := n2_; have GW144 := n3_; have GE144 := n4_; have NB143_144 := n5_; have NB144_143 := n6_; clear n0_ n1_ n2_ n3_ n4_ n5_ n6_; clear hb hbox hg) | ((with_reducible refine gate_dst (N := 5) rfl ?_); refine box_event ?hg (N := 5) ?hd (cs := #[.int .u8 a2_0, .int .u16 a2_1]) (t := 32) ?hr ?_; (case hd => rfl); (case hg => rfl); (case hr => first | (go_simp; done) | (go_simp; rfl)); intro gb145 hg w9 hbox hb; have n0_ := Aside0.mk (blk_below (qb BK143.out) hb); have n1_ := Aside0.mk (blk_below (qb BK144.out) hb); have n2_ := Aside0.mk (below_step (qW HB.out) hb); have n3_ := Aside0.mk (hbox); have n4_ := Aside0.mk ((by rw [hg]; exact (below_size (qW HB.out)) : w.heap.size ≤ gb145)); have n5_ := Aside0.mk ((by rw [hg]; exact (below_size (qW HB.out)) : w.heap.size ≤ gb145)); have n6_ := Aside0.mk ((by rw [hg]; exact Nat.ne_of_lt (blk_lt (qb BK143.out)) : gb143 ≠ gb145)); have n7_ := Aside0.mk ((by rw [hg]; exact Nat.ne_of_gt (blk_lt (qb BK143.out)) : gb145 ≠ gb143)); have n8_ := Aside0.mk ((by rw [hg]; exact Nat.ne_of_lt (blk_lt (qb BK144.out)) : gb144 ≠ gb145)); have n9_ := Aside0.mk ((by rw [hg]; exact Nat.ne_of_gt (blk_lt (qb BK144.out)) : gb145 ≠ gb144)); clear BK143 BK144 HB; have BK143 := n0_; have BK144 := n1_; have HB := n2_; have BK145 := n3_; have GW145 := n4_; have GE145 := n5_; have NB143_145 := n6_; have NB145_143 := n7_; have NB144_145 := n8_; have NB145_144 := n9_; clear n0_ n1_ n2_ n3_ n4_ n5_ n6_ n7_ n8_ n9_; clear hb hbox hg))
 have n0_ := Aside0.mk (blk_drew BK143.out)
 have n1_ := Aside0.mk (blk_drew BK144.out)
 have n2_ := Aside0.mk (blk_drew BK145.out)
 have n3_ := Aside0.mk (below_drew1 HB.out)
 clear BK143
 clear BK144
 clear BK145
 clear HB
 have BK143 := n0_
 have BK144 := n1_
 have BK145 := n2_
 have HB := n3_
 clear n0_ n1_ n2_ n3_
 refine start_ (n := 8) (S := fun w' => w'.cell? ⟨gb143, 0, none⟩ = some (.slice A0_0 l0_0.length c0_0) ∧ w'.cell? ⟨gb143, 1, none⟩ = some (.slice A0_1 l0_1.length c0_1) ∧ w'.cell? ⟨gb143, 2, none⟩ = some (.slice A0_2 l0_2.length c0_2) ∧ w'.cell? ⟨gb143, 3, none⟩ = some (.slice A0_3 l0_3.length c0_3) ∧ w'.cell? ⟨gb144, 0, none⟩ = some (.int .u8 a1_0) ∧ w'.cell? ⟨gb144, 1, none⟩ = some (.int .u16 a1_1) ∧ w'.cell? ⟨gb145, 0, none⟩ = some (.int .u8 a2_0) ∧ w'.cell? ⟨gb145, 1, none⟩ = some (.int .u16 a2_1)) (ds := []) #[false, false, false, false, false, false, false, false] (by kernel_rfl) rfl rfl ⟨(blk_cell BK143.out 0).trans rfl, (blk_cell BK143.out 1).trans rfl, (blk_cell BK143.out 2).trans rfl, (blk_cell BK143.out 3).trans rfl, (blk_cell BK144.out 0).trans rfl, (blk_cell BK144.out 1).trans rfl, (blk_cell BK145.out 0).trans rfl, (blk_cell BK145.out 1).trans rfl⟩ (fun hHeld => ?_); refine with_tabW hier_Fits.tab1 hier_Fits.bits1 (fun HT_ HW_ => ?_)
 generalize w9.drew = w10 at BK143 BK144 BK145 HB hHeld ⊢
 refine take_ (i := 0) (N := some 10) (v := ?_) (a' := ?_) #[true, false, false, false, false, false, false, false] rfl rfl (take_ofW HT_.out HW_.out (by kernel_rfl)) (fun _ _ _ h => h) (Or.inl ⟨by rfl, ?_⟩) hHeld ?_ ?_
 rotate_left
 ·rintro w' ⟨s0, s1, s2, s3, s4, s5, s6, s7⟩
  go_simp
  with_reducible rfl
 rotate_left
 ·simp only [Act.put, List.setIfInBounds_toArray, List.set_cons_zero, List.set_cons_succ, i64_w, i32_w]
  rfl
 refine take_ (i := 1) (N := some 11) (v := ?_) (a' := ?_) #[true, true, false, false, false, false, false, false] rfl rfl (take_ofW HT_.out HW_.out (by kernel_rfl)) (fun _ _ _ h => h) (Or.inl ⟨by rfl, ?_⟩) hHeld ?_ ?_
 rotate_left
 ·rintro w' ⟨s0, s1, s2, s3, s4, s5, s6, s7⟩
  go_simp
  with_reducible rfl
 rotate_left
 ·simp only [Act.put, List.setIfInBounds_toArray, List.set_cons_zero, List.set_cons_succ, i64_w, i32_w]
  rfl
 refine take_ (i := 3) (N := some 13) (v := ?_) (a' := ?_) #[true, true, false, true, false, false, false, false] rfl rfl (take_ofW HT_.out HW_.out (by kernel_rfl)) (fun _ _ _ h => h) (Or.inl ⟨by rfl, ?_⟩) hHeld ?_ ?_
 rotate_left
 ·rintro w' ⟨s0, s1, s2, s3, s4, s5, s6, s7⟩
  go_simp
  with_reducible rfl
 rotate_left
 ·simp only [Act.put, List.setIfInBounds_toArray, List.set_cons_zero, List.set_cons_succ, i64_w, i32_w]
  rfl
 refine take_ (i := 4) (N := some 14) (v := ?_) (a' := ?_) #[true, true, false, true, true, false, false, false] rfl rfl (take_ofW HT_.out HW_.out (by kernel_rfl)) (fun _ _ _ h => h) (Or.inl ⟨by rfl, ?_⟩) hHeld ?_ ?_
 rotate_left
 ·rintro w' ⟨s0, s1, s2, s3, s4, s5, s6, s7⟩
  go_simp
  with_reducible rfl
 rotate_left
 ·simp only [Act.put, List.setIfInBounds_toArray, List.set_cons_zero, List.set_cons_succ, i64_w, i32_w]
  rfl
 refine one_ (i := 2) (N := some 12) #[true, true, true, true, true, false, false, false] rfl rfl (one_of HT_.out (by kernel_rfl)) (by decide) (fun K hK => ?_)
 refine goes_ Try.func85 (by kernel_rfl) rfl #[.agg #[.slice A0_0 l0_0.length c0_0, .slice A0_1 l0_1.length c0_1, .slice A0_2 l0_2.length c0_2, .slice A0_3 l0_3.length c0_3], .agg #[.int .u8 a1_0, .int .u16 a1_1]] (by rfl) rfl rfl (by (try simp only [List.map_toArray, List.map_cons, List.map_nil]); first | done | rfl | (simp only [List.length_drop, List.length_take]; rfl)) ?_
 with_reducible refine (hier_of.calls k _ _ l0_0 _ _ l0_1 _ _ l0_2 _ _ l0_3 a1_0 a1_1 t146 _ ?side1 ?side2 ?side3 ?side4 ?side5 ?side6 ?side7 ?side8 A4.out).mono ?_
 (case side1 => exact qC (Kd.C_below HR0_0.out HB.out))
 (case side2 => exact HC0_0.out)
 (case side3 => exact qC (Kd.C_below HR0_1.out HB.out))
 (case side4 => exact HC0_1.out)
 (case side5 => exact qC (Kd.C_below HR0_2.out HB.out))
 (case side6 => exact HC0_2.out)
 (case side7 => exact qC (Kd.C_below HR0_3.out HB.out))
 (case side8 => exact HC0_3.out)
 rintro e w11 ⟨rfl, hb⟩
 refine ⟨_, rfl, ?_⟩
 have n0_ := Aside0.mk (blk_below (qb BK143.out) hb)
 have n1_ := Aside0.mk (blk_below (qb BK144.out) hb)
 have n2_ := Aside0.mk (blk_below (qb BK145.out) hb)
 have n3_ := Aside0.mk (below_step (qW HB.out) hb)
 clear BK143
 clear BK144
 clear BK145
 clear HB
 have BK143 := n0_
 have BK144 := n1_
 have BK145 := n2_
 have HB := n3_
 clear n0_ n1_ n2_ n3_
 (try clear hb)
 (try clear hb2)
 (try clear hk)
 (try clear hi)
 refine hK.out _ _ ⟨(blk_cell BK143.out 0).trans rfl, (blk_cell BK143.out 1).trans rfl, (blk_cell BK143.out 2).trans rfl, (blk_cell BK143.out 3).trans rfl, (blk_cell BK144.out 0).trans rfl, (blk_cell BK144.out 1).trans rfl, (blk_cell BK145.out 0).trans rfl, (blk_cell BK145.out 1).trans rfl⟩ (fun hHeld => ?_)
 clear hK K
 refine norm_ (a' := ?_) ?_ ?_
 rotate_left
 ·show Act.put _ (some 12) _ = _
  simp only [Act.put, List.setIfInBounds_toArray, List.set_cons_zero, List.set_cons_succ, i64_w, i32_w]
  rfl
 refine one_ (i := 5) (N := some 15) #[true, true, true, true, true, true, false, false] rfl rfl (one_of HT_.out (by kernel_rfl)) (by decide) (fun K hK => ?_)
 refine goes_ Try.func85 (by kernel_rfl) rfl #[.agg #[.slice A0_0 l0_0.length c0_0, .slice A0_1 l0_1.length c0_1, .slice A0_2 l0_2.length c0_2, .slice A0_3 l0_3.length c0_3], .agg #[.int .u8 a2_0, .int .u16 a2_1]] (by rfl) rfl rfl (by (try simp only [List.map_toArray, List.map_cons, List.map_nil]); first | done | rfl | (simp only [List.length_drop, List.length_take]; rfl)) ?_
 with_reducible refine (hier_of.calls k _ _ l0_0 _ _ l0_1 _ _ l0_2 _ _ l0_3 a2_0 a2_1 t147 _ ?side1 ?side2 ?side3 ?side4 ?side5 ?side6 ?side7 ?side8 A5.out).mono ?_
 (case side1 => exact qC (Kd.C_below HR0_0.out HB.out))
 (case side2 => exact HC0_0.out)
 (case side3 => exact qC (Kd.C_below HR0_1.out HB.out))
 (case side4 => exact HC0_1.out)
 (case side5 => exact qC (Kd.C_below HR0_2.out HB.out))
 (case side6 => exact HC0_2.out)
 (case side7 => exact qC (Kd.C_below HR0_3.out HB.out))
 (case side8 => exact HC0_3.out)
 rintro e w12 ⟨rfl, hb⟩
 refine ⟨_, rfl, ?_⟩
 have n0_ := Aside0.mk (blk_below (qb BK143.out) hb)
 have n1_ := Aside0.mk (blk_below (qb BK144.out) hb)
 have n2_ := Aside0.mk (blk_below (qb BK145.out) hb)
 have n3_ := Aside0.mk (below_step (qW HB.out) hb)
 clear BK143
 clear BK144
 clear BK145
 clear HB
 have BK143 := n0_
 have BK144 := n1_
 have BK145 := n2_
 have HB := n3_
 clear n0_ n1_ n2_ n3_
 (try clear hb)
 (try clear hb2)
 (try clear hk)
 (try clear hi)
 refine hK.out _ _ ⟨(blk_cell BK143.out 0).trans rfl, (blk_cell BK143.out 1).trans rfl, (blk_cell BK143.out 2).trans rfl, (blk_cell BK143.out 3).trans rfl, (blk_cell BK144.out 0).trans rfl, (blk_cell BK144.out 1).trans rfl, (blk_cell BK145.out 0).trans rfl, (blk_cell BK145.out 1).trans rfl⟩ (fun hHeld => ?_)
 clear hK K
 refine norm_ (a' := ?_) ?_ ?_
 rotate_left
 ·show Act.put _ (some 15) _ = _
  simp only [Act.put, List.setIfInBounds_toArray, List.set_cons_zero, List.set_cons_succ, i64_w, i32_w]
  rfl
 refine pure_ (i := 6) (N := some 7) (v := ?_) (a' := ?_) #[true, true, true, true, true, true, true, false] rfl rfl (any_of HT_.out (by kernel_rfl)) (fun _ _ _ h => h) (Or.inl ⟨by rfl, ?_⟩) ?_ ?_
 rotate_left
 ·intro w'
  go_simp
  with_reducible rfl
 rotate_left
 ·simp only [Act.put, List.setIfInBounds_toArray, List.set_cons_zero, List.set_cons_succ, i64_w, i32_w]
  rfl
 refine pure_ (i := 7) (N := some 8) (v := ?_) (a' := ?_) #[true, true, true, true, true, true, true, true] rfl rfl (any_of HT_.out (by kernel_rfl)) (fun _ _ _ h => h) (Or.inl ⟨by rfl, ?_⟩) ?_ ?_
 rotate_left
 ·intro w'
  go_simp
  with_reducible rfl
 rotate_left
 ·simp only [Act.put, List.setIfInBounds_toArray, List.set_cons_zero, List.set_cons_succ, i64_w, i32_w]
  rfl
 refine done_ (done_of HT_.out (by kernel_rfl)) ?_
 go_upto_region 2 with (fail)
 go_cut [16] (fun v16 wc => ∃ (kq : Nat) (x16_5 : Bool), v16 = .bool x16_5 ∧ Aside0 (hier_Fits.j0 kq t146 t147 x16_5 l0_0 l0_1 l0_2 l0_3 a1_0 a1_1 a2_0 a2_1 = some r) ∧ Aside0 (kq ≤ k) ∧ Aside0 (wc.heap[gb143]? = some (.cells #[(.slice A0_0 l0_0.length c0_0), (.slice A0_1 l0_1.length c0_1), (.slice A0_2 l0_2.length c0_2), (.slice A0_3 l0_3.length c0_3)] 27 (0, 0))) ∧ Aside0 (wc.heap[gb144]? = some (.cells #[.int .u8 a1_0, .int .u16 a1_1] 32 (0, 0))) ∧ Aside0 (wc.heap[gb145]? = some (.cells #[.int .u8 a2_0, .int .u16 a2_1] 32 (0, 0))) ∧ Aside0 (Below w.heap.size w wc))
 case first =>
  have H := HC6.out
  clear HC6
  by_cases c13 : t146 = 0
  ·rw [if_pos c13] at H
   have c13b0 : (t146 == 0) = true := beq_iff_eq.mpr c13
   have c13b1 : (t146 != 0) = false := bne_eq_false_iff_eq.mpr c13
   clear c13
   (first | rw [c13b0] | (simp only [i64_w, i32_w]; rw [c13b0]) | skip)
   have H' := Aside0.mk H
   clear H
   go_wp2
   go_meet
   case rel => exact ⟨_, (true), (by first | rfl | (simp; done) | (simp [*]; done)), H', ⟨by first | omega | exact Nat.le_refl _⟩, ⟨qf BK143.out⟩, ⟨qf BK144.out⟩, ⟨qf BK145.out⟩, ⟨qW HB.out⟩⟩
  ·rw [if_neg c13] at H
   have c13b0 : (t146 == 0) = false := beq_eq_false_iff_ne.mpr c13
   have c13b1 : (t146 != 0) = true := bne_iff_ne.mpr c13
   (first | rw [c13b0] | (simp only [i64_w, i32_w]; rw [c13b0]) | skip)
   by_cases c14 : t147 = 0
   ·rw [if_pos c14] at H
    have c14b0 : (t147 == 0) = true := beq_iff_eq.mpr c14
    have c14b1 : (t147 != 0) = false := bne_eq_false_iff_eq.mpr c14
    clear c14
    have H' := Aside0.mk H
    clear H
    go_wp2
    go_meet
    case rel => exact ⟨_, (true), (by first | rfl | (simp; done) | (simp [*]; done)), H', ⟨by first | omega | exact Nat.le_refl _⟩, ⟨qf BK143.out⟩, ⟨qf BK144.out⟩, ⟨qf BK145.out⟩, ⟨qW HB.out⟩⟩
   ·rw [if_neg c14] at H
    have c14b0 : (t147 == 0) = false := beq_eq_false_iff_ne.mpr c14
    have c14b1 : (t147 != 0) = true := bne_iff_ne.mpr c14
    have H' := Aside0.mk H
    clear H
    go_wp2
    go_meet
    case rel => exact ⟨_, (((t146 == 1) != (t147 == 1))), (by first | rfl | (simp; done) | (simp [*]; done)), H', ⟨by first | omega | exact Nat.le_refl _⟩, ⟨qf BK143.out⟩, ⟨qf BK144.out⟩, ⟨qf BK145.out⟩, ⟨qW HB.out⟩⟩
 case rest =>
  clear HC6
  try clear c1
  try clear p2
  try clear c4
  try clear c8
  try clear c13
  try clear c13b0
  try clear c13b1
  try clear c14
  try clear c14b0
  try clear c14b1
  obtain ⟨kq, x16_5, rfl, HA, HJ5, BK143, BK144, BK145, HB⟩ := hcut
  cases kq with
  | zero => exact absurd HA.out (by simp [hier_Fits.j0])
  | succ kj5 =>
   have H := HA.out
   clear HA
   simp only [hier_Fits.j0] at H
   by_cases c15 : x16_5 = true
   ·subst c15
    have H1 : (some false) = some r := by rw [if_pos rfl] at H; exact H
    clear H
    have H := H1
    clear H1
    obtain rfl := Option.some.inj H
    go_wp2
    go_ret
    exact ⟨by first | rfl | (simp [errW_none, errW_some] <;> rfl) | (simp [*, errW_none, errW_some] <;> rfl), by repeat (first | (with_reducible first | exact HB.out | apply below_alloc | apply pw_below_drewN | apply below_drew1 | refine below_set ?_ GE143.out | refine below_set ?_ GE144.out | refine below_set ?_ GE145.out) | exact HB.out)⟩
   ·replace c15 := Bool.eq_false_iff.mpr c15
    subst c15
    have H1 : (if t147 = 1 then (some true) else (if t147 = 2 then (if a2_1 = 0 then (some true) else ((hier_iface.f l0_0 l0_1 l0_2 l0_3 (wrap64 (a2_1))).bind fun t148 => (if t148 = true then (some true) else (if t146 = 2 then ((hier_iface.f l0_0 l0_1 l0_2 l0_3 (wrap64 (a1_1))).bind fun t149 => (if t149 = true then (some false) else ((hier_From.f l0_0 l0_1 l0_2 l0_3 (wrap64 (a1_1)) (wrap64 (a2_1))).bind fun t150 => (some t150)))) else (some false))))) else (if t147 = 3 then (some (a1_0 == a2_0 && (a1_1 == a2_1))) else (if t146 = 4 then (if a2_1 = 0 then (some true) else ((hier_From.f l0_0 l0_1 l0_2 l0_3 (wrap64 (a1_1)) (wrap64 (a2_1))).bind fun t151 => (some t151))) else (some false))))) = some r := by rw [if_neg (show ¬ (false = true) by decide)] at H; exact H
    clear H
    have H := H1
    clear H1
    by_cases c16 : t147 = 1
    ·rw [if_pos c16] at H
     have c16b0 : (t147 == 1) = true := beq_iff_eq.mpr c16
     have c16b1 : (t147 != 1) = false := bne_eq_false_iff_eq.mpr c16
     clear c16
     obtain rfl := Option.some.inj H
     go_wp2
     go_ret
     exact ⟨by first | rfl | (simp [errW_none, errW_some] <;> rfl) | (simp [*, errW_none, errW_some] <;> rfl), by repeat (first | (with_reducible first | exact HB.out | apply below_alloc | apply pw_below_drewN | apply below_drew1 | refine below_set ?_ GE143.out | refine below_set ?_ GE144.out | refine below_set ?_ GE145.out) | exact HB.out)⟩
    ·rw [if_neg c16] at H
     have c16b0 : (t147 == 1) = false := beq_eq_false_iff_ne.mpr c16
     have c16b1 : (t147 != 1) = true := bne_iff_ne.mpr c16
     by_cases c17 : t147 = 2
     ·rw [if_pos c17] at H
      have c17b0 : (t147 == 2) = true := beq_iff_eq.mpr c17
      have c17b1 : (t147 != 2) = false := bne_eq_false_iff_eq.mpr c17
      clear c17
      by_cases c18 : a2_1 = 0
      ·rw [if_pos c18] at H
       have c18b0 : (a2_1 == 0) = true := beq_iff_eq.mpr c18
       have c18b1 : (a2_1 != 0) = false := bne_eq_false_iff_eq.mpr c18
       clear c18
       obtain rfl := Option.some.inj H
       have hnb19 := NB145_143.out
       have hnc19 := NB143_145.out
       have hnb20 := NB145_144.out
       have hnc20 := NB144_145.out
       have hcz21_0 : wc.cell? ⟨gb145, 0, none⟩ = some (.int .u8 a2_0) := (blk_cell BK145.out 0).trans rfl
       have hcz21_1 : wc.cell? ⟨gb145, 1, none⟩ = some (.int .u16 a2_1) := (blk_cell BK145.out 1).trans rfl
       have hfz21_0 := blk_frozen BK145.out 0
       have hfz21_1 := blk_frozen BK145.out 1
       go_wp2
       go_ret
       exact ⟨by first | rfl | (simp [errW_none, errW_some] <;> rfl) | (simp [*, errW_none, errW_some] <;> rfl), by repeat (first | (with_reducible first | exact HB.out | apply below_alloc | apply pw_below_drewN | apply below_drew1 | refine below_set ?_ GE143.out | refine below_set ?_ GE144.out | refine below_set ?_ GE145.out) | exact HB.out)⟩
      ·rw [if_neg c18] at H
       have c18b0 : (a2_1 == 0) = false := beq_eq_false_iff_ne.mpr c18
       have c18b1 : (a2_1 != 0) = true := bne_iff_ne.mpr c18
       replace H := Option.bind_eq_some_iff.mp H
       obtain ⟨t148, A220, H⟩ := H
       replace H : (if t148 = true then (some true) else (if t146 = 2 then ((hier_iface.f l0_0 l0_1 l0_2 l0_3 (wrap64 (a1_1))).bind fun t149 => (if t149 = true then (some false) else ((hier_From.f l0_0 l0_1 l0_2 l0_3 (wrap64 (a1_1)) (wrap64 (a2_1))).bind fun t150 => (some t150)))) else (some false))) = some r := H
       have A22 := Aside0.mk A220
       clear A220
       by_cases c23 : t148 = true
       ·subst c23
        have H1 : (some true) = some r := by rw [if_pos rfl] at H; exact H
        clear H
        have H := H1
        clear H1
        obtain rfl := Option.some.inj H
        have hnb24 := NB145_143.out
        have hnc24 := NB143_145.out
        have hnb25 := NB145_144.out
        have hnc25 := NB144_145.out
        have hcz26_0 : wc.cell? ⟨gb145, 0, none⟩ = some (.int .u8 a2_0) := (blk_cell BK145.out 0).trans rfl
        have hcz26_1 : wc.cell? ⟨gb145, 1, none⟩ = some (.int .u16 a2_1) := (blk_cell BK145.out 1).trans rfl
        have hfz26_0 := blk_frozen BK145.out 0
        have hfz26_1 := blk_frozen BK145.out 1
        have hnb27 := NB143_144.out
        have hnc27 := NB144_143.out
        have hcz28_0 : wc.cell? ⟨gb143, 0, none⟩ = some (.slice A0_0 l0_0.length c0_0) := (blk_cell BK143.out 0).trans rfl
        have hcz28_1 : wc.cell? ⟨gb143, 1, none⟩ = some (.slice A0_1 l0_1.length c0_1) := (blk_cell BK143.out 1).trans rfl
        have hcz28_2 : wc.cell? ⟨gb143, 2, none⟩ = some (.slice A0_2 l0_2.length c0_2) := (blk_cell BK143.out 2).trans rfl
        have hcz28_3 : wc.cell? ⟨gb143, 3, none⟩ = some (.slice A0_3 l0_3.length c0_3) := (blk_cell BK143.out 3).trans rfl
        have hfz28_0 := blk_frozen BK143.out 0
        have hfz28_1 := blk_frozen BK143.out 1
        have hfz28_2 := blk_frozen BK143.out 2
        have hfz28_3 := blk_frozen BK143.out 3
        go_wp2_with (first | (go_at_call 80; (with_reducible refine (hier_iface.calls _ _ l0_0 _ _ l0_1 _ _ l0_2 _ _ l0_3 (wrap64 (a2_1)) true _ ?side1 ?side2 ?side3 ?side4 ?side5 ?side6 ?side7 ?side8 A22.out).mono ?_); (case side1 => exact qC (Kd.C_below HR0_0.out HB.out)); (case side2 => exact HC0_0.out); (case side3 => exact qC (Kd.C_below HR0_1.out HB.out)); (case side4 => exact HC0_1.out); (case side5 => exact qC (Kd.C_below HR0_2.out HB.out)); (case side6 => exact HC0_2.out); (case side7 => exact qC (Kd.C_below HR0_3.out HB.out)); (case side8 => exact HC0_3.out); rintro e w29 ⟨rfl, hb⟩; have n0_ := Aside0.mk (blk_below (qb BK143.out) hb); have n1_ := Aside0.mk (blk_below (qb BK144.out) hb); have n2_ := Aside0.mk (blk_below (qb BK145.out) hb); have n3_ := Aside0.mk (below_step (qW HB.out) hb); clear BK143 BK144 BK145 HB; have BK143 := n0_; have BK144 := n1_; have BK145 := n2_; have HB := n3_; clear n0_ n1_ n2_ n3_; (try clear hb); (try clear hb2); (try clear hk); (try clear hi)))
        go_ret
        exact ⟨by first | rfl | (simp [errW_none, errW_some] <;> rfl) | (simp [*, errW_none, errW_some] <;> rfl), by repeat (first | (with_reducible first | exact HB.out | apply below_alloc | apply pw_below_drewN | apply below_drew1 | refine below_set ?_ GE143.out | refine below_set ?_ GE144.out | refine below_set ?_ GE145.out) | exact HB.out)⟩
       ·replace c23 := Bool.eq_false_iff.mpr c23
        subst c23
        have H1 : (if t146 = 2 then ((hier_iface.f l0_0 l0_1 l0_2 l0_3 (wrap64 (a1_1))).bind fun t149 => (if t149 = true then (some false) else ((hier_From.f l0_0 l0_1 l0_2 l0_3 (wrap64 (a1_1)) (wrap64 (a2_1))).bind fun t150 => (some t150)))) else (some false)) = some r := by rw [if_neg (show ¬ (false = true) by decide)] at H; exact H
        clear H
        have H := H1
        clear H1
        by_cases c30 : t146 = 2
        ·rw [if_pos c30] at H
         have c30b0 : (t146 == 2) = true := beq_iff_eq.mpr c30
         have c30b1 : (t146 != 2) = false := bne_eq_false_iff_eq.mpr c30
         clear c30
         replace H := Option.bind_eq_some_iff.mp H
         obtain ⟨t149, A310, H⟩ := H
         replace H : (if t149 = true then (some false) else ((hier_From.f l0_0 l0_1 l0_2 l0_3 (wrap64 (a1_1)) (wrap64 (a2_1))).bind fun t150 => (some t150))) = some r := H
         have A31 := Aside0.mk A310
         clear A310
         by_cases c32 : t149 = true
         ·subst c32
          have H1 : (some false) = some r := by rw [if_pos rfl] at H; exact H
          clear H
          have H := H1
          clear H1
          obtain rfl := Option.some.inj H
          have hnb33 := NB145_143.out
          have hnc33 := NB143_145.out
          have hnb34 := NB145_144.out
          have hnc34 := NB144_145.out
          have hcz35_0 : wc.cell? ⟨gb145, 0, none⟩ = some (.int .u8 a2_0) := (blk_cell BK145.out 0).trans rfl
          have hcz35_1 : wc.cell? ⟨gb145, 1, none⟩ = some (.int .u16 a2_1) := (blk_cell BK145.out 1).trans rfl
          have hfz35_0 := blk_frozen BK145.out 0
          have hfz35_1 := blk_frozen BK145.out 1
          have hnb36 := NB143_144.out
          have hnc36 := NB144_143.out
          have hcz37_0 : wc.cell? ⟨gb143, 0, none⟩ = some (.slice A0_0 l0_0.length c0_0) := (blk_cell BK143.out 0).trans rfl
          have hcz37_1 : wc.cell? ⟨gb143, 1, none⟩ = some (.slice A0_1 l0_1.length c0_1) := (blk_cell BK143.out 1).trans rfl
          have hcz37_2 : wc.cell? ⟨gb143, 2, none⟩ = some (.slice A0_2 l0_2.length c0_2) := (blk_cell BK143.out 2).trans rfl
          have hcz37_3 : wc.cell? ⟨gb143, 3, none⟩ = some (.slice A0_3 l0_3.length c0_3) := (blk_cell BK143.out 3).trans rfl
          have hfz37_0 := blk_frozen BK143.out 0
          have hfz37_1 := blk_frozen BK143.out 1
          have hfz37_2 := blk_frozen BK143.out 2
          have hfz37_3 := blk_frozen BK143.out 3
          go_wp2_with (first | (go_at_call 80; (with_reducible refine (hier_iface.calls _ _ l0_0 _ _ l0_1 _ _ l0_2 _ _ l0_3 (wrap64 (a2_1)) false _ ?side1 ?side2 ?side3 ?side4 ?side5 ?side6 ?side7 ?side8 A22.out).mono ?_); (case side1 => exact qC (Kd.C_below HR0_0.out HB.out)); (case side2 => exact HC0_0.out); (case side3 => exact qC (Kd.C_below HR0_1.out HB.out)); (case side4 => exact HC0_1.out); (case side5 => exact qC (Kd.C_below HR0_2.out HB.out)); (case side6 => exact HC0_2.out); (case side7 => exact qC (Kd.C_below HR0_3.out HB.out)); (case side8 => exact HC0_3.out); rintro e w38 ⟨rfl, hb⟩; clear A22; have n0_ := Aside0.mk (blk_below (qb BK143.out) hb); have n1_ := Aside0.mk (blk_below (qb BK144.out) hb); have n2_ := Aside0.mk (blk_below (qb BK145.out) hb); have n3_ := Aside0.mk (below_step (qW HB.out) hb); clear BK143 BK144 BK145 HB; have BK143 := n0_; have BK144 := n1_; have BK145 := n2_; have HB := n3_; clear n0_ n1_ n2_ n3_; (try clear hb); (try clear hb2); (try clear hk); (try clear hi); have hcz39_0 : w38.cell? ⟨gb143, 0, none⟩ = some (.slice A0_0 l0_0.length c0_0) := (blk_cell BK143.out 0).trans rfl; have hcz39_1 : w38.cell? ⟨gb143, 1, none⟩ = some (.slice A0_1 l0_1.length c0_1) := (blk_cell BK143.out 1).trans rfl; have hcz39_2 : w38.cell? ⟨gb143, 2, none⟩ = some (.slice A0_2 l0_2.length c0_2) := (blk_cell BK143.out 2).trans rfl; have hcz39_3 : w38.cell? ⟨gb143, 3, none⟩ = some (.slice A0_3 l0_3.length c0_3) := (blk_cell BK143.out 3).trans rfl; have hfz39_0 := blk_frozen BK143.out 0; have hfz39_1 := blk_frozen BK143.out 1; have hfz39_2 := blk_frozen BK143.out 2; have hfz39_3 := blk_frozen BK143.out 3; have hcz40_0 : w38.cell? ⟨gb144, 0, none⟩ = some (.int .u8 a1_0) := (blk_cell BK144.out 0).trans rfl; have hcz40_1 : w38.cell? ⟨gb144, 1, none⟩ = some (.int .u16 a1_1) := (blk_cell BK144.out 1).trans rfl; have hfz40_0 := blk_frozen BK144.out 0; have hfz40_1 := blk_frozen BK144.out 1) | (go_at_call 80; (with_reducible refine (hier_iface.calls _ _ l0_0 _ _ l0_1 _ _ l0_2 _ _ l0_3 (wrap64 (a1_1)) true _ ?side1 ?side2 ?side3 ?side4 ?side5 ?side6 ?side7 ?side8 A31.out).mono ?_); (case side1 => exact qC (Kd.C_below HR0_0.out HB.out)); (case side2 => exact HC0_0.out); (case side3 => exact qC (Kd.C_below HR0_1.out HB.out)); (case side4 => exact HC0_1.out); (case side5 => exact qC (Kd.C_below HR0_2.out HB.out)); (case side6 => exact HC0_2.out); (case side7 => exact qC (Kd.C_below HR0_3.out HB.out)); (case side8 => exact HC0_3.out); rintro e w41 ⟨rfl, hb⟩; clear A31; have n0_ := Aside0.mk (blk_below (qb BK143.out) hb); have n1_ := Aside0.mk (blk_below (qb BK144.out) hb); have n2_ := Aside0.mk (blk_below (qb BK145.out) hb); have n3_ := Aside0.mk (below_step (qW HB.out) hb); clear BK143 BK144 BK145 HB; have BK143 := n0_; have BK144 := n1_; have BK145 := n2_; have HB := n3_; clear n0_ n1_ n2_ n3_; (try clear hb); (try clear hb2); (try clear hk); (try clear hi)))
          go_ret
          exact ⟨by first | rfl | (simp [errW_none, errW_some] <;> rfl) | (simp [*, errW_none, errW_some] <;> rfl), by repeat (first | (with_reducible first | exact HB.out | apply below_alloc | apply pw_below_drewN | apply below_drew1 | refine below_set ?_ GE143.out | refine below_set ?_ GE144.out | refine below_set ?_ GE145.out) | exact HB.out)⟩
         ·replace c32 := Bool.eq_false_iff.mpr c32
          subst c32
          have H1 : ((hier_From.f l0_0 l0_1 l0_2 l0_3 (wrap64 (a1_1)) (wrap64 (a2_1))).bind fun t150 => (some t150)) = some r := by rw [if_neg (show ¬ (false = true) by decide)] at H; exact H
          clear H
          have H := H1
          clear H1
          replace H := Option.bind_eq_some_iff.mp H
          obtain ⟨t150, A420, H⟩ := H
          replace H : (some t150) = some r := H
          have A42 := Aside0.mk A420
          clear A420
          obtain rfl := Option.some.inj H
          have hnb43 := NB145_143.out
          have hnc43 := NB143_145.out
          have hnb44 := NB145_144.out
          have hnc44 := NB144_145.out
          have hcz45_0 : wc.cell? ⟨gb145, 0, none⟩ = some (.int .u8 a2_0) := (blk_cell BK145.out 0).trans rfl
          have hcz45_1 : wc.cell? ⟨gb145, 1, none⟩ = some (.int .u16 a2_1) := (blk_cell BK145.out 1).trans rfl
          have hfz45_0 := blk_frozen BK145.out 0
          have hfz45_1 := blk_frozen BK145.out 1
          have hnb46 := NB143_144.out
          have hnc46 := NB144_143.out
          have hcz47_0 : wc.cell? ⟨gb143, 0, none⟩ = some (.slice A0_0 l0_0.length c0_0) := (blk_cell BK143.out 0).trans rfl
          have hcz47_1 : wc.cell? ⟨gb143, 1, none⟩ = some (.slice A0_1 l0_1.length c0_1) := (blk_cell BK143.out 1).trans rfl
          have hcz47_2 : wc.cell? ⟨gb143, 2, none⟩ = some (.slice A0_2 l0_2.length c0_2) := (blk_cell BK143.out 2).trans rfl
          have hcz47_3 : wc.cell? ⟨gb143, 3, none⟩ = some (.slice A0_3 l0_3.length c0_3) := (blk_cell BK143.out 3).trans rfl
          have hfz47_0 := blk_frozen BK143.out 0
          have hfz47_1 := blk_frozen BK143.out 1
          have hfz47_2 := blk_frozen BK143.out 2
          have hfz47_3 := blk_frozen BK143.out 3
          go_wp2_with (first | (go_at_call 80; (with_reducible refine (hier_iface.calls _ _ l0_0 _ _ l0_1 _ _ l0_2 _ _ l0_3 (wrap64 (a2_1)) false _ ?side1 ?side2 ?side3 ?side4 ?side5 ?side6 ?side7 ?side8 A22.out).mono ?_); (case side1 => exact qC (Kd.C_below HR0_0.out HB.out)); (case side2 => exact HC0_0.out); (case side3 => exact qC (Kd.C_below HR0_1.out HB.out)); (case side4 => exact HC0_1.out); (case side5 => exact qC (Kd.C_below HR0_2.out HB.out)); (case side6 => exact HC0_2.out); (case side7 => exact qC (Kd.C_below HR0_3.out HB.out)); (case side8 => exact HC0_3.out); rintro e w48 ⟨rfl, hb⟩; clear A22; have n0_ := Aside0.mk (blk_below (qb BK143.out) hb); have n1_ := Aside0.mk (blk_below (qb BK144.out) hb); have n2_ := Aside0.mk (blk_below (qb BK145.out) hb); have n3_ := Aside0.mk (below_step (qW HB.out) hb); clear BK143 BK144 BK145 HB; have BK143 := n0_; have BK144 := n1_; have BK145 := n2_; have HB := n3_; clear n0_ n1_ n2_ n3_; (try clear hb); (try clear hb2); (try clear hk); (try clear hi); have hcz49_0 : w48.cell? ⟨gb143, 0, none⟩ = some (.slice A0_0 l0_0.length c0_0) := (blk_cell BK143.out 0).trans rfl; have hcz49_1 : w48.cell? ⟨gb143, 1, none⟩ = some (.slice A0_1 l0_1.length c0_1) := (blk_cell BK143.out 1).trans rfl; have hcz49_2 : w48.cell? ⟨gb143, 2, none⟩ = some (.slice A0_2 l0_2.length c0_2) := (blk_cell BK143.out 2).trans rfl; have hcz49_3 : w48.cell? ⟨gb143, 3, none⟩ = some (.slice A0_3 l0_3.length c0_3) := (blk_cell BK143.out 3).trans rfl; have hfz49_0 := blk_frozen BK143.out 0; have hfz49_1 := blk_frozen BK143.out 1; have hfz49_2 := blk_frozen BK143.out 2; have hfz49_3 := blk_frozen BK143.out 3; have hcz50_0 : w48.cell? ⟨gb144, 0, none⟩ = some (.int .u8 a1_0) := (blk_cell BK144.out 0).trans rfl; have hcz50_1 : w48.cell? ⟨gb144, 1, none⟩ = some (.int .u16 a1_1) := (blk_cell BK144.out 1).trans rfl; have hfz50_0 := blk_frozen BK144.out 0; have hfz50_1 := blk_frozen BK144.out 1) | (go_at_call 80; (with_reducible refine (hier_iface.calls _ _ l0_0 _ _ l0_1 _ _ l0_2 _ _ l0_3 (wrap64 (a1_1)) false _ ?side1 ?side2 ?side3 ?side4 ?side5 ?side6 ?side7 ?side8 A31.out).mono ?_); (case side1 => exact qC (Kd.C_below HR0_0.out HB.out)); (case side2 => exact HC0_0.out); (case side3 => exact qC (Kd.C_below HR0_1.out HB.out)); (case side4 => exact HC0_1.out); (case side5 => exact qC (Kd.C_below HR0_2.out HB.out)); (case side6 => exact HC0_2.out); (case side7 => exact qC (Kd.C_below HR0_3.out HB.out)); (case side8 => exact HC0_3.out); rintro e w51 ⟨rfl, hb⟩; clear A31; have n0_ := Aside0.mk (blk_below (qb BK143.out) hb); have n1_ := Aside0.mk (blk_below (qb BK144.out) hb); have n2_ := Aside0.mk (blk_below (qb BK145.out) hb); have n3_ := Aside0.mk (below_step (qW HB.out) hb); clear BK143 BK144 BK145 HB; have BK143 := n0_; have BK144 := n1_; have BK145 := n2_; have HB := n3_; clear n0_ n1_ n2_ n3_; (try clear hb); (try clear hb2); (try clear hk); (try clear hi); have hcz52_0 : w51.cell? ⟨gb143, 0, none⟩ = some (.slice A0_0 l0_0.length c0_0) := (blk_cell BK143.out 0).trans rfl; have hcz52_1 : w51.cell? ⟨gb143, 1, none⟩ = some (.slice A0_1 l0_1.length c0_1) := (blk_cell BK143.out 1).trans rfl; have hcz52_2 : w51.cell? ⟨gb143, 2, none⟩ = some (.slice A0_2 l0_2.length c0_2) := (blk_cell BK143.out 2).trans rfl; have hcz52_3 : w51.cell? ⟨gb143, 3, none⟩ = some (.slice A0_3 l0_3.length c0_3) := (blk_cell BK143.out 3).trans rfl; have hfz52_0 := blk_frozen BK143.out 0; have hfz52_1 := blk_frozen BK143.out 1; have hfz52_2 := blk_frozen BK143.out 2; have hfz52_3 := blk_frozen BK143.out 3; have hcz53_0 : w51.cell? ⟨gb144, 0, none⟩ = some (.int .u8 a1_0) := (blk_cell BK144.out 0).trans rfl; have hcz53_1 : w51.cell? ⟨gb144, 1, none⟩ = some (.int .u16 a1_1) := (blk_cell BK144.out 1).trans rfl; have hfz53_0 := blk_frozen BK144.out 0; have hfz53_1 := blk_frozen BK144.out 1; have hcz54_0 : w51.cell? ⟨gb145, 0, none⟩ = some (.int .u8 a2_0) := (blk_cell BK145.out 0).trans rfl; have hcz54_1 : w51.cell? ⟨gb145, 1, none⟩ = some (.int .u16 a2_1) := (blk_cell BK145.out 1).trans rfl; have hfz54_0 := blk_frozen BK145.out 0; have hfz54_1 := blk_frozen BK145.out 1) | (go_at_call 41; (with_reducible refine (hier_From.calls _ _ l0_0 _ _ l0_1 _ _ l0_2 _ _ l0_3 (wrap64 (a1_1)) (wrap64 (a2_1)) t150 _ ?side1 ?side2 ?side3 ?side4 ?side5 ?side6 ?side7 ?side8 A42.out).mono ?_); (case side1 => exact qC (Kd.C_below HR0_0.out HB.out)); (case side2 => exact HC0_0.out); (case side3 => exact qC (Kd.C_below HR0_1.out HB.out)); (case side4 => exact HC0_1.out); (case side5 => exact qC (Kd.C_below HR0_2.out HB.out)); (case side6 => exact HC0_2.out); (case side7 => exact qC (Kd.C_below HR0_3.out HB.out)); (case side8 => exact HC0_3.out); rintro e w55 ⟨rfl, hb⟩; have n0_ := Aside0.mk (blk_below (qb BK143.out) hb); have n1_ := Aside0.mk (blk_below (qb BK144.out) hb); have n2_ := Aside0.mk (blk_below (qb BK145.out) hb); have n3_ := Aside0.mk (below_step (qW HB.out) hb); clear BK143 BK144 BK145 HB; have BK143 := n0_; have BK144 := n1_; have BK145 := n2_; have HB := n3_; clear n0_ n1_ n2_ n3_; (try clear hb); (try clear hb2); (try clear hk); (try clear hi)))
          go_ret
          exact ⟨by first | rfl | (simp [errW_none, errW_some] <;> rfl) | (simp [*, errW_none, errW_some] <;> rfl), by repeat (first | (with_reducible first | exact HB.out | apply below_alloc | apply pw_below_drewN | apply below_drew1 | refine below_set ?_ GE143.out | refine below_set ?_ GE144.out | refine below_set ?_ GE145.out) | exact HB.out)⟩
        ·rw [if_neg c30] at H
         have c30b0 : (t146 == 2) = false := beq_eq_false_iff_ne.mpr c30
         have c30b1 : (t146 != 2) = true := bne_iff_ne.mpr c30
         obtain rfl := Option.some.inj H
         have hnb56 := NB145_143.out
         have hnc56 := NB143_145.out
         have hnb57 := NB145_144.out
         have hnc57 := NB144_145.out
         have hcz58_0 : wc.cell? ⟨gb145, 0, none⟩ = some (.int .u8 a2_0) := (blk_cell BK145.out 0).trans rfl
         have hcz58_1 : wc.cell? ⟨gb145, 1, none⟩ = some (.int .u16 a2_1) := (blk_cell BK145.out 1).trans rfl
         have hfz58_0 := blk_frozen BK145.out 0
         have hfz58_1 := blk_frozen BK145.out 1
         have hnb59 := NB143_144.out
         have hnc59 := NB144_143.out
         have hcz60_0 : wc.cell? ⟨gb143, 0, none⟩ = some (.slice A0_0 l0_0.length c0_0) := (blk_cell BK143.out 0).trans rfl
         have hcz60_1 : wc.cell? ⟨gb143, 1, none⟩ = some (.slice A0_1 l0_1.length c0_1) := (blk_cell BK143.out 1).trans rfl
         have hcz60_2 : wc.cell? ⟨gb143, 2, none⟩ = some (.slice A0_2 l0_2.length c0_2) := (blk_cell BK143.out 2).trans rfl
         have hcz60_3 : wc.cell? ⟨gb143, 3, none⟩ = some (.slice A0_3 l0_3.length c0_3) := (blk_cell BK143.out 3).trans rfl
         have hfz60_0 := blk_frozen BK143.out 0
         have hfz60_1 := blk_frozen BK143.out 1
         have hfz60_2 := blk_frozen BK143.out 2
         have hfz60_3 := blk_frozen BK143.out 3
         go_wp2_with (first | (go_at_call 80; (with_reducible refine (hier_iface.calls _ _ l0_0 _ _ l0_1 _ _ l0_2 _ _ l0_3 (wrap64 (a2_1)) false _ ?side1 ?side2 ?side3 ?side4 ?side5 ?side6 ?side7 ?side8 A22.out).mono ?_); (case side1 => exact qC (Kd.C_below HR0_0.out HB.out)); (case side2 => exact HC0_0.out); (case side3 => exact qC (Kd.C_below HR0_1.out HB.out)); (case side4 => exact HC0_1.out); (case side5 => exact qC (Kd.C_below HR0_2.out HB.out)); (case side6 => exact HC0_2.out); (case side7 => exact qC (Kd.C_below HR0_3.out HB.out)); (case side8 => exact HC0_3.out); rintro e w61 ⟨rfl, hb⟩; have n0_ := Aside0.mk (blk_below (qb BK143.out) hb); have n1_ := Aside0.mk (blk_below (qb BK144.out) hb); have n2_ := Aside0.mk (blk_below (qb BK145.out) hb); have n3_ := Aside0.mk (below_step (qW HB.out) hb); clear BK143 BK144 BK145 HB; have BK143 := n0_; have BK144 := n1_; have BK145 := n2_; have HB := n3_; clear n0_ n1_ n2_ n3_; (try clear hb); (try clear hb2); (try clear hk); (try clear hi)))
         go_ret
         exact ⟨by first | rfl | (simp [errW_none, errW_some] <;> rfl) | (simp [*, errW_none, errW_some] <;> rfl), by repeat (first | (with_reducible first | exact HB.out | apply below_alloc | apply pw_below_drewN | apply below_drew1 | refine below_set ?_ GE143.out | refine below_set ?_ GE144.out | refine below_set ?_ GE145.out) | exact HB.out)⟩
     ·rw [if_neg c17] at H
      have c17b0 : (t147 == 2) = false := beq_eq_false_iff_ne.mpr c17
      have c17b1 : (t147 != 2) = true := bne_iff_ne.mpr c17
      by_cases c62 : t147 = 3
      ·rw [if_pos c62] at H
       have c62b0 : (t147 == 3) = true := beq_iff_eq.mpr c62
       have c62b1 : (t147 != 3) = false := bne_eq_false_iff_eq.mpr c62
       clear c62
       obtain rfl := Option.some.inj H
       have hnb63 := NB144_143.out
       have hnc63 := NB143_144.out
       have hnb64 := NB144_145.out
       have hnc64 := NB145_144.out
       have hcz65_0 : wc.cell? ⟨gb144, 0, none⟩ = some (.int .u8 a1_0) := (blk_cell BK144.out 0).trans rfl
       have hcz65_1 : wc.cell? ⟨gb144, 1, none⟩ = some (.int .u16 a1_1) := (blk_cell BK144.out 1).trans rfl
       have hfz65_0 := blk_frozen BK144.out 0
       have hfz65_1 := blk_frozen BK144.out 1
       have hnb66 := NB145_143.out
       have hnc66 := NB143_145.out
       have hcz67_0 : wc.cell? ⟨gb145, 0, none⟩ = some (.int .u8 a2_0) := (blk_cell BK145.out 0).trans rfl
       have hcz67_1 : wc.cell? ⟨gb145, 1, none⟩ = some (.int .u16 a2_1) := (blk_cell BK145.out 1).trans rfl
       have hfz67_0 := blk_frozen BK145.out 0
       have hfz67_1 := blk_frozen BK145.out 1
       go_wp2
       go_ret
       exact ⟨by first | rfl | (simp [errW_none, errW_some] <;> rfl) | (simp [*, errW_none, errW_some] <;> rfl), by repeat (first | (with_reducible first | exact HB.out | apply below_alloc | apply pw_below_drewN | apply below_drew1 | refine below_set ?_ GE143.out | refine below_set ?_ GE144.out | refine below_set ?_ GE145.out) | exact HB.out)⟩
      ·rw [if_neg c62] at H
       have c62b0 : (t147 == 3) = false := beq_eq_false_iff_ne.mpr c62
       have c62b1 : (t147 != 3) = true := bne_iff_ne.mpr c62
       by_cases c68 : t146 = 4
       ·rw [if_pos c68] at H
        have c68b0 : (t146 == 4) = true := beq_iff_eq.mpr c68
        have c68b1 : (t146 != 4) = false := bne_eq_false_iff_eq.mpr c68
        clear c68
        by_cases c69 : a2_1 = 0
        ·rw [if_pos c69] at H
         have c69b0 : (a2_1 == 0) = true := beq_iff_eq.mpr c69
         have c69b1 : (a2_1 != 0) = false := bne_eq_false_iff_eq.mpr c69
         clear c69
         obtain rfl := Option.some.inj H
         have hnb70 := NB145_143.out
         have hnc70 := NB143_145.out
         have hnb71 := NB145_144.out
         have hnc71 := NB144_145.out
         have hcz72_0 : wc.cell? ⟨gb145, 0, none⟩ = some (.int .u8 a2_0) := (blk_cell BK145.out 0).trans rfl
         have hcz72_1 : wc.cell? ⟨gb145, 1, none⟩ = some (.int .u16 a2_1) := (blk_cell BK145.out 1).trans rfl
         have hfz72_0 := blk_frozen BK145.out 0
         have hfz72_1 := blk_frozen BK145.out 1
         go_wp2
         go_ret
         exact ⟨by first | rfl | (simp [errW_none, errW_some] <;> rfl) | (simp [*, errW_none, errW_some] <;> rfl), by repeat (first | (with_reducible first | exact HB.out | apply below_alloc | apply pw_below_drewN | apply below_drew1 | refine below_set ?_ GE143.out | refine below_set ?_ GE144.out | refine below_set ?_ GE145.out) | exact HB.out)⟩
        ·rw [if_neg c69] at H
         have c69b0 : (a2_1 == 0) = false := beq_eq_false_iff_ne.mpr c69
         have c69b1 : (a2_1 != 0) = true := bne_iff_ne.mpr c69
         replace H := Option.bind_eq_some_iff.mp H
         obtain ⟨t151, A730, H⟩ := H
         replace H : (some t151) = some r := H
         have A73 := Aside0.mk A730
         clear A730
         obtain rfl := Option.some.inj H
         have hnb74 := NB145_143.out
         have hnc74 := NB143_145.out
         have hnb75 := NB145_144.out
         have hnc75 := NB144_145.out
         have hcz76_0 : wc.cell? ⟨gb145, 0, none⟩ = some (.int .u8 a2_0) := (blk_cell BK145.out 0).trans rfl
         have hcz76_1 : wc.cell? ⟨gb145, 1, none⟩ = some (.int .u16 a2_1) := (blk_cell BK145.out 1).trans rfl
         have hfz76_0 := blk_frozen BK145.out 0
         have hfz76_1 := blk_frozen BK145.out 1
         have hnb77 := NB143_144.out
         have hnc77 := NB144_143.out
         have hcz78_0 : wc.cell? ⟨gb143, 0, none⟩ = some (.slice A0_0 l0_0.length c0_0) := (blk_cell BK143.out 0).trans rfl
         have hcz78_1 : wc.cell? ⟨gb143, 1, none⟩ = some (.slice A0_1 l0_1.length c0_1) := (blk_cell BK143.out 1).trans rfl
         have hcz78_2 : wc.cell? ⟨gb143, 2, none⟩ = some (.slice A0_2 l0_2.length c0_2) := (blk_cell BK143.out 2).trans rfl
         have hcz78_3 : wc.cell? ⟨gb143, 3, none⟩ = some (.slice A0_3 l0_3.length c0_3) := (blk_cell BK143.out 3).trans rfl
         have hfz78_0 := blk_frozen BK143.out 0
         have hfz78_1 := blk_frozen BK143.out 1
         have hfz78_2 := blk_frozen BK143.out 2
         have hfz78_3 := blk_frozen BK143.out 3
         have hcz79_0 : wc.cell? ⟨gb144, 0, none⟩ = some (.int .u8 a1_0) := (blk_cell BK144.out 0).trans rfl
         have hcz79_1 : wc.cell? ⟨gb144, 1, none⟩ = some (.int .u16 a1_1) := (blk_cell BK144.out 1).trans rfl
         have hfz79_0 := blk_frozen BK144.out 0
         have hfz79_1 := blk_frozen BK144.out 1
         go_wp2_with (first | (go_at_call 41; (with_reducible refine (hier_From.calls _ _ l0_0 _ _ l0_1 _ _ l0_2 _ _ l0_3 (wrap64 (a1_1)) (wrap64 (a2_1)) t151 _ ?side1 ?side2 ?side3 ?side4 ?side5 ?side6 ?side7 ?side8 A73.out).mono ?_); (case side1 => exact qC (Kd.C_below HR0_0.out HB.out)); (case side2 => exact HC0_0.out); (case side3 => exact qC (Kd.C_below HR0_1.out HB.out)); (case side4 => exact HC0_1.out); (case side5 => exact qC (Kd.C_below HR0_2.out HB.out)); (case side6 => exact HC0_2.out); (case side7 => exact qC (Kd.C_below HR0_3.out HB.out)); (case side8 => exact HC0_3.out); rintro e w80 ⟨rfl, hb⟩; have n0_ := Aside0.mk (blk_below (qb BK143.out) hb); have n1_ := Aside0.mk (blk_below (qb BK144.out) hb); have n2_ := Aside0.mk (blk_below (qb BK145.out) hb); have n3_ := Aside0.mk (below_step (qW HB.out) hb); clear BK143 BK144 BK145 HB; have BK143 := n0_; have BK144 := n1_; have BK145 := n2_; have HB := n3_; clear n0_ n1_ n2_ n3_; (try clear hb); (try clear hb2); (try clear hk); (try clear hi)))
         go_ret
         exact ⟨by first | rfl | (simp [errW_none, errW_some] <;> rfl) | (simp [*, errW_none, errW_some] <;> rfl), by repeat (first | (with_reducible first | exact HB.out | apply below_alloc | apply pw_below_drewN | apply below_drew1 | refine below_set ?_ GE143.out | refine below_set ?_ GE144.out | refine below_set ?_ GE145.out) | exact HB.out)⟩
       ·rw [if_neg c68] at H
        have c68b0 : (t146 == 4) = false := beq_eq_false_iff_ne.mpr c68
        have c68b1 : (t146 != 4) = true := bne_iff_ne.mpr c68
        obtain rfl := Option.some.inj H
        go_wp2
        go_ret
        exact ⟨by first | rfl | (simp [errW_none, errW_some] <;> rfl) | (simp [*, errW_none, errW_some] <;> rfl), by repeat (first | (with_reducible first | exact HB.out | apply below_alloc | apply pw_below_drewN | apply below_drew1 | refine below_set ?_ GE143.out | refine below_set ?_ GE144.out | refine below_set ?_ GE145.out) | exact HB.out)⟩

end Go.Proofs.Ytjknnifcbcdjiaa.PValsAny
