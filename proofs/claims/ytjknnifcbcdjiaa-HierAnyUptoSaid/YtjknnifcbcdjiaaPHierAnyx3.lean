/- Printed by a program of this session (pr.py). -/
import Derived.Test.YtjknnifcbcdjiaaPHierAnyx0
import Derived.Test.YtjknnifcbcdjiaaPHierAnyx1
import Derived.Test.YtjknnifcbcdjiaaPHierAnyx2
import Derived.Test.YtjknnifcbcdjiaaWorldW
import Derived.Test.YtjknnifcbcdjiaaShort
namespace Go.Proofs.Ytjknnifcbcdjiaa.PHierAny
open Go.RowKit Go.Proofs.YtjknnifcbcdjiaaW.PrintWords Go.Proofs.YtjknnifcbcdjiaaW.PrintLast Go.Proofs.YtjknnifcbcdjiaaW.PrintMore Go.Proofs.Ytjknnifcbcdjiaa.Short
attribute [local go_sem] max2_int min2_int max_two min_two max_three min_three max_four min_four   -- for this text's walks alone
set_option linter.unusedVariables false
set_option linter.unusedSimpArgs false

attribute [local go_sem high] eqA32
/-! ### hier_Fits: function 45 -/
def hier_Fits.j0 : Nat → Int → Int → Bool → List (S103) → List (S38) → List (S206) → List (S117) → Int → Int → Int → Int → Option (Bool)
 | 0, _, _, _, _, _, _, _, _, _, _, _ => none
 | k + 1, x7, x8, x16, x120000, x120001, x120002, x120003, x121000, x121001, x122000, x122001 => if x16 = true then (some false) else (if x8 = 1 then (some true) else (if x8 = 2 then (if x122001 = 0 then (some true) else ((hier_iface.f x120000 x120001 x120002 x120003 (wrap64 (x122001))).bind fun t124 => (if t124 = true then (some true) else (if x7 = 2 then ((hier_iface.f x120000 x120001 x120002 x120003 (wrap64 (x121001))).bind fun t125 => (if t125 = true then (some false) else ((hier_From.f x120000 x120001 x120002 x120003 (wrap64 (x121001)) (wrap64 (x122001))).bind fun t126 => (some t126)))) else (some false))))) else (if x8 = 3 then (some (x121000 == x122000 && (x121001 == x122001))) else (if x7 = 4 then (if x122001 = 0 then (some true) else ((hier_From.f x120000 x120001 x120002 x120003 (wrap64 (x121001)) (wrap64 (x122001))).bind fun t127 => (some t127))) else (some false)))))
def hier_Fits.f (k : Nat) (l0_0 : List (S103)) (l0_1 : List (S38)) (l0_2 : List (S206)) (l0_3 : List (S117)) (a1_0 : Int) (a1_1 : Int) (a2_0 : Int) (a2_1 : Int) : Option (Bool) := (hier_of.f k l0_0 l0_1 l0_2 l0_3 a1_0 a1_1).bind fun t122 => ((hier_of.f k l0_0 l0_1 l0_2 l0_3 a2_0 a2_1).bind fun t123 => (if t122 = 0 then (hier_Fits.j0 k t122 t123 true l0_0 l0_1 l0_2 l0_3 a1_0 a1_1 a2_0 a2_1) else (if t123 = 0 then (hier_Fits.j0 k t122 t123 true l0_0 l0_1 l0_2 l0_3 a1_0 a1_1 a2_0 a2_1) else (hier_Fits.j0 k t122 t123 ((t122 == 1) != (t123 == 1)) l0_0 l0_1 l0_2 l0_3 a1_0 a1_1 a2_0 a2_1))))
theorem hier_Fits.mono_l : ∀ k, (∀ y0 y1 y2 y3 y4 y5 y6 y7 y8 y9 y10, LeO (hier_Fits.j0 k y0 y1 y2 y3 y4 y5 y6 y7 y8 y9 y10) (hier_Fits.j0 (k + 1) y0 y1 y2 y3 y4 y5 y6 y7 y8 y9 y10))
 | 0 => fun _ _ _ _ _ _ _ _ _ _ _ r h => by simp [hier_Fits.j0] at h
 | k + 1 => by
  have ih0 := hier_Fits.mono_l k
  ·intro y0 y1 y2 y3 y4 y5 y6 y7 y8 y9 y10
   unfold hier_Fits.j0
   repeat' first
   | (with_reducible exact ih0 _ _ _ _ _ _ _ _ _ _ _)
   | (with_reducible exact hier_of.mono _ _ _ _ _ _ _)
   | (with_reducible exact LeO.refl _)
   | (with_reducible exact LeO.none _)
   | (with_reducible refine LeO.ite ?_ ?_)
   | (with_reducible refine LeO.bind ?_ (fun _ => ?_))
   | exact ih0 _ _ _ _ _ _ _ _ _ _ _
   | exact hier_of.mono _ _ _ _ _ _ _
   | exact LeO.none _
   | refine LeO.ite ?_ ?_
   | refine LeO.bind ?_ (fun _ => ?_)
theorem hier_Fits.mono : ∀ a0 a1 a2 a3 a4 a5 a6 a7 k, LeO (hier_Fits.f k a0 a1 a2 a3 a4 a5 a6 a7) (hier_Fits.f (k + 1) a0 a1 a2 a3 a4 a5 a6 a7) := by
 intro a0 a1 a2 a3 a4 a5 a6 a7 k
 have ih0 := hier_Fits.mono_l k
 unfold hier_Fits.f
 repeat' first
   | (with_reducible exact ih0 _ _ _ _ _ _ _ _ _ _ _)
   | (with_reducible exact hier_of.mono _ _ _ _ _ _ _)
   | (with_reducible exact LeO.refl _)
   | (with_reducible exact LeO.none _)
   | (with_reducible refine LeO.ite ?_ ?_)
   | (with_reducible refine LeO.bind ?_ (fun _ => ?_))
   | exact ih0 _ _ _ _ _ _ _ _ _ _ _
   | exact hier_of.mono _ _ _ _ _ _ _
   | exact LeO.none _
   | refine LeO.ite ?_ ?_
   | refine LeO.bind ?_ (fun _ => ?_)
def hier_Fits.T1 : Bool × List (List Nat × List Nat) := (true, [([], []), ([], []), ([0, 1], [0, 1]), ([], []), ([], []), ([3, 4, 2], [3, 4]), ([2, 5, 0, 1, 2], [2]), ([5, 6, 0, 1, 2, 3, 4, 5, 6], [5])])
def hier_Fits.B1 : List Nat := [0, 0, 3, 0, 0, 31, 63, 127]
theorem hier_Fits.tab1 : rtab .any (opsOf Try.f45 1) = hier_Fits.T1 := by kernel_rfl
theorem hier_Fits.bits1 : waitsOk hier_Fits.T1.2 hier_Fits.B1 = true := by kernel_rfl
set_option maxHeartbeats 8000000 in
set_option maxRecDepth 100000 in
theorem hier_Fits.calls (k : Nat) (A0_0 : Option Addr) (c0_0 : Nat) (l0_0 : List (S103)) (A0_1 : Option Addr) (c0_1 : Nat) (l0_1 : List (S38)) (A0_2 : Option Addr) (c0_2 : Nat) (l0_2 : List (S206)) (A0_3 : Option Addr) (c0_3 : Nat) (l0_3 : List (S117)) (a1_0 : Int) (a1_1 : Int) (a2_0 : Int) (a2_1 : Int) (r : Bool) (w : World) (hr0_0 : Kd.C k103 w A0_0 l0_0.length l0_0) (hc0_0 : l0_0.length ≤ c0_0) (hr0_1 : Kd.C k38 w A0_1 l0_1.length l0_1) (hc0_1 : l0_1.length ≤ c0_1) (hr0_2 : Kd.C k206 w A0_2 l0_2.length l0_2) (hc0_2 : l0_2.length ≤ c0_2) (hr0_3 : Kd.C k117 w A0_3 l0_3.length l0_3) (hc0_3 : l0_3.length ≤ c0_3) (h : hier_Fits.f k l0_0 l0_1 l0_2 l0_3 a1_0 a1_1 a2_0 a2_1 = some r) :
  Calls Try.prog 45 #[.agg #[.slice A0_0 l0_0.length c0_0, .slice A0_1 l0_1.length c0_1, .slice A0_2 l0_2.length c0_2, .slice A0_3 l0_3.length c0_3], .agg #[.int .u8 a1_0, .int .u16 a1_1], .agg #[.int .u8 a2_0, .int .u16 a2_1]] w fun e w' => e = .returned (.bool r) ∧ Below w.heap.size w w' := by
 have hu27 := Try.underlying27
 have hu32 := Try.underlying32
 have HR0_0 := Aside0.mk hr0_0
 have HC0_0 := Aside0.mk hc0_0
 clear hr0_0 hc0_0
 have HR0_1 := Aside0.mk hr0_1
 have HC0_1 := Aside0.mk hc0_1
 clear hr0_1 hc0_1
 have HR0_2 := Aside0.mk hr0_2
 have HC0_2 := Aside0.mk hc0_2
 clear hr0_2 hc0_2
 have HR0_3 := Aside0.mk hr0_3
 have HC0_3 := Aside0.mk hc0_3
 clear hr0_3 hc0_3
 have HB := Aside0.mk (Below.refl w.heap.size w)
 have H : ((hier_of.f k l0_0 l0_1 l0_2 l0_3 a1_0 a1_1).bind fun t122 => ((hier_of.f k l0_0 l0_1 l0_2 l0_3 a2_0 a2_1).bind fun t123 => (if t122 = 0 then (hier_Fits.j0 k t122 t123 true l0_0 l0_1 l0_2 l0_3 a1_0 a1_1 a2_0 a2_1) else (if t123 = 0 then (hier_Fits.j0 k t122 t123 true l0_0 l0_1 l0_2 l0_3 a1_0 a1_1 a2_0 a2_1) else (hier_Fits.j0 k t122 t123 ((t122 == 1) != (t123 == 1)) l0_0 l0_1 l0_2 l0_3 a1_0 a1_1 a2_0 a2_1))))) = some r := h
 clear h
 replace H := Option.bind_eq_some_iff.mp H
 obtain ⟨t122, A40, H⟩ := H
 replace H : ((hier_of.f k l0_0 l0_1 l0_2 l0_3 a2_0 a2_1).bind fun t123 => (if t122 = 0 then (hier_Fits.j0 k t122 t123 true l0_0 l0_1 l0_2 l0_3 a1_0 a1_1 a2_0 a2_1) else (if t123 = 0 then (hier_Fits.j0 k t122 t123 true l0_0 l0_1 l0_2 l0_3 a1_0 a1_1 a2_0 a2_1) else (hier_Fits.j0 k t122 t123 ((t122 == 1) != (t123 == 1)) l0_0 l0_1 l0_2 l0_3 a1_0 a1_1 a2_0 a2_1)))) = some r := H
 have A4 := Aside0.mk A40
 clear A40
 replace H := Option.bind_eq_some_iff.mp H
 obtain ⟨t123, A50, H⟩ := H
 replace H : (if t122 = 0 then (hier_Fits.j0 k t122 t123 true l0_0 l0_1 l0_2 l0_3 a1_0 a1_1 a2_0 a2_1) else (if t123 = 0 then (hier_Fits.j0 k t122 t123 true l0_0 l0_1 l0_2 l0_3 a1_0 a1_1 a2_0 a2_1) else (hier_Fits.j0 k t122 t123 ((t122 == 1) != (t123 == 1)) l0_0 l0_1 l0_2 l0_3 a1_0 a1_1 a2_0 a2_1))) = some r := H
 have A5 := Aside0.mk A50
 clear A50
 have HC6 := Aside0.mk H
 clear H
 go_enter Try.func45, Try.ntmps45
 try go_wp2_with (first | ((with_reducible refine gate_dst (N := 3) rfl ?_); refine box_event ?hg (N := 3) ?hd (cs := #[.slice A0_0 l0_0.length c0_0, .slice A0_1 l0_1.length c0_1, .slice A0_2 l0_2.length c0_2, .slice A0_3 l0_3.length c0_3]) (t := 27) ?hr ?_; (case hd => rfl); (case hg => rfl); (case hr => first | (go_simp; done) | (go_simp; rfl)); intro gb119 hg w7 hbox hb; have n0_ := Aside0.mk (below_step (qW HB.out) hb); have n1_ := Aside0.mk (hbox); have n2_ := Aside0.mk ((by rw [hg]; exact (below_size (qW HB.out)) : w.heap.size ≤ gb119)); have n3_ := Aside0.mk ((by rw [hg]; exact (below_size (qW HB.out)) : w.heap.size ≤ gb119)); clear HB; have HB := n0_; have BK119 := n1_; have GW119 := n2_; have GE119 := n3_; clear n0_ n1_ n2_ n3_; clear hb hbox hg) | ((with_reducible refine gate_dst (N := 4) rfl ?_); refine box_event ?hg (N := 4) ?hd (cs := #[.int .u8 a1_0, .int .u16 a1_1]) (t := 32) ?hr ?_; (case hd => rfl); (case hg => rfl); (case hr => first | (go_simp; done) | (go_simp; rfl)); intro gb120 hg w8 hbox hb; have n0_ := Aside0.mk (blk_below (qb BK119.out) hb); have n1_ := Aside0.mk (below_step (qW HB.out) hb); have n2_ := Aside0.mk (hbox); have n3_ := Aside0.mk ((by rw [hg]; exact (below_size (qW HB.out)) : w.heap.size ≤ gb120)); have n4_ := Aside0.mk ((by rw [hg]; exact (below_size (qW HB.out)) : w.heap.size ≤ gb120)); have n5_ := Aside0.mk ((by rw [hg]; exact Nat.ne_of_lt (blk_lt (qb BK119.out)) : gb119 ≠ gb120)); have n6_ := Aside0.mk ((by rw [hg]; exact Nat.ne_of_gt (blk_lt (qb BK119.out)) : gb120 ≠ gb119)); clear BK119 HB; have BK119 := n0_; have HB := n1_; have BK120 := n2_; have GW120 := n3_; have GE120 := n4_; have NB119_120 := n5_; have NB120_119 := n6_; clear n0_ n1_ n2_ n3_ n4_ n5_ n6_; clear hb hbox hg) | ((with_reducible refine gate_dst (N := 5) rfl ?_); refine box_event ?hg (N := 5) ?hd (cs := #[.int .u8 a2_0, .int .u16 a2_1]) (t := 32) ?hr ?_; (case hd => rfl); (case hg => rfl); (case hr => first | (go_simp; done) | (go_simp; rfl)); intro gb121 hg w9 hbox hb; have n0_ := Aside0.mk (blk_below (qb BK119.out) hb); have n1_ := Aside0.mk (blk_below (qb BK120.out) hb); have n2_ := Aside0.mk (below_step (qW HB.out) hb); have n3_ := Aside0.mk (hbox); have n4_ := Aside0.mk ((by rw [hg]; exact (below_size (qW HB.out)) : w.heap.size ≤ gb121)); have n5_ := Aside0.mk ((by rw [hg]; exact (below_size (qW HB.out)) : w.heap.size ≤ gb121)); have n6_ := Aside0.mk ((by rw [hg]; exact Nat.ne_of_lt (blk_lt (qb BK119.out)) : gb119 ≠ gb121)); have n7_ := Aside0.mk ((by rw [hg]; exact Nat.ne_of_gt (blk_lt (qb BK119.out)) : gb121 ≠ gb119)); have n8_ := Aside0.mk ((by rw [hg]; exact Nat.ne_of_lt (blk_lt (qb BK120.out)) : gb120 ≠ gb121)); have n9_ := Aside0.mk ((by rw [hg]; exact Nat.ne_of_gt (blk_lt (qb BK120.out)) : gb121 ≠ gb120)); clear BK119 BK120 HB; have BK119 := n0_; have BK120 := n1_; have HB := n2_; have BK121 := n3_; have GW121 := n4_; have GE121 := n5_; have NB119_121 := n6_; have NB121_119 := n7_; have NB120_121 := n8_; have NB121_120 := n9_; clear n0_ n1_ n2_ n3_ n4_ n5_ n6_ n7_ n8_ n9_; clear hb hbox hg))
 have n0_ := Aside0.mk (blk_drew BK119.out)
 have n1_ := Aside0.mk (blk_drew BK120.out)
 have n2_ := Aside0.mk (blk_drew BK121.out)
 have n3_ := Aside0.mk (below_drew1 HB.out)
 clear BK119
 clear BK120
 clear BK121
 clear HB
 have BK119 := n0_
 have BK120 := n1_
 have BK121 := n2_
 have HB := n3_
 clear n0_ n1_ n2_ n3_
 refine start_ (n := 8) (S := fun w' => w'.cell? ⟨gb119, 0, none⟩ = some (.slice A0_0 l0_0.length c0_0) ∧ w'.cell? ⟨gb119, 1, none⟩ = some (.slice A0_1 l0_1.length c0_1) ∧ w'.cell? ⟨gb119, 2, none⟩ = some (.slice A0_2 l0_2.length c0_2) ∧ w'.cell? ⟨gb119, 3, none⟩ = some (.slice A0_3 l0_3.length c0_3) ∧ w'.cell? ⟨gb120, 0, none⟩ = some (.int .u8 a1_0) ∧ w'.cell? ⟨gb120, 1, none⟩ = some (.int .u16 a1_1) ∧ w'.cell? ⟨gb121, 0, none⟩ = some (.int .u8 a2_0) ∧ w'.cell? ⟨gb121, 1, none⟩ = some (.int .u16 a2_1)) (ds := []) #[false, false, false, false, false, false, false, false] (by kernel_rfl) rfl rfl ⟨(blk_cell BK119.out 0).trans rfl, (blk_cell BK119.out 1).trans rfl, (blk_cell BK119.out 2).trans rfl, (blk_cell BK119.out 3).trans rfl, (blk_cell BK120.out 0).trans rfl, (blk_cell BK120.out 1).trans rfl, (blk_cell BK121.out 0).trans rfl, (blk_cell BK121.out 1).trans rfl⟩ (fun hHeld => ?_); refine with_tabW hier_Fits.tab1 hier_Fits.bits1 (fun HT_ HW_ => ?_)
 generalize w9.drew = w10 at BK119 BK120 BK121 HB hHeld ⊢
 refine take_ (i := 0) (N := some 10) (v := ?_) (a' := ?_) #[true, false, false, false, false, false, false, false] rfl rfl (take_ofW HT_.out HW_.out (by kernel_rfl)) (fun _ _ _ h => h) (Or.inl ⟨by rfl, ?_⟩) hHeld ?_ ?_
 rotate_left
 ·rintro w' ⟨s0, s1, s2, s3, s4, s5, s6, s7⟩
  go_simp
  with_reducible rfl
 rotate_left
 ·simp only [Act.put, List.setIfInBounds_toArray, List.set_cons_zero, List.set_cons_succ, i64_w, i32_w]
  rfl
 refine take_ (i := 1) (N := some 11) (v := ?_) (a' := ?_) #[true, true, false, false, false, false, false, false] rfl rfl (take_ofW HT_.out HW_.out (by kernel_rfl)) (fun _ _ _ h => h) (Or.inl ⟨by rfl, ?_⟩) hHeld ?_ ?_
 rotate_left
 ·rintro w' ⟨s0, s1, s2, s3, s4, s5, s6, s7⟩
  go_simp
  with_reducible rfl
 rotate_left
 ·simp only [Act.put, List.setIfInBounds_toArray, List.set_cons_zero, List.set_cons_succ, i64_w, i32_w]
  rfl
 refine take_ (i := 3) (N := some 13) (v := ?_) (a' := ?_) #[true, true, false, true, false, false, false, false] rfl rfl (take_ofW HT_.out HW_.out (by kernel_rfl)) (fun _ _ _ h => h) (Or.inl ⟨by rfl, ?_⟩) hHeld ?_ ?_
 rotate_left
 ·rintro w' ⟨s0, s1, s2, s3, s4, s5, s6, s7⟩
  go_simp
  with_reducible rfl
 rotate_left
 ·simp only [Act.put, List.setIfInBounds_toArray, List.set_cons_zero, List.set_cons_succ, i64_w, i32_w]
  rfl
 refine take_ (i := 4) (N := some 14) (v := ?_) (a' := ?_) #[true, true, false, true, true, false, false, false] rfl rfl (take_ofW HT_.out HW_.out (by kernel_rfl)) (fun _ _ _ h => h) (Or.inl ⟨by rfl, ?_⟩) hHeld ?_ ?_
 rotate_left
 ·rintro w' ⟨s0, s1, s2, s3, s4, s5, s6, s7⟩
  go_simp
  with_reducible rfl
 rotate_left
 ·simp only [Act.put, List.setIfInBounds_toArray, List.set_cons_zero, List.set_cons_succ, i64_w, i32_w]
  rfl
 refine one_ (i := 2) (N := some 12) #[true, true, true, true, true, false, false, false] rfl rfl (one_of HT_.out (by kernel_rfl)) (by decide) (fun K hK => ?_)
 refine goes_ Try.func85 (by kernel_rfl) rfl #[.agg #[.slice A0_0 l0_0.length c0_0, .slice A0_1 l0_1.length c0_1, .slice A0_2 l0_2.length c0_2, .slice A0_3 l0_3.length c0_3], .agg #[.int .u8 a1_0, .int .u16 a1_1]] (by rfl) rfl rfl (by (try simp only [List.map_toArray, List.map_cons, List.map_nil]); first | done | rfl | (simp only [List.length_drop, List.length_take]; rfl)) ?_
 with_reducible refine (hier_of.calls k _ _ l0_0 _ _ l0_1 _ _ l0_2 _ _ l0_3 a1_0 a1_1 t122 _ ?side1 ?side2 ?side3 ?side4 ?side5 ?side6 ?side7 ?side8 A4.out).mono ?_
 (case side1 => exact qC (Kd.C_below HR0_0.out HB.out))
 (case side2 => exact HC0_0.out)
 (case side3 => exact qC (Kd.C_below HR0_1.out HB.out))
 (case side4 => exact HC0_1.out)
 (case side5 => exact qC (Kd.C_below HR0_2.out HB.out))
 (case side6 => exact HC0_2.out)
 (case side7 => exact qC (Kd.C_below HR0_3.out HB.out))
 (case side8 => exact HC0_3.out)
 rintro e w11 ⟨rfl, hb⟩
 refine ⟨_, rfl, ?_⟩
 have n0_ := Aside0.mk (blk_below (qb BK119.out) hb)
 have n1_ := Aside0.mk (blk_below (qb BK120.out) hb)
 have n2_ := Aside0.mk (blk_below (qb BK121.out) hb)
 have n3_ := Aside0.mk (below_step (qW HB.out) hb)
 clear BK119
 clear BK120
 clear BK121
 clear HB
 have BK119 := n0_
 have BK120 := n1_
 have BK121 := n2_
 have HB := n3_
 clear n0_ n1_ n2_ n3_
 (try clear hb)
 (try clear hb2)
 (try clear hk)
 (try clear hi)
 refine hK.out _ _ ⟨(blk_cell BK119.out 0).trans rfl, (blk_cell BK119.out 1).trans rfl, (blk_cell BK119.out 2).trans rfl, (blk_cell BK119.out 3).trans rfl, (blk_cell BK120.out 0).trans rfl, (blk_cell BK120.out 1).trans rfl, (blk_cell BK121.out 0).trans rfl, (blk_cell BK121.out 1).trans rfl⟩ (fun hHeld => ?_)
 clear hK K
 refine norm_ (a' := ?_) ?_ ?_
 rotate_left
 ·show Act.put _ (some 12) _ = _
  simp only [Act.put, List.setIfInBounds_toArray, List.set_cons_zero, List.set_cons_succ, i64_w, i32_w]
  rfl
 refine one_ (i := 5) (N := some 15) #[true, true, true, true, true, true, false, false] rfl rfl (one_of HT_.out (by kernel_rfl)) (by decide) (fun K hK => ?_)
 refine goes_ Try.func85 (by kernel_rfl) rfl #[.agg #[.slice A0_0 l0_0.length c0_0, .slice A0_1 l0_1.length c0_1, .slice A0_2 l0_2.length c0_2, .slice A0_3 l0_3.length c0_3], .agg #[.int .u8 a2_0, .int .u16 a2_1]] (by rfl) rfl rfl (by (try simp only [List.map_toArray, List.map_cons, List.map_nil]); first | done | rfl | (simp only [List.length_drop, List.length_take]; rfl)) ?_
 with_reducible refine (hier_of.calls k _ _ l0_0 _ _ l0_1 _ _ l0_2 _ _ l0_3 a2_0 a2_1 t123 _ ?side1 ?side2 ?side3 ?side4 ?side5 ?side6 ?side7 ?side8 A5.out).mono ?_
 (case side1 => exact qC (Kd.C_below HR0_0.out HB.out))
 (case side2 => exact HC0_0.out)
 (case side3 => exact qC (Kd.C_below HR0_1.out HB.out))
 (case side4 => exact HC0_1.out)
 (case side5 => exact qC (Kd.C_below HR0_2.out HB.out))
 (case side6 => exact HC0_2.out)
 (case side7 => exact qC (Kd.C_below HR0_3.out HB.out))
 (case side8 => exact HC0_3.out)
 rintro e w12 ⟨rfl, hb⟩
 refine ⟨_, rfl, ?_⟩
 have n0_ := Aside0.mk (blk_below (qb BK119.out) hb)
 have n1_ := Aside0.mk (blk_below (qb BK120.out) hb)
 have n2_ := Aside0.mk (blk_below (qb BK121.out) hb)
 have n3_ := Aside0.mk (below_step (qW HB.out) hb)
 clear BK119
 clear BK120
 clear BK121
 clear HB
 have BK119 := n0_
 have BK120 := n1_
 have BK121 := n2_
 have HB := n3_
 clear n0_ n1_ n2_ n3_
 (try clear hb)
 (try clear hb2)
 (try clear hk)
 (try clear hi)
 refine hK.out _ _ ⟨(blk_cell BK119.out 0).trans rfl, (blk_cell BK119.out 1).trans rfl, (blk_cell BK119.out 2).trans rfl, (blk_cell BK119.out 3).trans rfl, (blk_cell BK120.out 0).trans rfl, (blk_cell BK120.out 1).trans rfl, (blk_cell BK121.out 0).trans rfl, (blk_cell BK121.out 1).trans rfl⟩ (fun hHeld => ?_)
 clear hK K
 refine norm_ (a' := ?_) ?_ ?_
 rotate_left
 ·show Act.put _ (some 15) _ = _
  simp only [Act.put, List.setIfInBounds_toArray, List.set_cons_zero, List.set_cons_succ, i64_w, i32_w]
  rfl
 refine pure_ (i := 6) (N := some 7) (v := ?_) (a' := ?_) #[true, true, true, true, true, true, true, false] rfl rfl (any_of HT_.out (by kernel_rfl)) (fun _ _ _ h => h) (Or.inl ⟨by rfl, ?_⟩) ?_ ?_
 rotate_left
 ·intro w'
  go_simp
  with_reducible rfl
 rotate_left
 ·simp only [Act.put, List.setIfInBounds_toArray, List.set_cons_zero, List.set_cons_succ, i64_w, i32_w]
  rfl
 refine pure_ (i := 7) (N := some 8) (v := ?_) (a' := ?_) #[true, true, true, true, true, true, true, true] rfl rfl (any_of HT_.out (by kernel_rfl)) (fun _ _ _ h => h) (Or.inl ⟨by rfl, ?_⟩) ?_ ?_
 rotate_left
 ·intro w'
  go_simp
  with_reducible rfl
 rotate_left
 ·simp only [Act.put, List.setIfInBounds_toArray, List.set_cons_zero, List.set_cons_succ, i64_w, i32_w]
  rfl
 refine done_ (done_of HT_.out (by kernel_rfl)) ?_
 go_upto_region 2 with (fail)
 go_cut [16] (fun v16 wc => ∃ (kq : Nat) (x16_5 : Bool), v16 = .bool x16_5 ∧ Aside0 (hier_Fits.j0 kq t122 t123 x16_5 l0_0 l0_1 l0_2 l0_3 a1_0 a1_1 a2_0 a2_1 = some r) ∧ Aside0 (kq ≤ k) ∧ Aside0 (wc.heap[gb119]? = some (.cells #[(.slice A0_0 l0_0.length c0_0), (.slice A0_1 l0_1.length c0_1), (.slice A0_2 l0_2.length c0_2), (.slice A0_3 l0_3.length c0_3)] 27 (0, 0))) ∧ Aside0 (wc.heap[gb120]? = some (.cells #[.int .u8 a1_0, .int .u16 a1_1] 32 (0, 0))) ∧ Aside0 (wc.heap[gb121]? = some (.cells #[.int .u8 a2_0, .int .u16 a2_1] 32 (0, 0))) ∧ Aside0 (Below w.heap.size w wc))
 case first =>
  have H := HC6.out
  clear HC6
  by_cases c13 : t122 = 0
  ·rw [if_pos c13] at H
   have c13b0 : (t122 == 0) = true := beq_iff_eq.mpr c13
   have c13b1 : (t122 != 0) = false := bne_eq_false_iff_eq.mpr c13
   clear c13
   (first | rw [c13b0] | (simp only [i64_w, i32_w]; rw [c13b0]) | skip)
   have H' := Aside0.mk H
   clear H
   go_wp2
   go_meet
   case rel => exact ⟨_, (true), (by first | rfl | (simp; done) | (simp [*]; done)), H', ⟨by first | omega | exact Nat.le_refl _⟩, ⟨qf BK119.out⟩, ⟨qf BK120.out⟩, ⟨qf BK121.out⟩, ⟨qW HB.out⟩⟩
  ·rw [if_neg c13] at H
   have c13b0 : (t122 == 0) = false := beq_eq_false_iff_ne.mpr c13
   have c13b1 : (t122 != 0) = true := bne_iff_ne.mpr c13
   (first | rw [c13b0] | (simp only [i64_w, i32_w]; rw [c13b0]) | skip)
   by_cases c14 : t123 = 0
   ·rw [if_pos c14] at H
    have c14b0 : (t123 == 0) = true := beq_iff_eq.mpr c14
    have c14b1 : (t123 != 0) = false := bne_eq_false_iff_eq.mpr c14
    clear c14
    have H' := Aside0.mk H
    clear H
    go_wp2
    go_meet
    case rel => exact ⟨_, (true), (by first | rfl | (simp; done) | (simp [*]; done)), H', ⟨by first | omega | exact Nat.le_refl _⟩, ⟨qf BK119.out⟩, ⟨qf BK120.out⟩, ⟨qf BK121.out⟩, ⟨qW HB.out⟩⟩
   ·rw [if_neg c14] at H
    have c14b0 : (t123 == 0) = false := beq_eq_false_iff_ne.mpr c14
    have c14b1 : (t123 != 0) = true := bne_iff_ne.mpr c14
    have H' := Aside0.mk H
    clear H
    go_wp2
    go_meet
    case rel => exact ⟨_, (((t122 == 1) != (t123 == 1))), (by first | rfl | (simp; done) | (simp [*]; done)), H', ⟨by first | omega | exact Nat.le_refl _⟩, ⟨qf BK119.out⟩, ⟨qf BK120.out⟩, ⟨qf BK121.out⟩, ⟨qW HB.out⟩⟩
 case rest =>
  clear HC6
  try clear c1
  try clear p2
  try clear c4
  try clear c8
  try clear c13
  try clear c13b0
  try clear c13b1
  try clear c14
  try clear c14b0
  try clear c14b1
  obtain ⟨kq, x16_5, rfl, HA, HJ5, BK119, BK120, BK121, HB⟩ := hcut
  cases kq with
  | zero => exact absurd HA.out (by simp [hier_Fits.j0])
  | succ kj5 =>
   have H := HA.out
   clear HA
   simp only [hier_Fits.j0] at H
   by_cases c15 : x16_5 = true
   ·subst c15
    have H1 : (some false) = some r := by rw [if_pos rfl] at H; exact H
    clear H
    have H := H1
    clear H1
    obtain rfl := Option.some.inj H
    go_wp2
    go_ret
    exact ⟨by first | rfl | (simp [errW_none, errW_some] <;> rfl) | (simp [*, errW_none, errW_some] <;> rfl), by repeat (first | (with_reducible first | exact HB.out | apply below_alloc | apply pw_below_drewN | apply below_drew1 | refine below_set ?_ GE119.out | refine below_set ?_ GE120.out | refine below_set ?_ GE121.out) | exact HB.out)⟩
   ·replace c15 := Bool.eq_false_iff.mpr c15
    subst c15
    have H1 : (if t123 = 1 then (some true) else (if t123 = 2 then (if a2_1 = 0 then (some true) else ((hier_iface.f l0_0 l0_1 l0_2 l0_3 (wrap64 (a2_1))).bind fun t124 => (if t124 = true then (some true) else (if t122 = 2 then ((hier_iface.f l0_0 l0_1 l0_2 l0_3 (wrap64 (a1_1))).bind fun t125 => (if t125 = true then (some false) else ((hier_From.f l0_0 l0_1 l0_2 l0_3 (wrap64 (a1_1)) (wrap64 (a2_1))).bind fun t126 => (some t126)))) else (some false))))) else (if t123 = 3 then (some (a1_0 == a2_0 && (a1_1 == a2_1))) else (if t122 = 4 then (if a2_1 = 0 then (some true) else ((hier_From.f l0_0 l0_1 l0_2 l0_3 (wrap64 (a1_1)) (wrap64 (a2_1))).bind fun t127 => (some t127))) else (some false))))) = some r := by rw [if_neg (show ¬ (false = true) by decide)] at H; exact H
    clear H
    have H := H1
    clear H1
    by_cases c16 : t123 = 1
    ·rw [if_pos c16] at H
     have c16b0 : (t123 == 1) = true := beq_iff_eq.mpr c16
     have c16b1 : (t123 != 1) = false := bne_eq_false_iff_eq.mpr c16
     clear c16
     obtain rfl := Option.some.inj H
     go_wp2
     go_ret
     exact ⟨by first | rfl | (simp [errW_none, errW_some] <;> rfl) | (simp [*, errW_none, errW_some] <;> rfl), by repeat (first | (with_reducible first | exact HB.out | apply below_alloc | apply pw_below_drewN | apply below_drew1 | refine below_set ?_ GE119.out | refine below_set ?_ GE120.out | refine below_set ?_ GE121.out) | exact HB.out)⟩
    ·rw [if_neg c16] at H
     have c16b0 : (t123 == 1) = false := beq_eq_false_iff_ne.mpr c16
     have c16b1 : (t123 != 1) = true := bne_iff_ne.mpr c16
     by_cases c17 : t123 = 2
     ·rw [if_pos c17] at H
      have c17b0 : (t123 == 2) = true := beq_iff_eq.mpr c17
      have c17b1 : (t123 != 2) = false := bne_eq_false_iff_eq.mpr c17
      clear c17
      by_cases c18 : a2_1 = 0
      ·rw [if_pos c18] at H
       have c18b0 : (a2_1 == 0) = true := beq_iff_eq.mpr c18
       have c18b1 : (a2_1 != 0) = false := bne_eq_false_iff_eq.mpr c18
       clear c18
       obtain rfl := Option.some.inj H
       have hnb19 := NB121_119.out
       have hnc19 := NB119_121.out
       have hnb20 := NB121_120.out
       have hnc20 := NB120_121.out
       have hcz21_0 : wc.cell? ⟨gb121, 0, none⟩ = some (.int .u8 a2_0) := (blk_cell BK121.out 0).trans rfl
       have hcz21_1 : wc.cell? ⟨gb121, 1, none⟩ = some (.int .u16 a2_1) := (blk_cell BK121.out 1).trans rfl
       have hfz21_0 := blk_frozen BK121.out 0
       have hfz21_1 := blk_frozen BK121.out 1
       go_wp2
       go_ret
       exact ⟨by first | rfl | (simp [errW_none, errW_some] <;> rfl) | (simp [*, errW_none, errW_some] <;> rfl), by repeat (first | (with_reducible first | exact HB.out | apply below_alloc | apply pw_below_drewN | apply below_drew1 | refine below_set ?_ GE119.out | refine below_set ?_ GE120.out | refine below_set ?_ GE121.out) | exact HB.out)⟩
      ·rw [if_neg c18] at H
       have c18b0 : (a2_1 == 0) = false := beq_eq_false_iff_ne.mpr c18
       have c18b1 : (a2_1 != 0) = true := bne_iff_ne.mpr c18
       replace H := Option.bind_eq_some_iff.mp H
       obtain ⟨t124, A220, H⟩ := H
       replace H : (if t124 = true then (some true) else (if t122 = 2 then ((hier_iface.f l0_0 l0_1 l0_2 l0_3 (wrap64 (a1_1))).bind fun t125 => (if t125 = true then (some false) else ((hier_From.f l0_0 l0_1 l0_2 l0_3 (wrap64 (a1_1)) (wrap64 (a2_1))).bind fun t126 => (some t126)))) else (some false))) = some r := H
       have A22 := Aside0.mk A220
       clear A220
       by_cases c23 : t124 = true
       ·subst c23
        have H1 : (some true) = some r := by rw [if_pos rfl] at H; exact H
        clear H
        have H := H1
        clear H1
        obtain rfl := Option.some.inj H
        have hnb24 := NB121_119.out
        have hnc24 := NB119_121.out
        have hnb25 := NB121_120.out
        have hnc25 := NB120_121.out
        have hcz26_0 : wc.cell? ⟨gb121, 0, none⟩ = some (.int .u8 a2_0) := (blk_cell BK121.out 0).trans rfl
        have hcz26_1 : wc.cell? ⟨gb121, 1, none⟩ = some (.int .u16 a2_1) := (blk_cell BK121.out 1).trans rfl
        have hfz26_0 := blk_frozen BK121.out 0
        have hfz26_1 := blk_frozen BK121.out 1
        have hnb27 := NB119_120.out
        have hnc27 := NB120_119.out
        have hcz28_0 : wc.cell? ⟨gb119, 0, none⟩ = some (.slice A0_0 l0_0.length c0_0) := (blk_cell BK119.out 0).trans rfl
        have hcz28_1 : wc.cell? ⟨gb119, 1, none⟩ = some (.slice A0_1 l0_1.length c0_1) := (blk_cell BK119.out 1).trans rfl
        have hcz28_2 : wc.cell? ⟨gb119, 2, none⟩ = some (.slice A0_2 l0_2.length c0_2) := (blk_cell BK119.out 2).trans rfl
        have hcz28_3 : wc.cell? ⟨gb119, 3, none⟩ = some (.slice A0_3 l0_3.length c0_3) := (blk_cell BK119.out 3).trans rfl
        have hfz28_0 := blk_frozen BK119.out 0
        have hfz28_1 := blk_frozen BK119.out 1
        have hfz28_2 := blk_frozen BK119.out 2
        have hfz28_3 := blk_frozen BK119.out 3
        go_wp2_with (first | (go_at_call 80; (with_reducible refine (hier_iface.calls _ _ l0_0 _ _ l0_1 _ _ l0_2 _ _ l0_3 (wrap64 (a2_1)) true _ ?side1 ?side2 ?side3 ?side4 ?side5 ?side6 ?side7 ?side8 A22.out).mono ?_); (case side1 => exact qC (Kd.C_below HR0_0.out HB.out)); (case side2 => exact HC0_0.out); (case side3 => exact qC (Kd.C_below HR0_1.out HB.out)); (case side4 => exact HC0_1.out); (case side5 => exact qC (Kd.C_below HR0_2.out HB.out)); (case side6 => exact HC0_2.out); (case side7 => exact qC (Kd.C_below HR0_3.out HB.out)); (case side8 => exact HC0_3.out); rintro e w29 ⟨rfl, hb⟩; have n0_ := Aside0.mk (blk_below (qb BK119.out) hb); have n1_ := Aside0.mk (blk_below (qb BK120.out) hb); have n2_ := Aside0.mk (blk_below (qb BK121.out) hb); have n3_ := Aside0.mk (below_step (qW HB.out) hb); clear BK119 BK120 BK121 HB; have BK119 := n0_; have BK120 := n1_; have BK121 := n2_; have HB := n3_; clear n0_ n1_ n2_ n3_; (try clear hb); (try clear hb2); (try clear hk); (try clear hi)))
        go_ret
        exact ⟨by first | rfl | (simp [errW_none, errW_some] <;> rfl) | (simp [*, errW_none, errW_some] <;> rfl), by repeat (first | (with_reducible first | exact HB.out | apply below_alloc | apply pw_below_drewN | apply below_drew1 | refine below_set ?_ GE119.out | refine below_set ?_ GE120.out | refine below_set ?_ GE121.out) | exact HB.out)⟩
       ·replace c23 := Bool.eq_false_iff.mpr c23
        subst c23
        have H1 : (if t122 = 2 then ((hier_iface.f l0_0 l0_1 l0_2 l0_3 (wrap64 (a1_1))).bind fun t125 => (if t125 = true then (some false) else ((hier_From.f l0_0 l0_1 l0_2 l0_3 (wrap64 (a1_1)) (wrap64 (a2_1))).bind fun t126 => (some t126)))) else (some false)) = some r := by rw [if_neg (show ¬ (false = true) by decide)] at H; exact H
        clear H
        have H := H1
        clear H1
        by_cases c30 : t122 = 2
        ·rw [if_pos c30] at H
         have c30b0 : (t122 == 2) = true := beq_iff_eq.mpr c30
         have c30b1 : (t122 != 2) = false := bne_eq_false_iff_eq.mpr c30
         clear c30
         replace H := Option.bind_eq_some_iff.mp H
         obtain ⟨t125, A310, H⟩ := H
         replace H : (if t125 = true then (some false) else ((hier_From.f l0_0 l0_1 l0_2 l0_3 (wrap64 (a1_1)) (wrap64 (a2_1))).bind fun t126 => (some t126))) = some r := H
         have A31 := Aside0.mk A310
         clear A310
         by_cases c32 : t125 = true
         ·subst c32
          have H1 : (some false) = some r := by rw [if_pos rfl] at H; exact H
          clear H
          have H := H1
          clear H1
          obtain rfl := Option.some.inj H
          have hnb33 := NB121_119.out
          have hnc33 := NB119_121.out
          have hnb34 := NB121_120.out
          have hnc34 := NB120_121.out
          have hcz35_0 : wc.cell? ⟨gb121, 0, none⟩ = some (.int .u8 a2_0) := (blk_cell BK121.out 0).trans rfl
          have hcz35_1 : wc.cell? ⟨gb121, 1, none⟩ = some (.int .u16 a2_1) := (blk_cell BK121.out 1).trans rfl
          have hfz35_0 := blk_frozen BK121.out 0
          have hfz35_1 := blk_frozen BK121.out 1
          have hnb36 := NB119_120.out
          have hnc36 := NB120_119.out
          have hcz37_0 : wc.cell? ⟨gb119, 0, none⟩ = some (.slice A0_0 l0_0.length c0_0) := (blk_cell BK119.out 0).trans rfl
          have hcz37_1 : wc.cell? ⟨gb119, 1, none⟩ = some (.slice A0_1 l0_1.length c0_1) := (blk_cell BK119.out 1).trans rfl
          have hcz37_2 : wc.cell? ⟨gb119, 2, none⟩ = some (.slice A0_2 l0_2.length c0_2) := (blk_cell BK119.out 2).trans rfl
          have hcz37_3 : wc.cell? ⟨gb119, 3, none⟩ = some (.slice A0_3 l0_3.length c0_3) := (blk_cell BK119.out 3).trans rfl
          have hfz37_0 := blk_frozen BK119.out 0
          have hfz37_1 := blk_frozen BK119.out 1
          have hfz37_2 := blk_frozen BK119.out 2
          have hfz37_3 := blk_frozen BK119.out 3
          go_wp2_with (first | (go_at_call 80; (with_reducible refine (hier_iface.calls _ _ l0_0 _ _ l0_1 _ _ l0_2 _ _ l0_3 (wrap64 (a2_1)) false _ ?side1 ?side2 ?side3 ?side4 ?side5 ?side6 ?side7 ?side8 A22.out).mono ?_); (case side1 => exact qC (Kd.C_below HR0_0.out HB.out)); (case side2 => exact HC0_0.out); (case side3 => exact qC (Kd.C_below HR0_1.out HB.out)); (case side4 => exact HC0_1.out); (case side5 => exact qC (Kd.C_below HR0_2.out HB.out)); (case side6 => exact HC0_2.out); (case side7 => exact qC (Kd.C_below HR0_3.out HB.out)); (case side8 => exact HC0_3.out); rintro e w38 ⟨rfl, hb⟩; clear A22; have n0_ := Aside0.mk (blk_below (qb BK119.out) hb); have n1_ := Aside0.mk (blk_below (qb BK120.out) hb); have n2_ := Aside0.mk (blk_below (qb BK121.out) hb); have n3_ := Aside0.mk (below_step (qW HB.out) hb); clear BK119 BK120 BK121 HB; have BK119 := n0_; have BK120 := n1_; have BK121 := n2_; have HB := n3_; clear n0_ n1_ n2_ n3_; (try clear hb); (try clear hb2); (try clear hk); (try clear hi); have hcz39_0 : w38.cell? ⟨gb119, 0, none⟩ = some (.slice A0_0 l0_0.length c0_0) := (blk_cell BK119.out 0).trans rfl; have hcz39_1 : w38.cell? ⟨gb119, 1, none⟩ = some (.slice A0_1 l0_1.length c0_1) := (blk_cell BK119.out 1).trans rfl; have hcz39_2 : w38.cell? ⟨gb119, 2, none⟩ = some (.slice A0_2 l0_2.length c0_2) := (blk_cell BK119.out 2).trans rfl; have hcz39_3 : w38.cell? ⟨gb119, 3, none⟩ = some (.slice A0_3 l0_3.length c0_3) := (blk_cell BK119.out 3).trans rfl; have hfz39_0 := blk_frozen BK119.out 0; have hfz39_1 := blk_frozen BK119.out 1; have hfz39_2 := blk_frozen BK119.out 2; have hfz39_3 := blk_frozen BK119.out 3; have hcz40_0 : w38.cell? ⟨gb120, 0, none⟩ = some (.int .u8 a1_0) := (blk_cell BK120.out 0).trans rfl; have hcz40_1 : w38.cell? ⟨gb120, 1, none⟩ = some (.int .u16 a1_1) := (blk_cell BK120.out 1).trans rfl; have hfz40_0 := blk_frozen BK120.out 0; have hfz40_1 := blk_frozen BK120.out 1) | (go_at_call 80; (with_reducible refine (hier_iface.calls _ _ l0_0 _ _ l0_1 _ _ l0_2 _ _ l0_3 (wrap64 (a1_1)) true _ ?side1 ?side2 ?side3 ?side4 ?side5 ?side6 ?side7 ?side8 A31.out).mono ?_); (case side1 => exact qC (Kd.C_below HR0_0.out HB.out)); (case side2 => exact HC0_0.out); (case side3 => exact qC (Kd.C_below HR0_1.out HB.out)); (case side4 => exact HC0_1.out); (case side5 => exact qC (Kd.C_below HR0_2.out HB.out)); (case side6 => exact HC0_2.out); (case side7 => exact qC (Kd.C_below HR0_3.out HB.out)); (case side8 => exact HC0_3.out); rintro e w41 ⟨rfl, hb⟩; clear A31; have n0_ := Aside0.mk (blk_below (qb BK119.out) hb); have n1_ := Aside0.mk (blk_below (qb BK120.out) hb); have n2_ := Aside0.mk (blk_below (qb BK121.out) hb); have n3_ := Aside0.mk (below_step (qW HB.out) hb); clear BK119 BK120 BK121 HB; have BK119 := n0_; have BK120 := n1_; have BK121 := n2_; have HB := n3_; clear n0_ n1_ n2_ n3_; (try clear hb); (try clear hb2); (try clear hk); (try clear hi)))
          go_ret
          exact ⟨by first | rfl | (simp [errW_none, errW_some] <;> rfl) | (simp [*, errW_none, errW_some] <;> rfl), by repeat (first | (with_reducible first | exact HB.out | apply below_alloc | apply pw_below_drewN | apply below_drew1 | refine below_set ?_ GE119.out | refine below_set ?_ GE120.out | refine below_set ?_ GE121.out) | exact HB.out)⟩
         ·replace c32 := Bool.eq_false_iff.mpr c32
          subst c32
          have H1 : ((hier_From.f l0_0 l0_1 l0_2 l0_3 (wrap64 (a1_1)) (wrap64 (a2_1))).bind fun t126 => (some t126)) = some r := by rw [if_neg (show ¬ (false = true) by decide)] at H; exact H
          clear H
          have H := H1
          clear H1
          replace H := Option.bind_eq_some_iff.mp H
          obtain ⟨t126, A420, H⟩ := H
          replace H : (some t126) = some r := H
          have A42 := Aside0.mk A420
          clear A420
          obtain rfl := Option.some.inj H
          have hnb43 := NB121_119.out
          have hnc43 := NB119_121.out
          have hnb44 := NB121_120.out
          have hnc44 := NB120_121.out
          have hcz45_0 : wc.cell? ⟨gb121, 0, none⟩ = some (.int .u8 a2_0) := (blk_cell BK121.out 0).trans rfl
          have hcz45_1 : wc.cell? ⟨gb121, 1, none⟩ = some (.int .u16 a2_1) := (blk_cell BK121.out 1).trans rfl
          have hfz45_0 := blk_frozen BK121.out 0
          have hfz45_1 := blk_frozen BK121.out 1
          have hnb46 := NB119_120.out
          have hnc46 := NB120_119.out
          have hcz47_0 : wc.cell? ⟨gb119, 0, none⟩ = some (.slice A0_0 l0_0.length c0_0) := (blk_cell BK119.out 0).trans rfl
          have hcz47_1 : wc.cell? ⟨gb119, 1, none⟩ = some (.slice A0_1 l0_1.length c0_1) := (blk_cell BK119.out 1).trans rfl
          have hcz47_2 : wc.cell? ⟨gb119, 2, none⟩ = some (.slice A0_2 l0_2.length c0_2) := (blk_cell BK119.out 2).trans rfl
          have hcz47_3 : wc.cell? ⟨gb119, 3, none⟩ = some (.slice A0_3 l0_3.length c0_3) := (blk_cell BK119.out 3).trans rfl
          have hfz47_0 := blk_frozen BK119.out 0
          have hfz47_1 := blk_frozen BK119.out 1
          have hfz47_2 := blk_frozen BK119.out 2
          have hfz47_3 := blk_frozen BK119.out 3
          go_wp2_with (first | (go_at_call 80; (with_reducible refine (hier_iface.calls _ _ l0_0 _ _ l0_1 _ _ l0_2 _ _ l0_3 (wrap64 (a2_1)) false _ ?side1 ?side2 ?side3 ?side4 ?side5 ?side6 ?side7 ?side8 A22.out).mono ?_); (case side1 => exact qC (Kd.C_below HR0_0.out HB.out)); (case side2 => exact HC0_0.out); (case side3 => exact qC (Kd.C_below HR0_1.out HB.out)); (case side4 => exact HC0_1.out); (case side5 => exact qC (Kd.C_below HR0_2.out HB.out)); (case side6 => exact HC0_2.out); (case side7 => exact qC (Kd.C_below HR0_3.out HB.out)); (case side8 => exact HC0_3.out); rintro e w48 ⟨rfl, hb⟩; clear A22; have n0_ := Aside0.mk (blk_below (qb BK119.out) hb); have n1_ := Aside0.mk (blk_below (qb BK120.out) hb); have n2_ := Aside0.mk (blk_below (qb BK121.out) hb); have n3_ := Aside0.mk (below_step (qW HB.out) hb); clear BK119 BK120 BK121 HB; have BK119 := n0_; have BK120 := n1_; have BK121 := n2_; have HB := n3_; clear n0_ n1_ n2_ n3_; (try clear hb); (try clear hb2); (try clear hk); (try clear hi); have hcz49_0 : w48.cell? ⟨gb119, 0, none⟩ = some (.slice A0_0 l0_0.length c0_0) := (blk_cell BK119.out 0).trans rfl; have hcz49_1 : w48.cell? ⟨gb119, 1, none⟩ = some (.slice A0_1 l0_1.length c0_1) := (blk_cell BK119.out 1).trans rfl; have hcz49_2 : w48.cell? ⟨gb119, 2, none⟩ = some (.slice A0_2 l0_2.length c0_2) := (blk_cell BK119.out 2).trans rfl; have hcz49_3 : w48.cell? ⟨gb119, 3, none⟩ = some (.slice A0_3 l0_3.length c0_3) := (blk_cell BK119.out 3).trans rfl; have hfz49_0 := blk_frozen BK119.out 0; have hfz49_1 := blk_frozen BK119.out 1; have hfz49_2 := blk_frozen BK119.out 2; have hfz49_3 := blk_frozen BK119.out 3; have hcz50_0 : w48.cell? ⟨gb120, 0, none⟩ = some (.int .u8 a1_0) := (blk_cell BK120.out 0).trans rfl; have hcz50_1 : w48.cell? ⟨gb120, 1, none⟩ = some (.int .u16 a1_1) := (blk_cell BK120.out 1).trans rfl; have hfz50_0 := blk_frozen BK120.out 0; have hfz50_1 := blk_frozen BK120.out 1) | (go_at_call 80; (with_reducible refine (hier_iface.calls _ _ l0_0 _ _ l0_1 _ _ l0_2 _ _ l0_3 (wrap64 (a1_1)) false _ ?side1 ?side2 ?side3 ?side4 ?side5 ?side6 ?side7 ?side8 A31.out).mono ?_); (case side1 => exact qC (Kd.C_below HR0_0.out HB.out)); (case side2 => exact HC0_0.out); (case side3 => exact qC (Kd.C_below HR0_1.out HB.out)); (case side4 => exact HC0_1.out); (case side5 => exact qC (Kd.C_below HR0_2.out HB.out)); (case side6 => exact HC0_2.out); (case side7 => exact qC (Kd.C_below HR0_3.out HB.out)); (case side8 => exact HC0_3.out); rintro e w51 ⟨rfl, hb⟩; clear A31; have n0_ := Aside0.mk (blk_below (qb BK119.out) hb); have n1_ := Aside0.mk (blk_below (qb BK120.out) hb); have n2_ := Aside0.mk (blk_below (qb BK121.out) hb); have n3_ := Aside0.mk (below_step (qW HB.out) hb); clear BK119 BK120 BK121 HB; have BK119 := n0_; have BK120 := n1_; have BK121 := n2_; have HB := n3_; clear n0_ n1_ n2_ n3_; (try clear hb); (try clear hb2); (try clear hk); (try clear hi); have hcz52_0 : w51.cell? ⟨gb119, 0, none⟩ = some (.slice A0_0 l0_0.length c0_0) := (blk_cell BK119.out 0).trans rfl; have hcz52_1 : w51.cell? ⟨gb119, 1, none⟩ = some (.slice A0_1 l0_1.length c0_1) := (blk_cell BK119.out 1).trans rfl; have hcz52_2 : w51.cell? ⟨gb119, 2, none⟩ = some (.slice A0_2 l0_2.length c0_2) := (blk_cell BK119.out 2).trans rfl; have hcz52_3 : w51.cell? ⟨gb119, 3, none⟩ = some (.slice A0_3 l0_3.length c0_3) := (blk_cell BK119.out 3).trans rfl; have hfz52_0 := blk_frozen BK119.out 0; have hfz52_1 := blk_frozen BK119.out 1; have hfz52_2 := blk_frozen BK119.out 2; have hfz52_3 := blk_frozen BK119.out 3; have hcz53_0 : w51.cell? ⟨gb120, 0, none⟩ = some (.int .u8 a1_0) := (blk_cell BK120.out 0).trans rfl; have hcz53_1 : w51.cell? ⟨gb120, 1, none⟩ = some (.int .u16 a1_1) := (blk_cell BK120.out 1).trans rfl; have hfz53_0 := blk_frozen BK120.out 0; have hfz53_1 := blk_frozen BK120.out 1; have hcz54_0 : w51.cell? ⟨gb121, 0, none⟩ = some (.int .u8 a2_0) := (blk_cell BK121.out 0).trans rfl; have hcz54_1 : w51.cell? ⟨gb121, 1, none⟩ = some (.int .u16 a2_1) := (blk_cell BK121.out 1).trans rfl; have hfz54_0 := blk_frozen BK121.out 0; have hfz54_1 := blk_frozen BK121.out 1) | (go_at_call 41; (with_reducible refine (hier_From.calls _ _ l0_0 _ _ l0_1 _ _ l0_2 _ _ l0_3 (wrap64 (a1_1)) (wrap64 (a2_1)) t126 _ ?side1 ?side2 ?side3 ?side4 ?side5 ?side6 ?side7 ?side8 A42.out).mono ?_); (case side1 => exact qC (Kd.C_below HR0_0.out HB.out)); (case side2 => exact HC0_0.out); (case side3 => exact qC (Kd.C_below HR0_1.out HB.out)); (case side4 => exact HC0_1.out); (case side5 => exact qC (Kd.C_below HR0_2.out HB.out)); (case side6 => exact HC0_2.out); (case side7 => exact qC (Kd.C_below HR0_3.out HB.out)); (case side8 => exact HC0_3.out); rintro e w55 ⟨rfl, hb⟩; have n0_ := Aside0.mk (blk_below (qb BK119.out) hb); have n1_ := Aside0.mk (blk_below (qb BK120.out) hb); have n2_ := Aside0.mk (blk_below (qb BK121.out) hb); have n3_ := Aside0.mk (below_step (qW HB.out) hb); clear BK119 BK120 BK121 HB; have BK119 := n0_; have BK120 := n1_; have BK121 := n2_; have HB := n3_; clear n0_ n1_ n2_ n3_; (try clear hb); (try clear hb2); (try clear hk); (try clear hi)))
          go_ret
          exact ⟨by first | rfl | (simp [errW_none, errW_some] <;> rfl) | (simp [*, errW_none, errW_some] <;> rfl), by repeat (first | (with_reducible first | exact HB.out | apply below_alloc | apply pw_below_drewN | apply below_drew1 | refine below_set ?_ GE119.out | refine below_set ?_ GE120.out | refine below_set ?_ GE121.out) | exact HB.out)⟩
        ·rw [if_neg c30] at H
         have c30b0 : (t122 == 2) = false := beq_eq_false_iff_ne.mpr c30
         have c30b1 : (t122 != 2) = true := bne_iff_ne.mpr c30
         obtain rfl := Option.some.inj H
         have hnb56 := NB121_119.out
         have hnc56 := NB119_121.out
         have hnb57 := NB121_120.out
         have hnc57 := NB120_121.out
         have hcz58_0 : wc.cell? ⟨gb121, 0, none⟩ = some (.int .u8 a2_0) := (blk_cell BK121.out 0).trans rfl
         have hcz58_1 : wc.cell? ⟨gb121, 1, none⟩ = some (.int .u16 a2_1) := (blk_cell BK121.out 1).trans rfl
         have hfz58_0 := blk_frozen BK121.out 0
         have hfz58_1 := blk_frozen BK121.out 1
         have hnb59 := NB119_120.out
         have hnc59 := NB120_119.out
         have hcz60_0 : wc.cell? ⟨gb119, 0, none⟩ = some (.slice A0_0 l0_0.length c0_0) := (blk_cell BK119.out 0).trans rfl
         have hcz60_1 : wc.cell? ⟨gb119, 1, none⟩ = some (.slice A0_1 l0_1.length c0_1) := (blk_cell BK119.out 1).trans rfl
         have hcz60_2 : wc.cell? ⟨gb119, 2, none⟩ = some (.slice A0_2 l0_2.length c0_2) := (blk_cell BK119.out 2).trans rfl
         have hcz60_3 : wc.cell? ⟨gb119, 3, none⟩ = some (.slice A0_3 l0_3.length c0_3) := (blk_cell BK119.out 3).trans rfl
         have hfz60_0 := blk_frozen BK119.out 0
         have hfz60_1 := blk_frozen BK119.out 1
         have hfz60_2 := blk_frozen BK119.out 2
         have hfz60_3 := blk_frozen BK119.out 3
         go_wp2_with (first | (go_at_call 80; (with_reducible refine (hier_iface.calls _ _ l0_0 _ _ l0_1 _ _ l0_2 _ _ l0_3 (wrap64 (a2_1)) false _ ?side1 ?side2 ?side3 ?side4 ?side5 ?side6 ?side7 ?side8 A22.out).mono ?_); (case side1 => exact qC (Kd.C_below HR0_0.out HB.out)); (case side2 => exact HC0_0.out); (case side3 => exact qC (Kd.C_below HR0_1.out HB.out)); (case side4 => exact HC0_1.out); (case side5 => exact qC (Kd.C_below HR0_2.out HB.out)); (case side6 => exact HC0_2.out); (case side7 => exact qC (Kd.C_below HR0_3.out HB.out)); (case side8 => exact HC0_3.out); rintro e w61 ⟨rfl, hb⟩; have n0_ := Aside0.mk (blk_below (qb BK119.out) hb); have n1_ := Aside0.mk (blk_below (qb BK120.out) hb); have n2_ := Aside0.mk (blk_below (qb BK121.out) hb); have n3_ := Aside0.mk (below_step (qW HB.out) hb); clear BK119 BK120 BK121 HB; have BK119 := n0_; have BK120 := n1_; have BK121 := n2_; have HB := n3_; clear n0_ n1_ n2_ n3_; (try clear hb); (try clear hb2); (try clear hk); (try clear hi)))
         go_ret
         exact ⟨by first | rfl | (simp [errW_none, errW_some] <;> rfl) | (simp [*, errW_none, errW_some] <;> rfl), by repeat (first | (with_reducible first | exact HB.out | apply below_alloc | apply pw_below_drewN | apply below_drew1 | refine below_set ?_ GE119.out | refine below_set ?_ GE120.out | refine below_set ?_ GE121.out) | exact HB.out)⟩
     ·rw [if_neg c17] at H
      have c17b0 : (t123 == 2) = false := beq_eq_false_iff_ne.mpr c17
      have c17b1 : (t123 != 2) = true := bne_iff_ne.mpr c17
      by_cases c62 : t123 = 3
      ·rw [if_pos c62] at H
       have c62b0 : (t123 == 3) = true := beq_iff_eq.mpr c62
       have c62b1 : (t123 != 3) = false := bne_eq_false_iff_eq.mpr c62
       clear c62
       obtain rfl := Option.some.inj H
       have hnb63 := NB120_119.out
       have hnc63 := NB119_120.out
       have hnb64 := NB120_121.out
       have hnc64 := NB121_120.out
       have hcz65_0 : wc.cell? ⟨gb120, 0, none⟩ = some (.int .u8 a1_0) := (blk_cell BK120.out 0).trans rfl
       have hcz65_1 : wc.cell? ⟨gb120, 1, none⟩ = some (.int .u16 a1_1) := (blk_cell BK120.out 1).trans rfl
       have hfz65_0 := blk_frozen BK120.out 0
       have hfz65_1 := blk_frozen BK120.out 1
       have hnb66 := NB121_119.out
       have hnc66 := NB119_121.out
       have hcz67_0 : wc.cell? ⟨gb121, 0, none⟩ = some (.int .u8 a2_0) := (blk_cell BK121.out 0).trans rfl
       have hcz67_1 : wc.cell? ⟨gb121, 1, none⟩ = some (.int .u16 a2_1) := (blk_cell BK121.out 1).trans rfl
       have hfz67_0 := blk_frozen BK121.out 0
       have hfz67_1 := blk_frozen BK121.out 1
       go_wp2
       go_ret
       exact ⟨by first | rfl | (simp [errW_none, errW_some] <;> rfl) | (simp [*, errW_none, errW_some] <;> rfl), by repeat (first | (with_reducible first | exact HB.out | apply below_alloc | apply pw_below_drewN | apply below_drew1 | refine below_set ?_ GE119.out | refine below_set ?_ GE120.out | refine below_set ?_ GE121.out) | exact HB.out)⟩
      ·rw [if_neg c62] at H
       have c62b0 : (t123 == 3) = false := beq_eq_false_iff_ne.mpr c62
       have c62b1 : (t123 != 3) = true := bne_iff_ne.mpr c62
       by_cases c68 : t122 = 4
       ·rw [if_pos c68] at H
        have c68b0 : (t122 == 4) = true := beq_iff_eq.mpr c68
        have c68b1 : (t122 != 4) = false := bne_eq_false_iff_eq.mpr c68
        clear c68
        by_cases c69 : a2_1 = 0
        ·rw [if_pos c69] at H
         have c69b0 : (a2_1 == 0) = true := beq_iff_eq.mpr c69
         have c69b1 : (a2_1 != 0) = false := bne_eq_false_iff_eq.mpr c69
         clear c69
         obtain rfl := Option.some.inj H
         have hnb70 := NB121_119.out
         have hnc70 := NB119_121.out
         have hnb71 := NB121_120.out
         have hnc71 := NB120_121.out
         have hcz72_0 : wc.cell? ⟨gb121, 0, none⟩ = some (.int .u8 a2_0) := (blk_cell BK121.out 0).trans rfl
         have hcz72_1 : wc.cell? ⟨gb121, 1, none⟩ = some (.int .u16 a2_1) := (blk_cell BK121.out 1).trans rfl
         have hfz72_0 := blk_frozen BK121.out 0
         have hfz72_1 := blk_frozen BK121.out 1
         go_wp2
         go_ret
         exact ⟨by first | rfl | (simp [errW_none, errW_some] <;> rfl) | (simp [*, errW_none, errW_some] <;> rfl), by repeat (first | (with_reducible first | exact HB.out | apply below_alloc | apply pw_below_drewN | apply below_drew1 | refine below_set ?_ GE119.out | refine below_set ?_ GE120.out | refine below_set ?_ GE121.out) | exact HB.out)⟩
        ·rw [if_neg c69] at H
         have c69b0 : (a2_1 == 0) = false := beq_eq_false_iff_ne.mpr c69
         have c69b1 : (a2_1 != 0) = true := bne_iff_ne.mpr c69
         replace H := Option.bind_eq_some_iff.mp H
         obtain ⟨t127, A730, H⟩ := H
         replace H : (some t127) = some r := H
         have A73 := Aside0.mk A730
         clear A730
         obtain rfl := Option.some.inj H
         have hnb74 := NB121_119.out
         have hnc74 := NB119_121.out
         have hnb75 := NB121_120.out
         have hnc75 := NB120_121.out
         have hcz76_0 : wc.cell? ⟨gb121, 0, none⟩ = some (.int .u8 a2_0) := (blk_cell BK121.out 0).trans rfl
         have hcz76_1 : wc.cell? ⟨gb121, 1, none⟩ = some (.int .u16 a2_1) := (blk_cell BK121.out 1).trans rfl
         have hfz76_0 := blk_frozen BK121.out 0
         have hfz76_1 := blk_frozen BK121.out 1
         have hnb77 := NB119_120.out
         have hnc77 := NB120_119.out
         have hcz78_0 : wc.cell? ⟨gb119, 0, none⟩ = some (.slice A0_0 l0_0.length c0_0) := (blk_cell BK119.out 0).trans rfl
         have hcz78_1 : wc.cell? ⟨gb119, 1, none⟩ = some (.slice A0_1 l0_1.length c0_1) := (blk_cell BK119.out 1).trans rfl
         have hcz78_2 : wc.cell? ⟨gb119, 2, none⟩ = some (.slice A0_2 l0_2.length c0_2) := (blk_cell BK119.out 2).trans rfl
         have hcz78_3 : wc.cell? ⟨gb119, 3, none⟩ = some (.slice A0_3 l0_3.length c0_3) := (blk_cell BK119.out 3).trans rfl
         have hfz78_0 := blk_frozen BK119.out 0
         have hfz78_1 := blk_frozen BK119.out 1
         have hfz78_2 := blk_frozen BK119.out 2
         have hfz78_3 := blk_frozen BK119.out 3
         have hcz79_0 : wc.cell? ⟨gb120, 0, none⟩ = some (.int .u8 a1_0) := (blk_cell BK120.out 0).trans rfl
         have hcz79_1 : wc.cell? ⟨gb120, 1, none⟩ = some (.int .u16 a1_1) := (blk_cell BK120.out 1).trans rfl
         have hfz79_0 := blk_frozen BK120.out 0
         have hfz79_1 := blk_frozen BK120.out 1
         go_wp2_with (first | (go_at_call 41; (with_reducible refine (hier_From.calls _ _ l0_0 _ _ l0_1 _ _ l0_2 _ _ l0_3 (wrap64 (a1_1)) (wrap64 (a2_1)) t127 _ ?side1 ?side2 ?side3 ?side4 ?side5 ?side6 ?side7 ?side8 A73.out).mono ?_); (case side1 => exact qC (Kd.C_below HR0_0.out HB.out)); (case side2 => exact HC0_0.out); (case side3 => exact qC (Kd.C_below HR0_1.out HB.out)); (case side4 => exact HC0_1.out); (case side5 => exact qC (Kd.C_below HR0_2.out HB.out)); (case side6 => exact HC0_2.out); (case side7 => exact qC (Kd.C_below HR0_3.out HB.out)); (case side8 => exact HC0_3.out); rintro e w80 ⟨rfl, hb⟩; have n0_ := Aside0.mk (blk_below (qb BK119.out) hb); have n1_ := Aside0.mk (blk_below (qb BK120.out) hb); have n2_ := Aside0.mk (blk_below (qb BK121.out) hb); have n3_ := Aside0.mk (below_step (qW HB.out) hb); clear BK119 BK120 BK121 HB; have BK119 := n0_; have BK120 := n1_; have BK121 := n2_; have HB := n3_; clear n0_ n1_ n2_ n3_; (try clear hb); (try clear hb2); (try clear hk); (try clear hi)))
         go_ret
         exact ⟨by first | rfl | (simp [errW_none, errW_some] <;> rfl) | (simp [*, errW_none, errW_some] <;> rfl), by repeat (first | (with_reducible first | exact HB.out | apply below_alloc | apply pw_below_drewN | apply below_drew1 | refine below_set ?_ GE119.out | refine below_set ?_ GE120.out | refine below_set ?_ GE121.out) | exact HB.out)⟩
       ·rw [if_neg c68] at H
        have c68b0 : (t122 == 4) = false := beq_eq_false_iff_ne.mpr c68
        have c68b1 : (t122 != 4) = true := bne_iff_ne.mpr c68
        obtain rfl := Option.some.inj H
        go_wp2
        go_ret
        exact ⟨by first | rfl | (simp [errW_none, errW_some] <;> rfl) | (simp [*, errW_none, errW_some] <;> rfl), by repeat (first | (with_reducible first | exact HB.out | apply below_alloc | apply pw_below_drewN | apply below_drew1 | refine below_set ?_ GE119.out | refine below_set ?_ GE120.out | refine below_set ?_ GE121.out) | exact HB.out)⟩

/-! ### garderoberef12_World: function 57 -/
def tyS (ts : List (Int × Int)) : List S32 := ts.map fun p => ⟨p.1, p.2⟩
def toC (c : Tab.ClsM) : S103 := ⟨0, c.flags, c.super, [], tyS c.fields, c.virtuals, []⟩
def toM (m : Tab.MetM) : S38 := ⟨0, m.f, m.cl, ⟨tyS m.ps, ⟨m.k, m.c⟩⟩, 0, 0, [], [], m.n⟩
def toX (x : Tab.ExpM) : S154 := ⟨x.cl, [], x.ms⟩
def wC : List S103 := (Tab.wst 17).1.map toC
def wM : List S38 := (Tab.wst 17).2.1.map toM
def wX : List S154 := (Tab.wst 17).2.2.map toX
theorem reps_flat {α β : Type} {R : β → List Value → Prop} {sz : Nat} (f : α → β) (g : α → List Value) (hg : ∀ a, (g a).length = sz) (hR : ∀ a, R (f a) (g a)) (l : List α) : Reps R sz (l.map f) (l.flatMap g) := by
 have key : ∀ (l : List α) (ps : List β) (cs : List Value), Reps R sz ps cs → Reps R sz (ps ++ l.map f) (cs ++ l.flatMap g) := by
  intro l
  induction l with
  | nil => intro ps cs h; simpa using h
  | cons a l ih => intro ps cs h; simpa [List.flatMap_cons] using ih _ _ (h.snoc (hR a) (hg a))
 simpa using key l [] [] (Reps.none _ _)
theorem reps_to {α β : Type} {R : α → List Value → Prop} {R' : β → List Value → Prop} {sz : Nat} {f : α → β} {xs : List α} {cs : List Value} (h : Reps R sz xs cs) (hR : ∀ x c, R x c → R' (f x) c) : Reps R' sz (xs.map f) cs := by
 refine ⟨by rw [List.length_map]; exact h.1, fun j p hj => ?_⟩
 rw [List.getElem?_map] at hj
 obtain ⟨x, hx, rfl⟩ := Option.map_eq_some_iff.1 hj
 exact hR _ _ (h.2 j x hx)
theorem ty_R {w : World} {base : Nat} {ok : Nat → Prop} {v : Value} {ts : List (Int × Int)} (h : Tab.Ty w base v ts) (hok : ∀ k, v.ownBlock = some k → ok k) : k32.R 32 w base ok v (tyS ts) :=
 ⟨hok, Tab.tcells ts, by rw [tyS, List.length_map]; exact h, reps_flat (sz := 2) (R := k32.M w base (fun k => ok k ∧ some k ≠ v.ownBlock)) (fun p : Int × Int => (⟨p.1, p.2⟩ : S32)) (fun p : Int × Int => [Value.int .u8 p.1, Value.int .u16 p.2]) (fun _ => rfl) (fun p => k32_mkM _ _ _ ⟨p.1, p.2⟩) ts⟩
theorem icells_flat (xs : List Int) : Tab.icells xs = xs.flatMap fun x => [Value.int .i64 x] := by
 unfold Tab.icells
 induction xs with
 | nil => rfl
 | cons a l ih => rw [List.map_cons, List.flatMap_cons, ih]; rfl
theorem ints_R {w : World} {base : Nat} {ok : Nat → Prop} {v : Value} {xs : List Int} (h : Tab.Ints w base v xs) (hok : ∀ k, v.ownBlock = some k → ok k) : (Kd.int .i64).R 3 w base ok v xs :=
 ⟨hok, Tab.icells xs, h, by
  have := reps_flat (R := (Kd.int .i64).M w base (fun k => ok k ∧ some k ≠ v.ownBlock)) (sz := 1) (fun x : Int => x) (fun x => [Value.int .i64 x]) (fun _ => rfl) (fun _ => rfl) xs
  rw [show xs.map (fun x : Int => x) = xs from List.map_id' xs] at this
  rw [icells_flat]
  exact this⟩
theorem other_own {w : World} {b1 b2 n m s t : Nat} {e e' : TypeId} {u v : Value} {xs ys : List Value} (h : w.ownsRow b1 e s u n xs) (h' : w.ownsRow b2 e' t v m ys) (he : e ≠ e') : ∀ k, u.ownBlock = some k → some k ≠ v.ownBlock := fun k hk hv => by
 obtain ⟨c1, h1⟩ := own_typed h k hk
 obtain ⟨c2, h2⟩ := own_typed h' k hv.symm
 rw [h1] at h2
 injection h2 with h2
 injection h2 with _ h2 _
 exact he h2
theorem cls_R {w : World} {base : Nat} {v : Value} {cl : List Tab.ClsM} {xs : List Value} (o : w.ownsRow base 103 7 v cl.length xs) (r : Reps (Tab.ClsRep w base) 7 cl xs) : k103.R 103 w base (fun _ => True) v (cl.map toC) :=
 ⟨fun _ _ => trivial, xs, by rw [List.length_map]; exact o, reps_to r fun x c h => by
  obtain ⟨vf, vv, rfl, a, b⟩ := h
  exact k103_mkM w base _ (toC x) (Kd.R_nil _ _ _ _ _) (ty_R a fun k hk => ⟨trivial, other_own a o (by decide) k hk⟩) (ints_R b fun k hk => ⟨trivial, other_own b o (by decide) k hk⟩) (Kd.R_nil _ _ _ _ _)⟩
theorem met_R {w : World} {base : Nat} {v : Value} {cl : List Tab.MetM} {xs : List Value} (o : w.ownsRow base 38 11 v cl.length xs) (r : Reps (Tab.MetRep w base) 11 cl xs) : k38.R 38 w base (fun _ => True) v (cl.map toM) :=
 ⟨fun _ _ => trivial, xs, by rw [List.length_map]; exact o, reps_to r fun x c h => by
  obtain ⟨vf, rfl, a⟩ := h
  exact k38_mkM w base _ (toM x) (ty_R a fun k hk => ⟨trivial, other_own a o (by decide) k hk⟩) (Kd.R_nil _ _ _ _ _) (Kd.R_nil _ _ _ _ _)⟩
theorem exp_R {w : World} {base : Nat} {ok : Nat → Prop} {v : Value} {cl : List Tab.ExpM} {xs : List Value} (o : w.ownsRow base 154 3 v cl.length xs) (r : Reps (Tab.ExpRep w base) 3 cl xs) (h1 : ∀ k, v.ownBlock = some k → ok k) (h2 : ∀ (u : Value) k, some k = u.ownBlock → (∃ c, w.heap[k]? = some (.cells c 3 (0, 0))) → ok k) : k154.R 154 w base ok v (cl.map toX) :=
 ⟨h1, xs, by rw [List.length_map]; exact o, reps_to r fun x c h => by
  obtain ⟨vf, rfl, a⟩ := h
  exact k154_mkM w base _ (toX x) (Kd.R_nil _ _ _ _ _) (ints_R a fun k hk => ⟨h2 vf k hk.symm (own_typed a k hk), other_own a o (by decide) k hk⟩)⟩
theorem pkg_R {w : World} {base N : Nat} {v3 v4 : Value} {cl : List Tab.ExpM} (hN : base ≤ N) (b : Base.Blk w N #[.int .u8 160, .int .u8 0, .int .u8 0, .int .u8 0, .int .u8 98, .int .u8 1, .int .u8 1] 5) (o3 : ∃ xs, w.ownsRow base 154 3 v3 cl.length xs ∧ Reps (Tab.ExpRep w base) 3 cl xs) (o4 : w.ownsRow base 117 6 v4 1 [.slice (some ⟨N, 0, none⟩) 7 7, .int .u8 1, .int .u8 0, .bool false, v3, .slice none 0 0]) :
  k117.R 117 w base (fun _ => True) v4 [⟨[160, 0, 0, 0, 98, 1, 1], ⟨1, 0⟩, false, cl.map toX, []⟩] := by
 obtain ⟨xs, o, r⟩ := o3
 have hb : w.ownsRow base 5 1 (.slice (some ⟨N, 0, none⟩) 7 7) 7 [.int .u8 160, .int .u8 0, .int .u8 0, .int .u8 0, .int .u8 98, .int .u8 1, .int .u8 1] := ⟨rfl, Or.inr ⟨N, 7, _, rfl, hN, b.heap, Nat.le_refl _, by decide, rfl, rfl⟩⟩
 have hne : ∀ (k : Nat), (∃ c, w.heap[k]? = some (.cells c 3 (0, 0))) → some k ≠ v4.ownBlock := fun k ⟨c, hc⟩ he => by
  obtain ⟨c2, h2⟩ := own_typed o4 k he.symm
  rw [hc] at h2
  injection h2 with h2
  injection h2 with _ h2 _
  exact absurd h2 (by decide)
 refine ⟨fun _ _ => trivial, _, o4, ?_⟩
 refine (Reps.none _ _).snoc (c := [.slice (some ⟨N, 0, none⟩) 7 7, .int .u8 1, .int .u8 0, .bool false, v3, .slice none 0 0]) ?_ rfl
 refine k117_mkM w base _ ⟨[160, 0, 0, 0, 98, 1, 1], ⟨1, 0⟩, false, cl.map toX, []⟩ ⟨fun k hk => ⟨trivial, other_own hb o4 (by decide) k hk⟩, _, hb, ?_⟩ (exp_R o r (fun k hk => ⟨trivial, other_own o o4 (by decide) k hk⟩) (fun u k hk hc => ⟨trivial, hne k hc⟩)) (Kd.R_nil _ _ _ _ _)
 exact reps_flat (R := (Kd.int .u8).M w base _) (sz := 1) (fun x : Int => x) (fun x => [Value.int .u8 x]) (fun _ => rfl) (fun _ => rfl) [160, 0, 0, 0, 98, 1, 1]
def garderoberef12_World.f  : Option ((List (S103)) × (List (S38)) × (List (S206)) × (List (S117))) := some (wC, wM, [], [⟨[160, 0, 0, 0, 98, 1, 1], ⟨1, 0⟩, false, wX, []⟩])
set_option maxHeartbeats 8000000 in
set_option maxRecDepth 100000 in
theorem garderoberef12_World.calls  (r1 : List (S103)) (r2 : List (S38)) (r3 : List (S206)) (r4 : List (S117)) (w : World) (h : garderoberef12_World.f  = some (r1, r2, r3, r4)) :
  Calls Try.prog 57 #[] w fun e w' => ∃ v0_ v1_ v2_ v3_ : Value, e = .returned (.agg #[v0_, v1_, v2_, v3_]) ∧ Kd.R k103 103 w' w.heap.size (fun _ => True) v0_ r1 ∧ Kd.R k38 38 w' w.heap.size (fun _ => True) v1_ r2 ∧ Kd.R k206 206 w' w.heap.size (fun _ => True) v2_ r3 ∧ Kd.R k117 117 w' w.heap.size (fun _ => True) v3_ r4 ∧ Below w.heap.size w w' := by
 have H : some (wC, wM, ([] : List S206), ([⟨[160, 0, 0, 0, 98, 1, 1], ⟨1, 0⟩, false, wX, []⟩] : List S117)) = some (r1, r2, r3, r4) := h
 simp only [Option.some.injEq, Prod.mk.injEq] at H
 obtain ⟨rfl, rfl, rfl, rfl⟩ := H
 refine (Tab.world_any w).mono ?_
 rintro e w' ⟨v, rfl, ⟨v1, v2, v3, v4, N, rfl, ⟨xc, oc, rc⟩, ⟨xm, om, rm⟩, o3, hN, b, o4⟩, ch⟩
 exact ⟨v1, v2, .slice none 0 0, v4, rfl, cls_R oc rc, met_R om rm, Kd.R_nil _ _ _ _ _, pkg_R hN b o3 o4, ch.below (fun _ h => h.elim) (Nat.le_refl _)⟩

/-! ### garderoberef00_Ints: function 86 -/
def garderoberef00_Ints.l0 : Nat → List Int → List Int → Int → Option (Bool)
 | 0, _, _, _ => none
 | k + 1, x0, x1, x5 => if x5 < (x0.length : Int) then (if 0 ≤ x5 then (if x5 < (x1.length : Int) then (if (rd x0 x5) = (rd x1 x5) then (garderoberef00_Ints.l0 k x0 x1 (wrap64 (x5 + 1))) else (some false)) else (none)) else (none)) else (some true)
def garderoberef00_Ints.f (k : Nat) (l0 : List Int) (l1 : List Int) : Option (Bool) := if (l0.length : Int) = (l1.length : Int) then (garderoberef00_Ints.l0 k l0 l1 0) else (some false)
theorem garderoberef00_Ints.mono_l : ∀ k, (∀ y0 y1 y2, LeO (garderoberef00_Ints.l0 k y0 y1 y2) (garderoberef00_Ints.l0 (k + 1) y0 y1 y2))
 | 0 => fun _ _ _ r h => by simp [garderoberef00_Ints.l0] at h
 | k + 1 => by
  have ih0 := garderoberef00_Ints.mono_l k
  ·intro y0 y1 y2
   unfold garderoberef00_Ints.l0
   repeat' first
   | (with_reducible exact ih0 _ _ _)
   | (with_reducible exact LeO.refl _)
   | (with_reducible exact LeO.none _)
   | (with_reducible refine LeO.ite ?_ ?_)
   | (with_reducible refine LeO.bind ?_ (fun _ => ?_))
   | exact ih0 _ _ _
   | exact LeO.none _
   | refine LeO.ite ?_ ?_
   | refine LeO.bind ?_ (fun _ => ?_)
theorem garderoberef00_Ints.mono : ∀ a0 a1 k, LeO (garderoberef00_Ints.f k a0 a1) (garderoberef00_Ints.f (k + 1) a0 a1) := by
 intro a0 a1 k
 have ih0 := garderoberef00_Ints.mono_l k
 unfold garderoberef00_Ints.f
 repeat' first
   | (with_reducible exact ih0 _ _ _)
   | (with_reducible exact LeO.refl _)
   | (with_reducible exact LeO.none _)
   | (with_reducible refine LeO.ite ?_ ?_)
   | (with_reducible refine LeO.bind ?_ (fun _ => ?_))
   | exact ih0 _ _ _
   | exact LeO.none _
   | refine LeO.ite ?_ ?_
   | refine LeO.bind ?_ (fun _ => ?_)
set_option maxHeartbeats 8000000 in
set_option maxRecDepth 100000 in
theorem garderoberef00_Ints.calls (k : Nat) (A0 : Option Addr) (c0 : Nat) (l0 : List Int) (A1 : Option Addr) (c1 : Nat) (l1 : List Int) (r : Bool) (w : World) (hr0 : Kd.C (Kd.int .i64) w A0 l0.length l0) (hc0 : l0.length ≤ c0) (hr1 : Kd.C (Kd.int .i64) w A1 l1.length l1) (hc1 : l1.length ≤ c1) (h : garderoberef00_Ints.f k l0 l1 = some r) :
  Calls Try.prog 86 #[.slice A0 l0.length c0, .slice A1 l1.length c1] w fun e w' => e = .returned (.bool r) ∧ Drawn0 w w' := by
 have HR0 := Aside0.mk hr0
 have HC0 := Aside0.mk hc0
 clear hr0 hc0
 have HR1 := Aside0.mk hr1
 have HC1 := Aside0.mk hc1
 clear hr1 hc1
 have H : (if (l0.length : Int) = (l1.length : Int) then (garderoberef00_Ints.l0 k l0 l1 0) else (some false)) = some r := h
 clear h
 by_cases c3 : (l0.length : Int) = (l1.length : Int)
 ·rw [if_pos c3] at H
  have c3b0 : ((l0.length : Int) == (l1.length : Int)) = true := beq_iff_eq.mpr c3
  have c3b1 : ((l0.length : Int) != (l1.length : Int)) = false := bne_eq_false_iff_eq.mpr c3
  have c3b2 : (l0.length == l1.length) = true := by first | simpa using c3 | (simp at c3 ⊢; omega)
  clear c3
  have H' := Aside0.mk H
  clear H
  go_enter Try.func86, Try.ntmps86
  go_wp2
  repeat (go_quiet (fail); try go_wp2)
  go_loopg [5] k (fun kq v5 w' => ∃ (x5_1 : Int), v5 = .int .i64 x5_1 ∧ Aside0 (garderoberef00_Ints.l0 kq l0 l1 x5_1 = some r) ∧ Aside0 (kq ≤ k) ∧ Drawn0 w w')
  case atStart => exact ⟨(0), (by first | rfl | (simp; done) | (simp [*]; done)), H', ⟨Nat.le_refl _⟩, by repeat (first | exact Drawn0.refl _ | apply Drawn0.step)⟩
  case round =>
   clear H'
   try clear c1
   try clear p2
   try clear c3
   try clear c3b0
   try clear c3b1
   try clear c3b2
   obtain ⟨x5_1, rfl, HA, HK1, ⟨m1, rfl⟩⟩ := hrel
   cases gk with
   | zero => exact absurd HA.out (by simp [garderoberef00_Ints.l0])
   | succ k1 =>
    have H := HA.out
    clear HA
    simp only [garderoberef00_Ints.l0] at H
    by_cases c4 : x5_1 < (l0.length : Int)
    ·rw [if_pos c4] at H
     have c4b0 : decide (x5_1 < (l0.length : Int)) = true := decide_eq_true c4
     clear c4
     by_cases c5 : 0 ≤ x5_1
     ·rw [if_pos c5] at H
      have c5b0 : decide (0 ≤ x5_1) = true := decide_eq_true c5
      clear c5
      by_cases c6 : x5_1 < (l1.length : Int)
      ·rw [if_pos c6] at H
       have c6b0 : decide (x5_1 < (l1.length : Int)) = true := decide_eq_true c6
       clear c6
       by_cases c7 : (rd l0 x5_1) = (rd l1 x5_1)
       ·rw [if_pos c7] at H
        have c7b0 : ((rd l0 x5_1) == (rd l1 x5_1)) = true := beq_iff_eq.mpr c7
        have c7b1 : ((rd l0 x5_1) != (rd l1 x5_1)) = false := bne_eq_false_iff_eq.mpr c7
        clear c7
        have H' := Aside0.mk H
        clear H
        have p129 : 0 ≤ (x5_1 : Int) := of_decide_eq_true (by first | (with_reducible assumption) | assumption)
        have q129 : x5_1 < (l0.length : Int) := of_decide_eq_true (by first | (with_reducible assumption) | assumption)
        obtain ⟨ad129, e129, hx129_0⟩ := Kd.at_int HR0.out x5_1 p129 q129
        cases e129
        replace p129 := eq_true p129
        replace q129 := eq_true q129
        have p130 : 0 ≤ (x5_1 : Int) := of_decide_eq_true (by first | (with_reducible assumption) | assumption)
        have q130 : x5_1 < (l1.length : Int) := of_decide_eq_true (by first | (with_reducible assumption) | assumption)
        obtain ⟨ad130, e130, hx130_0⟩ := Kd.at_int HR1.out x5_1 p130 q130
        cases e130
        replace p130 := eq_true p130
        replace q130 := eq_true q130
        go_wp2
        repeat (go_quiet (fail); try go_wp2)
        go_roundg k1
        case measure => have := HK1.out; omega
        case rel => exact ⟨(wrap64 (x5_1 + 1)), (by first | rfl | (simp; done) | (simp [*]; done)), H', ⟨by have := HK1.out; omega⟩, by repeat (first | exact Drawn0.refl _ | apply Drawn0.step)⟩
       ·rw [if_neg c7] at H
        have c7b0 : ((rd l0 x5_1) == (rd l1 x5_1)) = false := beq_eq_false_iff_ne.mpr c7
        have c7b1 : ((rd l0 x5_1) != (rd l1 x5_1)) = true := bne_iff_ne.mpr c7
        obtain rfl := Option.some.inj H
        have p129 : 0 ≤ (x5_1 : Int) := of_decide_eq_true (by first | (with_reducible assumption) | assumption)
        have q129 : x5_1 < (l0.length : Int) := of_decide_eq_true (by first | (with_reducible assumption) | assumption)
        obtain ⟨ad129, e129, hx129_0⟩ := Kd.at_int HR0.out x5_1 p129 q129
        cases e129
        replace p129 := eq_true p129
        replace q129 := eq_true q129
        have p130 : 0 ≤ (x5_1 : Int) := of_decide_eq_true (by first | (with_reducible assumption) | assumption)
        have q130 : x5_1 < (l1.length : Int) := of_decide_eq_true (by first | (with_reducible assumption) | assumption)
        obtain ⟨ad130, e130, hx130_0⟩ := Kd.at_int HR1.out x5_1 p130 q130
        cases e130
        replace p130 := eq_true p130
        replace q130 := eq_true q130
        go_wp2
        repeat (go_quiet (fail); try go_wp2)
        go_ret
        exact ⟨by first | rfl | (simp; done) | (simp [*]; done), by repeat (first | exact Drawn0.refl _ | apply Drawn0.step)⟩
      ·rw [if_neg c6] at H
       exact absurd H (by simp)
     ·rw [if_neg c5] at H
      exact absurd H (by simp)
    ·rw [if_neg c4] at H
     have c4b0 : decide (x5_1 < (l0.length : Int)) = false := decide_eq_false c4
     clear c4
     obtain rfl := Option.some.inj H
     go_wp2
     repeat (go_quiet (fail); try go_wp2)
     go_ret
     exact ⟨by first | rfl | (simp; done) | (simp [*]; done), by repeat (first | exact Drawn0.refl _ | apply Drawn0.step)⟩
 ·rw [if_neg c3] at H
  have c3b0 : ((l0.length : Int) == (l1.length : Int)) = false := beq_eq_false_iff_ne.mpr c3
  have c3b1 : ((l0.length : Int) != (l1.length : Int)) = true := bne_iff_ne.mpr c3
  have c3b2 : (l0.length == l1.length) = false := by first | simpa using c3 | (simp at c3 ⊢; omega)
  obtain rfl := Option.some.inj H
  go_enter Try.func86, Try.ntmps86
  go_wp2
  repeat (go_quiet (fail); try go_wp2)
  go_ret
  exact ⟨by first | rfl | (simp; done) | (simp [*]; done), by repeat (first | exact Drawn0.refl _ | apply Drawn0.step)⟩

/-! ### garderobelaw13_t: function 87 -/
def garderobelaw13_t.f (a0 : Int) (a1 : Int) : Option (Int × Int) := some (a0, a1)
set_option maxHeartbeats 8000000 in
set_option maxRecDepth 100000 in
theorem garderobelaw13_t.calls (a0 : Int) (a1 : Int) (r1 : Int) (r2 : Int) (w : World) (h : garderobelaw13_t.f a0 a1 = some (r1, r2)) :
  Calls Try.prog 87 #[.int .u8 a0, .int .u16 a1] w fun e w' => e = .returned (.agg #[.int .u8 r1, .int .u16 r2]) ∧ Below w.heap.size w w' := by
 have hu32 := Try.underlying32
 have HB := Aside0.mk (Below.refl w.heap.size w)
 have H : (some (a0, a1)) = some (r1, r2) := h
 clear h
 simp only [Option.some.injEq, Prod.mk.injEq] at H
 obtain ⟨rfl, rfl⟩ := H
 go_enter Try.func87, Try.ntmps87
 go_wp2_with (first | ((with_reducible refine gate_dst (N := 4) rfl ?_); refine box_event ?hg (N := 4) ?hd (cs := #[.int .u8 0, .int .u16 0]) (t := 32) ?hr ?_; (case hd => rfl); (case hg => rfl); (case hr => first | (go_simp; done) | (go_simp; rfl)); intro gb131 hg w3 hbox hb; have n0_ := Aside0.mk (below_step (qW HB.out) hb); have n1_ := Aside0.mk (hbox); have n2_ := Aside0.mk ((by rw [hg]; exact (below_size (qW HB.out)) : w.heap.size ≤ gb131)); have n3_ := Aside0.mk ((by rw [hg]; exact (below_size (qW HB.out)) : w.heap.size ≤ gb131)); clear HB; have HB := n0_; have BK131 := n1_; have GW131 := n2_; have GE131 := n3_; clear n0_ n1_ n2_ n3_; clear hb hbox hg; have hcz4_0 : w3.cell? ⟨gb131, 0, none⟩ = some (.int .u8 0) := (blk_cell BK131.out 0).trans rfl; have hcz4_1 : w3.cell? ⟨gb131, 1, none⟩ = some (.int .u16 0) := (blk_cell BK131.out 1).trans rfl; have hfz4_0 := blk_frozen BK131.out 0; have hfz4_1 := blk_frozen BK131.out 1))
 refine bodyPost_ret (results_cell_row rfl _ _ gb131 32 #[.int .u8 a0, .int .u16 a1] (0, 0) _ rfl (by (with_reducible repeat (first | refine blk_drewN ?_ _ | refine blk_drew ?_ | refine blk_alloc ?_ _)); refine blk_put (cs := #[.int .u8 a0, .int .u16 0]) ?_ 1 _ rfl; (with_reducible repeat (first | refine blk_drewN ?_ _ | refine blk_drew ?_ | refine blk_alloc ?_ _)); refine blk_put (cs := #[.int .u8 0, .int .u16 0]) ?_ 0 _ rfl; (with_reducible repeat (first | refine blk_drewN ?_ _ | refine blk_drew ?_ | refine blk_alloc ?_ _)); exact BK131.out) Try.underlying32 rfl (by kernel_rfl)) rfl ?_
 exact ⟨by first | rfl | (simp [errW_none, errW_some] <;> rfl) | (simp [*, errW_none, errW_some] <;> rfl), by repeat (first | (with_reducible first | exact HB.out | apply below_alloc | apply pw_below_drewN | apply below_drew1 | refine below_set ?_ GE131.out) | exact HB.out)⟩

end Go.Proofs.Ytjknnifcbcdjiaa.PHierAny
