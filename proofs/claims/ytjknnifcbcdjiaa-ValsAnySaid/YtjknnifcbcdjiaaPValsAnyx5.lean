/- Printed by a program of this session (pr.py). -/
import Derived.Test.YtjknnifcbcdjiaaPValsAnyx0
import Derived.Test.YtjknnifcbcdjiaaPValsAnyx2
import Derived.Test.YtjknnifcbcdjiaaPValsAnyx4
import Derived.Test.YtjknnifcbcdjiaaShort
namespace Go.Proofs.Ytjknnifcbcdjiaa.PValsAny
open Go.RowKit Go.Proofs.YtjknnifcbcdjiaaW.PrintWords Go.Proofs.YtjknnifcbcdjiaaW.PrintLast Go.Proofs.YtjknnifcbcdjiaaW.PrintMore Go.Proofs.Ytjknnifcbcdjiaa.Short
attribute [local go_sem] max2_int min2_int max_two min_two max_three min_three max_four min_four   -- for this text's walks alone
set_option linter.unusedVariables false
set_option linter.unusedSimpArgs false

attribute [local go_sem high] eqA56
/-! ### vals_Join: function 34 -/
mutual
def vals_Join.j0 : Nat → Bool → List (S103) → List (S38) → List (S206) → List (S117) → Int → Int → Int → Int → Int → Int → Int → Int → Int → Int → Int → Int → Option (Int × Int × Int × Int)
 | 0, _, _, _, _, _, _, _, _, _, _, _, _, _, _, _, _, _ => none
 | k + 1, x21, x122000, x122001, x122002, x122003, x123000, x123001, x123002, x123003, x124000, x124001, x124002, x124003, x126000, x126001, x126002, x126003 => if x21 = true then (some (x126000, x126001, x126002, x126003)) else (if (x123000 == x124000 && ((x123001 == x124001 && (x123002 == x124002)) && (x123003 == x124003))) = true then (some (x123000, x123001, x123002, x123003)) else (if x123000 = 3 then (vals_Join.j1 k (x124000 == 4) x122000 x122001 x122002 x122003 x123000 x123001 x123002 x123003 x124000 x124001 x124002 x124003 x126000 x126001 x126002 x126003) else (vals_Join.j1 k false x122000 x122001 x122002 x122003 x123000 x123001 x123002 x123003 x124000 x124001 x124002 x124003 x126000 x126001 x126002 x126003)))
def vals_Join.j1 : Nat → Bool → List (S103) → List (S38) → List (S206) → List (S117) → Int → Int → Int → Int → Int → Int → Int → Int → Int → Int → Int → Int → Option (Int × Int × Int × Int)
 | 0, _, _, _, _, _, _, _, _, _, _, _, _, _, _, _, _, _ => none
 | k + 1, x28, x122000, x122001, x122002, x122003, x123000, x123001, x123002, x123003, x124000, x124001, x124002, x124003, x126000, x126001, x126002, x126003 => if x28 = true then (some (x124000, x124001, x124002, x124003)) else (if x123000 = 4 then (vals_Join.j2 k (x124000 == 3) x122000 x122001 x122002 x122003 x123000 x123001 x123002 x123003 x124000 x124001 x124002 x124003 x126000 x126001 x126002 x126003) else (vals_Join.j2 k false x122000 x122001 x122002 x122003 x123000 x123001 x123002 x123003 x124000 x124001 x124002 x124003 x126000 x126001 x126002 x126003))
def vals_Join.j2 : Nat → Bool → List (S103) → List (S38) → List (S206) → List (S117) → Int → Int → Int → Int → Int → Int → Int → Int → Int → Int → Int → Int → Option (Int × Int × Int × Int)
 | 0, _, _, _, _, _, _, _, _, _, _, _, _, _, _, _, _, _ => none
 | k + 1, x38, x122000, x122001, x122002, x122003, x123000, x123001, x123002, x123003, x124000, x124001, x124002, x124003, x126000, x126001, x126002, x126003 => if x38 = true then (some (x123000, x123001, x123002, x123003)) else (if x123000 = 4 then (if x124000 = 4 then (if x123001 = x124001 then ((hier_Common.f x122000 x122001 x122002 x122003 (wrap64 (x123002)) (wrap64 (x124002))).bind fun t130 => (some (4, x123001, IntKind.u16.wrap (t130), 0))) else ((vals_object.f 0).bind fun bt131 => (some (bt131.1, bt131.2.1, bt131.2.2.1, bt131.2.2.2)))) else (some (x126000, x126001, x126002, x126003))) else (some (x126000, x126001, x126002, x126003)))
end
def vals_Join.f (k : Nat) (l0_0 : List (S103)) (l0_1 : List (S38)) (l0_2 : List (S206)) (l0_3 : List (S117)) (a1_0 : Int) (a1_1 : Int) (a1_2 : Int) (a1_3 : Int) (a2_0 : Int) (a2_1 : Int) (a2_2 : Int) (a2_3 : Int) : Option (Int × Int × Int × Int) := (vals_May.f k l0_0 l0_1 l0_2 l0_3 a1_0 a1_1 a1_2 a1_3).bind fun t126 => (if t126 = true then ((vals_May.f k l0_0 l0_1 l0_2 l0_3 a2_0 a2_1 a2_2 a2_3).bind fun t127 => (vals_Join.j0 k (!t127) l0_0 l0_1 l0_2 l0_3 a1_0 a1_1 a1_2 a1_3 a2_0 a2_1 a2_2 a2_3 1 0 0 0)) else (vals_Join.j0 k true l0_0 l0_1 l0_2 l0_3 a1_0 a1_1 a1_2 a1_3 a2_0 a2_1 a2_2 a2_3 1 0 0 0))
theorem vals_Join.mono_l : ∀ k, (∀ y0 y1 y2 y3 y4 y5 y6 y7 y8 y9 y10 y11 y12 y13 y14 y15 y16, LeO (vals_Join.j0 k y0 y1 y2 y3 y4 y5 y6 y7 y8 y9 y10 y11 y12 y13 y14 y15 y16) (vals_Join.j0 (k + 1) y0 y1 y2 y3 y4 y5 y6 y7 y8 y9 y10 y11 y12 y13 y14 y15 y16)) ∧ (∀ y0 y1 y2 y3 y4 y5 y6 y7 y8 y9 y10 y11 y12 y13 y14 y15 y16, LeO (vals_Join.j1 k y0 y1 y2 y3 y4 y5 y6 y7 y8 y9 y10 y11 y12 y13 y14 y15 y16) (vals_Join.j1 (k + 1) y0 y1 y2 y3 y4 y5 y6 y7 y8 y9 y10 y11 y12 y13 y14 y15 y16)) ∧ (∀ y0 y1 y2 y3 y4 y5 y6 y7 y8 y9 y10 y11 y12 y13 y14 y15 y16, LeO (vals_Join.j2 k y0 y1 y2 y3 y4 y5 y6 y7 y8 y9 y10 y11 y12 y13 y14 y15 y16) (vals_Join.j2 (k + 1) y0 y1 y2 y3 y4 y5 y6 y7 y8 y9 y10 y11 y12 y13 y14 y15 y16))
 | 0 => ⟨fun _ _ _ _ _ _ _ _ _ _ _ _ _ _ _ _ _ r h => by simp [vals_Join.j0] at h, fun _ _ _ _ _ _ _ _ _ _ _ _ _ _ _ _ _ r h => by simp [vals_Join.j1] at h, fun _ _ _ _ _ _ _ _ _ _ _ _ _ _ _ _ _ r h => by simp [vals_Join.j2] at h⟩
 | k + 1 => by
  obtain ⟨ih0, ih1, ih2⟩ := vals_Join.mono_l k
  refine ⟨?_, ?_, ?_⟩
  ·intro y0 y1 y2 y3 y4 y5 y6 y7 y8 y9 y10 y11 y12 y13 y14 y15 y16
   unfold vals_Join.j0
   repeat' first
   | (with_reducible exact ih0 _ _ _ _ _ _ _ _ _ _ _ _ _ _ _ _ _)
   | (with_reducible exact ih1 _ _ _ _ _ _ _ _ _ _ _ _ _ _ _ _ _)
   | (with_reducible exact ih2 _ _ _ _ _ _ _ _ _ _ _ _ _ _ _ _ _)
   | (with_reducible exact vals_May.mono _ _ _ _ _ _ _ _ _)
   | (with_reducible exact LeO.refl _)
   | (with_reducible exact LeO.none _)
   | (with_reducible refine LeO.ite ?_ ?_)
   | (with_reducible refine LeO.bind ?_ (fun _ => ?_))
   | exact ih0 _ _ _ _ _ _ _ _ _ _ _ _ _ _ _ _ _
   | exact ih1 _ _ _ _ _ _ _ _ _ _ _ _ _ _ _ _ _
   | exact ih2 _ _ _ _ _ _ _ _ _ _ _ _ _ _ _ _ _
   | exact vals_May.mono _ _ _ _ _ _ _ _ _
   | exact LeO.none _
   | refine LeO.ite ?_ ?_
   | refine LeO.bind ?_ (fun _ => ?_)
  ·intro y0 y1 y2 y3 y4 y5 y6 y7 y8 y9 y10 y11 y12 y13 y14 y15 y16
   unfold vals_Join.j1
   repeat' first
   | (with_reducible exact ih0 _ _ _ _ _ _ _ _ _ _ _ _ _ _ _ _ _)
   | (with_reducible exact ih1 _ _ _ _ _ _ _ _ _ _ _ _ _ _ _ _ _)
   | (with_reducible exact ih2 _ _ _ _ _ _ _ _ _ _ _ _ _ _ _ _ _)
   | (with_reducible exact vals_May.mono _ _ _ _ _ _ _ _ _)
   | (with_reducible exact LeO.refl _)
   | (with_reducible exact LeO.none _)
   | (with_reducible refine LeO.ite ?_ ?_)
   | (with_reducible refine LeO.bind ?_ (fun _ => ?_))
   | exact ih0 _ _ _ _ _ _ _ _ _ _ _ _ _ _ _ _ _
   | exact ih1 _ _ _ _ _ _ _ _ _ _ _ _ _ _ _ _ _
   | exact ih2 _ _ _ _ _ _ _ _ _ _ _ _ _ _ _ _ _
   | exact vals_May.mono _ _ _ _ _ _ _ _ _
   | exact LeO.none _
   | refine LeO.ite ?_ ?_
   | refine LeO.bind ?_ (fun _ => ?_)
  ·intro y0 y1 y2 y3 y4 y5 y6 y7 y8 y9 y10 y11 y12 y13 y14 y15 y16
   unfold vals_Join.j2
   repeat' first
   | (with_reducible exact ih0 _ _ _ _ _ _ _ _ _ _ _ _ _ _ _ _ _)
   | (with_reducible exact ih1 _ _ _ _ _ _ _ _ _ _ _ _ _ _ _ _ _)
   | (with_reducible exact ih2 _ _ _ _ _ _ _ _ _ _ _ _ _ _ _ _ _)
   | (with_reducible exact vals_May.mono _ _ _ _ _ _ _ _ _)
   | (with_reducible exact LeO.refl _)
   | (with_reducible exact LeO.none _)
   | (with_reducible refine LeO.ite ?_ ?_)
   | (with_reducible refine LeO.bind ?_ (fun _ => ?_))
   | exact ih0 _ _ _ _ _ _ _ _ _ _ _ _ _ _ _ _ _
   | exact ih1 _ _ _ _ _ _ _ _ _ _ _ _ _ _ _ _ _
   | exact ih2 _ _ _ _ _ _ _ _ _ _ _ _ _ _ _ _ _
   | exact vals_May.mono _ _ _ _ _ _ _ _ _
   | exact LeO.none _
   | refine LeO.ite ?_ ?_
   | refine LeO.bind ?_ (fun _ => ?_)
theorem vals_Join.mono : ∀ a0 a1 a2 a3 a4 a5 a6 a7 a8 a9 a10 a11 k, LeO (vals_Join.f k a0 a1 a2 a3 a4 a5 a6 a7 a8 a9 a10 a11) (vals_Join.f (k + 1) a0 a1 a2 a3 a4 a5 a6 a7 a8 a9 a10 a11) := by
 intro a0 a1 a2 a3 a4 a5 a6 a7 a8 a9 a10 a11 k
 obtain ⟨ih0, ih1, ih2⟩ := vals_Join.mono_l k
 unfold vals_Join.f
 repeat' first
   | (with_reducible exact ih0 _ _ _ _ _ _ _ _ _ _ _ _ _ _ _ _ _)
   | (with_reducible exact ih1 _ _ _ _ _ _ _ _ _ _ _ _ _ _ _ _ _)
   | (with_reducible exact ih2 _ _ _ _ _ _ _ _ _ _ _ _ _ _ _ _ _)
   | (with_reducible exact vals_May.mono _ _ _ _ _ _ _ _ _)
   | (with_reducible exact LeO.refl _)
   | (with_reducible exact LeO.none _)
   | (with_reducible refine LeO.ite ?_ ?_)
   | (with_reducible refine LeO.bind ?_ (fun _ => ?_))
   | exact ih0 _ _ _ _ _ _ _ _ _ _ _ _ _ _ _ _ _
   | exact ih1 _ _ _ _ _ _ _ _ _ _ _ _ _ _ _ _ _
   | exact ih2 _ _ _ _ _ _ _ _ _ _ _ _ _ _ _ _ _
   | exact vals_May.mono _ _ _ _ _ _ _ _ _
   | exact LeO.none _
   | refine LeO.ite ?_ ?_
   | refine LeO.bind ?_ (fun _ => ?_)
def vals_Join.T12 : Bool × List (List Nat × List Nat) := (true, [([], []), ([0], [0]), ([], []), ([2], [2]), ([], []), ([], []), ([4, 1, 0, 1, 4, 5], [1, 4]), ([5, 3, 6, 0, 1, 2, 3, 4, 5, 6], [3, 5])])
def vals_Join.B12 : List Nat := [0, 1, 0, 4, 0, 0, 51, 127]
theorem vals_Join.tab12 : rtab .any (opsOf Try.f34 12) = vals_Join.T12 := by kernel_rfl
theorem vals_Join.bits12 : waitsOk vals_Join.T12.2 vals_Join.B12 = true := by kernel_rfl
set_option maxHeartbeats 8000000 in
set_option maxRecDepth 100000 in
theorem vals_Join.calls (k : Nat) (A0_0 : Option Addr) (c0_0 : Nat) (l0_0 : List (S103)) (A0_1 : Option Addr) (c0_1 : Nat) (l0_1 : List (S38)) (A0_2 : Option Addr) (c0_2 : Nat) (l0_2 : List (S206)) (A0_3 : Option Addr) (c0_3 : Nat) (l0_3 : List (S117)) (a1_0 : Int) (a1_1 : Int) (a1_2 : Int) (a1_3 : Int) (a2_0 : Int) (a2_1 : Int) (a2_2 : Int) (a2_3 : Int) (r1 : Int) (r2 : Int) (r3 : Int) (r4 : Int) (w : World) (hr0_0 : Kd.C k103 w A0_0 l0_0.length l0_0) (hc0_0 : l0_0.length ≤ c0_0) (hr0_1 : Kd.C k38 w A0_1 l0_1.length l0_1) (hc0_1 : l0_1.length ≤ c0_1) (hr0_2 : Kd.C k206 w A0_2 l0_2.length l0_2) (hc0_2 : l0_2.length ≤ c0_2) (hr0_3 : Kd.C k117 w A0_3 l0_3.length l0_3) (hc0_3 : l0_3.length ≤ c0_3) (h : vals_Join.f k l0_0 l0_1 l0_2 l0_3 a1_0 a1_1 a1_2 a1_3 a2_0 a2_1 a2_2 a2_3 = some (r1, r2, r3, r4)) :
  Calls Try.prog 34 #[.agg #[.slice A0_0 l0_0.length c0_0, .slice A0_1 l0_1.length c0_1, .slice A0_2 l0_2.length c0_2, .slice A0_3 l0_3.length c0_3], .agg #[.int .u8 a1_0, .int .u8 a1_1, .int .u16 a1_2, .int .i64 a1_3], .agg #[.int .u8 a2_0, .int .u8 a2_1, .int .u16 a2_2, .int .i64 a2_3]] w fun e w' => e = .returned (.agg #[.int .u8 r1, .int .u8 r2, .int .u16 r3, .int .i64 r4]) ∧ Below w.heap.size w w' := by
 have hu27 := Try.underlying27
 have hu56 := Try.underlying56
 have hu32 := Try.underlying32
 have HR0_0 := Aside0.mk hr0_0
 have HC0_0 := Aside0.mk hc0_0
 clear hr0_0 hc0_0
 have HR0_1 := Aside0.mk hr0_1
 have HC0_1 := Aside0.mk hc0_1
 clear hr0_1 hc0_1
 have HR0_2 := Aside0.mk hr0_2
 have HC0_2 := Aside0.mk hc0_2
 clear hr0_2 hc0_2
 have HR0_3 := Aside0.mk hr0_3
 have HC0_3 := Aside0.mk hc0_3
 clear hr0_3 hc0_3
 have HB := Aside0.mk (Below.refl w.heap.size w)
 have H : ((vals_May.f k l0_0 l0_1 l0_2 l0_3 a1_0 a1_1 a1_2 a1_3).bind fun t126 => (if t126 = true then ((vals_May.f k l0_0 l0_1 l0_2 l0_3 a2_0 a2_1 a2_2 a2_3).bind fun t127 => (vals_Join.j0 k (!t127) l0_0 l0_1 l0_2 l0_3 a1_0 a1_1 a1_2 a1_3 a2_0 a2_1 a2_2 a2_3 1 0 0 0)) else (vals_Join.j0 k true l0_0 l0_1 l0_2 l0_3 a1_0 a1_1 a1_2 a1_3 a2_0 a2_1 a2_2 a2_3 1 0 0 0))) = some (r1, r2, r3, r4) := h
 clear h
 have HC4 := Aside0.mk H
 clear H
 go_enter Try.func34, Try.ntmps34
 go_upto_region 2 with (first | ((with_reducible refine gate_dst (N := 3) rfl ?_); refine box_event ?hg (N := 3) ?hd (cs := #[.slice A0_0 l0_0.length c0_0, .slice A0_1 l0_1.length c0_1, .slice A0_2 l0_2.length c0_2, .slice A0_3 l0_3.length c0_3]) (t := 27) ?hr ?_; (case hd => rfl); (case hg => rfl); (case hr => first | (go_simp; done) | (go_simp; rfl)); intro gb121 hg w5 hbox hb; have n0_ := Aside0.mk (below_step (qW HB.out) hb); have n1_ := Aside0.mk (hbox); have n2_ := Aside0.mk ((by rw [hg]; exact (below_size (qW HB.out)) : w.heap.size ≤ gb121)); have n3_ := Aside0.mk ((by rw [hg]; exact (below_size (qW HB.out)) : w.heap.size ≤ gb121)); clear HB; have HB := n0_; have BK121 := n1_; have GW121 := n2_; have GE121 := n3_; clear n0_ n1_ n2_ n3_; clear hb hbox hg) | ((with_reducible refine gate_dst (N := 4) rfl ?_); refine box_event ?hg (N := 4) ?hd (cs := #[.int .u8 a1_0, .int .u8 a1_1, .int .u16 a1_2, .int .i64 a1_3]) (t := 56) ?hr ?_; (case hd => rfl); (case hg => rfl); (case hr => first | (go_simp; done) | (go_simp; rfl)); intro gb122 hg w6 hbox hb; have n0_ := Aside0.mk (blk_below (qb BK121.out) hb); have n1_ := Aside0.mk (below_step (qW HB.out) hb); have n2_ := Aside0.mk (hbox); have n3_ := Aside0.mk ((by rw [hg]; exact (below_size (qW HB.out)) : w.heap.size ≤ gb122)); have n4_ := Aside0.mk ((by rw [hg]; exact (below_size (qW HB.out)) : w.heap.size ≤ gb122)); have n5_ := Aside0.mk ((by rw [hg]; exact Nat.ne_of_lt (blk_lt (qb BK121.out)) : gb121 ≠ gb122)); have n6_ := Aside0.mk ((by rw [hg]; exact Nat.ne_of_gt (blk_lt (qb BK121.out)) : gb122 ≠ gb121)); clear BK121 HB; have BK121 := n0_; have HB := n1_; have BK122 := n2_; have GW122 := n3_; have GE122 := n4_; have NB121_122 := n5_; have NB122_121 := n6_; clear n0_ n1_ n2_ n3_ n4_ n5_ n6_; clear hb hbox hg) | ((with_reducible refine gate_dst (N := 5) rfl ?_); refine box_event ?hg (N := 5) ?hd (cs := #[.int .u8 a2_0, .int .u8 a2_1, .int .u16 a2_2, .int .i64 a2_3]) (t := 56) ?hr ?_; (case hd => rfl); (case hg => rfl); (case hr => first | (go_simp; done) | (go_simp; rfl)); intro gb123 hg w7 hbox hb; have n0_ := Aside0.mk (blk_below (qb BK121.out) hb); have n1_ := Aside0.mk (blk_below (qb BK122.out) hb); have n2_ := Aside0.mk (below_step (qW HB.out) hb); have n3_ := Aside0.mk (hbox); have n4_ := Aside0.mk ((by rw [hg]; exact (below_size (qW HB.out)) : w.heap.size ≤ gb123)); have n5_ := Aside0.mk ((by rw [hg]; exact (below_size (qW HB.out)) : w.heap.size ≤ gb123)); have n6_ := Aside0.mk ((by rw [hg]; exact Nat.ne_of_lt (blk_lt (qb BK121.out)) : gb121 ≠ gb123)); have n7_ := Aside0.mk ((by rw [hg]; exact Nat.ne_of_gt (blk_lt (qb BK121.out)) : gb123 ≠ gb121)); have n8_ := Aside0.mk ((by rw [hg]; exact Nat.ne_of_lt (blk_lt (qb BK122.out)) : gb122 ≠ gb123)); have n9_ := Aside0.mk ((by rw [hg]; exact Nat.ne_of_gt (blk_lt (qb BK122.out)) : gb123 ≠ gb122)); clear BK121 BK122 HB; have BK121 := n0_; have BK122 := n1_; have HB := n2_; have BK123 := n3_; have GW123 := n4_; have GE123 := n5_; have NB121_123 := n6_; have NB123_121 := n7_; have NB122_123 := n8_; have NB123_122 := n9_; clear n0_ n1_ n2_ n3_ n4_ n5_ n6_ n7_ n8_ n9_; clear hb hbox hg) | ((with_reducible refine gate_dst (N := 6) rfl ?_); refine box_event ?hg (N := 6) ?hd (cs := #[.int .u8 0, .int .u8 0, .int .u16 0, .int .i64 0]) (t := 56) ?hr ?_; (case hd => rfl); (case hg => rfl); (case hr => first | (go_simp; done) | (go_simp; rfl)); intro gb124 hg w8 hbox hb; have n0_ := Aside0.mk (blk_below (qb BK121.out) hb); have n1_ := Aside0.mk (blk_below (qb BK122.out) hb); have n2_ := Aside0.mk (blk_below (qb BK123.out) hb); have n3_ := Aside0.mk (below_step (qW HB.out) hb); have n4_ := Aside0.mk (hbox); have n5_ := Aside0.mk ((by rw [hg]; exact (below_size (qW HB.out)) : w.heap.size ≤ gb124)); have n6_ := Aside0.mk ((by rw [hg]; exact (below_size (qW HB.out)) : w.heap.size ≤ gb124)); have n7_ := Aside0.mk ((by rw [hg]; exact Nat.ne_of_lt (blk_lt (qb BK121.out)) : gb121 ≠ gb124)); have n8_ := Aside0.mk ((by rw [hg]; exact Nat.ne_of_gt (blk_lt (qb BK121.out)) : gb124 ≠ gb121)); have n9_ := Aside0.mk ((by rw [hg]; exact Nat.ne_of_lt (blk_lt (qb BK122.out)) : gb122 ≠ gb124)); have n10_ := Aside0.mk ((by rw [hg]; exact Nat.ne_of_gt (blk_lt (qb BK122.out)) : gb124 ≠ gb122)); have n11_ := Aside0.mk ((by rw [hg]; exact Nat.ne_of_lt (blk_lt (qb BK123.out)) : gb123 ≠ gb124)); have n12_ := Aside0.mk ((by rw [hg]; exact Nat.ne_of_gt (blk_lt (qb BK123.out)) : gb124 ≠ gb123)); clear BK121 BK122 BK123 HB; have BK121 := n0_; have BK122 := n1_; have BK123 := n2_; have HB := n3_; have BK124 := n4_; have GW124 := n5_; have GE124 := n6_; have NB121_124 := n7_; have NB124_121 := n8_; have NB122_124 := n9_; have NB124_122 := n10_; have NB123_124 := n11_; have NB124_123 := n12_; clear n0_ n1_ n2_ n3_ n4_ n5_ n6_ n7_ n8_ n9_ n10_ n11_ n12_; clear hb hbox hg) | ((with_reducible refine gate_dst (N := 7) rfl ?_); refine box_event ?hg (N := 7) ?hd (cs := #[.int .u8 0, .int .u8 0, .int .u16 0, .int .i64 0]) (t := 56) ?hr ?_; (case hd => rfl); (case hg => rfl); (case hr => first | (go_simp; done) | (go_simp; rfl)); intro gb125 hg w9 hbox hb; have n0_ := Aside0.mk (blk_below (qb BK121.out) hb); have n1_ := Aside0.mk (blk_below (qb BK122.out) hb); have n2_ := Aside0.mk (blk_below (qb BK123.out) hb); have n3_ := Aside0.mk (blk_below (qb BK124.out) hb); have n4_ := Aside0.mk (below_step (qW HB.out) hb); have n5_ := Aside0.mk (hbox); have n6_ := Aside0.mk ((by rw [hg]; exact (below_size (qW HB.out)) : w.heap.size ≤ gb125)); have n7_ := Aside0.mk ((by rw [hg]; exact (below_size (qW HB.out)) : w.heap.size ≤ gb125)); have n8_ := Aside0.mk ((by rw [hg]; exact Nat.ne_of_lt (blk_lt (qb BK121.out)) : gb121 ≠ gb125)); have n9_ := Aside0.mk ((by rw [hg]; exact Nat.ne_of_gt (blk_lt (qb BK121.out)) : gb125 ≠ gb121)); have n10_ := Aside0.mk ((by rw [hg]; exact Nat.ne_of_lt (blk_lt (qb BK122.out)) : gb122 ≠ gb125)); have n11_ := Aside0.mk ((by rw [hg]; exact Nat.ne_of_gt (blk_lt (qb BK122.out)) : gb125 ≠ gb122)); have n12_ := Aside0.mk ((by rw [hg]; exact Nat.ne_of_lt (blk_lt (qb BK123.out)) : gb123 ≠ gb125)); have n13_ := Aside0.mk ((by rw [hg]; exact Nat.ne_of_gt (blk_lt (qb BK123.out)) : gb125 ≠ gb123)); have n14_ := Aside0.mk ((by rw [hg]; exact Nat.ne_of_lt (blk_lt (qb BK124.out)) : gb124 ≠ gb125)); have n15_ := Aside0.mk ((by rw [hg]; exact Nat.ne_of_gt (blk_lt (qb BK124.out)) : gb125 ≠ gb124)); clear BK121 BK122 BK123 BK124 HB; have BK121 := n0_; have BK122 := n1_; have BK123 := n2_; have BK124 := n3_; have HB := n4_; have BK125 := n5_; have GW125 := n6_; have GE125 := n7_; have NB121_125 := n8_; have NB125_121 := n9_; have NB122_125 := n10_; have NB125_122 := n11_; have NB123_125 := n12_; have NB125_123 := n13_; have NB124_125 := n14_; have NB125_124 := n15_; clear n0_ n1_ n2_ n3_ n4_ n5_ n6_ n7_ n8_ n9_ n10_ n11_ n12_ n13_ n14_ n15_; clear hb hbox hg; have hnb10 := NB125_121.out; have hnc10 := NB121_125.out; have hnb11 := NB125_122.out; have hnc11 := NB122_125.out; have hnb12 := NB125_123.out; have hnc12 := NB123_125.out; have hnb13 := NB125_124.out; have hnc13 := NB124_125.out; have hcz14_0 : w9.cell? ⟨gb125, 0, none⟩ = some (.int .u8 0) := (blk_cell BK125.out 0).trans rfl; have hcz14_1 : w9.cell? ⟨gb125, 1, none⟩ = some (.int .u8 0) := (blk_cell BK125.out 1).trans rfl; have hcz14_2 : w9.cell? ⟨gb125, 2, none⟩ = some (.int .u16 0) := (blk_cell BK125.out 2).trans rfl; have hcz14_3 : w9.cell? ⟨gb125, 3, none⟩ = some (.int .i64 0) := (blk_cell BK125.out 3).trans rfl; have hfz14_0 := blk_frozen BK125.out 0; have hfz14_1 := blk_frozen BK125.out 1; have hfz14_2 := blk_frozen BK125.out 2; have hfz14_3 := blk_frozen BK125.out 3))
 (try simp only [Act.put, List.setIfInBounds_toArray, List.set_cons_zero, List.set_cons_succ])
 go_cut [21] (fun v21 wc => ∃ (kq : Nat) (x21_3 : Bool), v21 = .bool x21_3 ∧ Aside0 (vals_Join.j0 kq x21_3 l0_0 l0_1 l0_2 l0_3 a1_0 a1_1 a1_2 a1_3 a2_0 a2_1 a2_2 a2_3 1 0 0 0 = some (r1, r2, r3, r4)) ∧ Aside0 (kq ≤ k) ∧ Aside0 (wc.heap[gb121]? = some (.cells #[(.slice A0_0 l0_0.length c0_0), (.slice A0_1 l0_1.length c0_1), (.slice A0_2 l0_2.length c0_2), (.slice A0_3 l0_3.length c0_3)] 27 (0, 0))) ∧ Aside0 (wc.heap[gb122]? = some (.cells #[.int .u8 a1_0, .int .u8 a1_1, .int .u16 a1_2, .int .i64 a1_3] 56 (0, 0))) ∧ Aside0 (wc.heap[gb123]? = some (.cells #[.int .u8 a2_0, .int .u8 a2_1, .int .u16 a2_2, .int .i64 a2_3] 56 (0, 0))) ∧ Aside0 (wc.heap[gb124]? = some (.cells #[.int .u8 0, .int .u8 0, .int .u16 0, .int .i64 0] 56 (0, 0))) ∧ Aside0 (wc.heap[gb125]? = some (.cells #[.int .u8 1, .int .u8 0, .int .u16 0, .int .i64 0] 56 (0, 0))) ∧ Aside0 (Below w.heap.size w wc))
 case first =>
  have H := HC4.out
  clear HC4
  replace H := Option.bind_eq_some_iff.mp H
  obtain ⟨t126, A150, H⟩ := H
  replace H : (if t126 = true then ((vals_May.f k l0_0 l0_1 l0_2 l0_3 a2_0 a2_1 a2_2 a2_3).bind fun t127 => (vals_Join.j0 k (!t127) l0_0 l0_1 l0_2 l0_3 a1_0 a1_1 a1_2 a1_3 a2_0 a2_1 a2_2 a2_3 1 0 0 0)) else (vals_Join.j0 k true l0_0 l0_1 l0_2 l0_3 a1_0 a1_1 a1_2 a1_3 a2_0 a2_1 a2_2 a2_3 1 0 0 0)) = some (r1, r2, r3, r4) := H
  have A15 := Aside0.mk A150
  clear A150
  by_cases c16 : t126 = true
  ·subst c16
   have H1 : ((vals_May.f k l0_0 l0_1 l0_2 l0_3 a2_0 a2_1 a2_2 a2_3).bind fun t127 => (vals_Join.j0 k (!t127) l0_0 l0_1 l0_2 l0_3 a1_0 a1_1 a1_2 a1_3 a2_0 a2_1 a2_2 a2_3 1 0 0 0)) = some (r1, r2, r3, r4) := by rw [if_pos rfl] at H; exact H
   clear H
   have H := H1
   clear H1
   replace H := Option.bind_eq_some_iff.mp H
   obtain ⟨t127, A170, H⟩ := H
   replace H : (vals_Join.j0 k (!t127) l0_0 l0_1 l0_2 l0_3 a1_0 a1_1 a1_2 a1_3 a2_0 a2_1 a2_2 a2_3 1 0 0 0) = some (r1, r2, r3, r4) := H
   have A17 := Aside0.mk A170
   clear A170
   have H' := Aside0.mk H
   clear H
   have hnb18 := NB121_122.out
   have hnc18 := NB122_121.out
   have hnb19 := NB121_123.out
   have hnc19 := NB123_121.out
   have hnb20 := NB121_124.out
   have hnc20 := NB124_121.out
   have hnb21 := NB121_125.out
   have hnc21 := NB125_121.out
   have hcz22_0 : w9.cell? ⟨gb121, 0, none⟩ = some (.slice A0_0 l0_0.length c0_0) := (blk_cell BK121.out 0).trans rfl
   have hcz22_1 : w9.cell? ⟨gb121, 1, none⟩ = some (.slice A0_1 l0_1.length c0_1) := (blk_cell BK121.out 1).trans rfl
   have hcz22_2 : w9.cell? ⟨gb121, 2, none⟩ = some (.slice A0_2 l0_2.length c0_2) := (blk_cell BK121.out 2).trans rfl
   have hcz22_3 : w9.cell? ⟨gb121, 3, none⟩ = some (.slice A0_3 l0_3.length c0_3) := (blk_cell BK121.out 3).trans rfl
   have hfz22_0 := blk_frozen BK121.out 0
   have hfz22_1 := blk_frozen BK121.out 1
   have hfz22_2 := blk_frozen BK121.out 2
   have hfz22_3 := blk_frozen BK121.out 3
   have hnb23 := NB122_123.out
   have hnc23 := NB123_122.out
   have hnb24 := NB122_124.out
   have hnc24 := NB124_122.out
   have hnb25 := NB122_125.out
   have hnc25 := NB125_122.out
   have hcz26_0 : w9.cell? ⟨gb122, 0, none⟩ = some (.int .u8 a1_0) := (blk_cell BK122.out 0).trans rfl
   have hcz26_1 : w9.cell? ⟨gb122, 1, none⟩ = some (.int .u8 a1_1) := (blk_cell BK122.out 1).trans rfl
   have hcz26_2 : w9.cell? ⟨gb122, 2, none⟩ = some (.int .u16 a1_2) := (blk_cell BK122.out 2).trans rfl
   have hcz26_3 : w9.cell? ⟨gb122, 3, none⟩ = some (.int .i64 a1_3) := (blk_cell BK122.out 3).trans rfl
   have hfz26_0 := blk_frozen BK122.out 0
   have hfz26_1 := blk_frozen BK122.out 1
   have hfz26_2 := blk_frozen BK122.out 2
   have hfz26_3 := blk_frozen BK122.out 3
   go_wp2_with (first | ((with_reducible refine gate_callee (f := 37) rfl ?_); refine goesL_ (some 14) rfl rfl Try.func37 (by kernel_rfl) rfl #[.agg #[.slice A0_0 l0_0.length c0_0, .slice A0_1 l0_1.length c0_1, .slice A0_2 l0_2.length c0_2, .slice A0_3 l0_3.length c0_3], .agg #[.int .u8 a1_0, .int .u8 a1_1, .int .u16 a1_2, .int .i64 a1_3]] rfl (by (try simp only [List.map_toArray, List.map_cons, List.map_nil]); first | done | rfl | (simp only [List.length_drop, List.length_take]; rfl)) ?_; (with_reducible refine (vals_May.calls k _ _ l0_0 _ _ l0_1 _ _ l0_2 _ _ l0_3 a1_0 a1_1 a1_2 a1_3 true _ ?side1 ?side2 ?side3 ?side4 ?side5 ?side6 ?side7 ?side8 A15.out).mono ?_); (case side1 => exact Kd.C_below HR0_0.out (qW HB.out)); (case side2 => exact HC0_0.out); (case side3 => exact Kd.C_below HR0_1.out (qW HB.out)); (case side4 => exact HC0_1.out); (case side5 => exact Kd.C_below HR0_2.out (qW HB.out)); (case side6 => exact HC0_2.out); (case side7 => exact Kd.C_below HR0_3.out (qW HB.out)); (case side8 => exact HC0_3.out); rintro e w27 ⟨rfl, hb⟩; refine ⟨_, rfl, ?_⟩; have n0_ := Aside0.mk (blk_below (qf BK121.out) hb); have n1_ := Aside0.mk (blk_below (qf BK122.out) hb); have n2_ := Aside0.mk (blk_below (qf BK123.out) hb); have n3_ := Aside0.mk (blk_below (qf BK124.out) hb); have n4_ := Aside0.mk (blk_below (g := gb125) (o := .cells #[.int .u8 1, .int .u8 0, .int .u16 0, .int .i64 0] 56 (0, 0)) (by (with_reducible repeat (first | refine blk_drewN ?_ _ | refine blk_drew ?_ | refine blk_alloc ?_ _)); refine blk_put (cs := #[.int .u8 1, .int .u8 0, .int .u16 0, .int .i64 0]) ?_ 3 _ rfl; (with_reducible repeat (first | refine blk_drewN ?_ _ | refine blk_drew ?_ | refine blk_alloc ?_ _)); refine blk_put (cs := #[.int .u8 1, .int .u8 0, .int .u16 0, .int .i64 0]) ?_ 2 _ rfl; (with_reducible repeat (first | refine blk_drewN ?_ _ | refine blk_drew ?_ | refine blk_alloc ?_ _)); refine blk_put (cs := #[.int .u8 1, .int .u8 0, .int .u16 0, .int .i64 0]) ?_ 1 _ rfl; (with_reducible repeat (first | refine blk_drewN ?_ _ | refine blk_drew ?_ | refine blk_alloc ?_ _)); refine blk_put (cs := #[.int .u8 0, .int .u8 0, .int .u16 0, .int .i64 0]) ?_ 0 _ rfl; (with_reducible repeat (first | refine blk_drewN ?_ _ | refine blk_drew ?_ | refine blk_alloc ?_ _)); exact BK125.out) hb); have n5_ := Aside0.mk (below_step (qW HB.out) hb); clear BK121 BK122 BK123 BK124 BK125 HB; have BK121 := n0_; have BK122 := n1_; have BK123 := n2_; have BK124 := n3_; have BK125 := n4_; have HB := n5_; clear n0_ n1_ n2_ n3_ n4_ n5_; (try clear hb); (try clear hb2); (try clear hk); (try clear hi); have hcz28_0 : w27.cell? ⟨gb121, 0, none⟩ = some (.slice A0_0 l0_0.length c0_0) := (blk_cell BK121.out 0).trans rfl; have hcz28_1 : w27.cell? ⟨gb121, 1, none⟩ = some (.slice A0_1 l0_1.length c0_1) := (blk_cell BK121.out 1).trans rfl; have hcz28_2 : w27.cell? ⟨gb121, 2, none⟩ = some (.slice A0_2 l0_2.length c0_2) := (blk_cell BK121.out 2).trans rfl; have hcz28_3 : w27.cell? ⟨gb121, 3, none⟩ = some (.slice A0_3 l0_3.length c0_3) := (blk_cell BK121.out 3).trans rfl; have hfz28_0 := blk_frozen BK121.out 0; have hfz28_1 := blk_frozen BK121.out 1; have hfz28_2 := blk_frozen BK121.out 2; have hfz28_3 := blk_frozen BK121.out 3; have hnb29 := NB123_124.out; have hnc29 := NB124_123.out; have hnb30 := NB123_125.out; have hnc30 := NB125_123.out; have hcz31_0 : w27.cell? ⟨gb123, 0, none⟩ = some (.int .u8 a2_0) := (blk_cell BK123.out 0).trans rfl; have hcz31_1 : w27.cell? ⟨gb123, 1, none⟩ = some (.int .u8 a2_1) := (blk_cell BK123.out 1).trans rfl; have hcz31_2 : w27.cell? ⟨gb123, 2, none⟩ = some (.int .u16 a2_2) := (blk_cell BK123.out 2).trans rfl; have hcz31_3 : w27.cell? ⟨gb123, 3, none⟩ = some (.int .i64 a2_3) := (blk_cell BK123.out 3).trans rfl; have hfz31_0 := blk_frozen BK123.out 0; have hfz31_1 := blk_frozen BK123.out 1; have hfz31_2 := blk_frozen BK123.out 2; have hfz31_3 := blk_frozen BK123.out 3) | (go_at_call 37; (with_reducible refine (vals_May.calls k _ _ l0_0 _ _ l0_1 _ _ l0_2 _ _ l0_3 a2_0 a2_1 a2_2 a2_3 t127 _ ?side1 ?side2 ?side3 ?side4 ?side5 ?side6 ?side7 ?side8 A17.out).mono ?_); (case side1 => exact qC (Kd.C_below HR0_0.out HB.out)); (case side2 => exact HC0_0.out); (case side3 => exact qC (Kd.C_below HR0_1.out HB.out)); (case side4 => exact HC0_1.out); (case side5 => exact qC (Kd.C_below HR0_2.out HB.out)); (case side6 => exact HC0_2.out); (case side7 => exact qC (Kd.C_below HR0_3.out HB.out)); (case side8 => exact HC0_3.out); rintro e w32 ⟨rfl, hb⟩; have n0_ := Aside0.mk (blk_below (qb BK121.out) hb); have n1_ := Aside0.mk (blk_below (qb BK122.out) hb); have n2_ := Aside0.mk (blk_below (qb BK123.out) hb); have n3_ := Aside0.mk (blk_below (qb BK124.out) hb); have n4_ := Aside0.mk (blk_below (qb BK125.out) hb); have n5_ := Aside0.mk (below_step (qW HB.out) hb); clear BK121 BK122 BK123 BK124 BK125 HB; have BK121 := n0_; have BK122 := n1_; have BK123 := n2_; have BK124 := n3_; have BK125 := n4_; have HB := n5_; clear n0_ n1_ n2_ n3_ n4_ n5_; (try clear hb); (try clear hb2); (try clear hk); (try clear hi)))
   go_meet
   case rel => exact ⟨_, (!t127), (by first | rfl | (simp; done) | (simp [*]; done)), H', ⟨by first | omega | exact Nat.le_refl _⟩, ⟨qf BK121.out⟩, ⟨qf BK122.out⟩, ⟨qf BK123.out⟩, ⟨qf BK124.out⟩, ⟨qf BK125.out⟩, ⟨qW HB.out⟩⟩
  ·replace c16 := Bool.eq_false_iff.mpr c16
   subst c16
   have H1 : (vals_Join.j0 k true l0_0 l0_1 l0_2 l0_3 a1_0 a1_1 a1_2 a1_3 a2_0 a2_1 a2_2 a2_3 1 0 0 0) = some (r1, r2, r3, r4) := by rw [if_neg (show ¬ (false = true) by decide)] at H; exact H
   clear H
   have H := H1
   clear H1
   have H' := Aside0.mk H
   clear H
   have hnb33 := NB121_122.out
   have hnc33 := NB122_121.out
   have hnb34 := NB121_123.out
   have hnc34 := NB123_121.out
   have hnb35 := NB121_124.out
   have hnc35 := NB124_121.out
   have hnb36 := NB121_125.out
   have hnc36 := NB125_121.out
   have hcz37_0 : w9.cell? ⟨gb121, 0, none⟩ = some (.slice A0_0 l0_0.length c0_0) := (blk_cell BK121.out 0).trans rfl
   have hcz37_1 : w9.cell? ⟨gb121, 1, none⟩ = some (.slice A0_1 l0_1.length c0_1) := (blk_cell BK121.out 1).trans rfl
   have hcz37_2 : w9.cell? ⟨gb121, 2, none⟩ = some (.slice A0_2 l0_2.length c0_2) := (blk_cell BK121.out 2).trans rfl
   have hcz37_3 : w9.cell? ⟨gb121, 3, none⟩ = some (.slice A0_3 l0_3.length c0_3) := (blk_cell BK121.out 3).trans rfl
   have hfz37_0 := blk_frozen BK121.out 0
   have hfz37_1 := blk_frozen BK121.out 1
   have hfz37_2 := blk_frozen BK121.out 2
   have hfz37_3 := blk_frozen BK121.out 3
   have hnb38 := NB122_123.out
   have hnc38 := NB123_122.out
   have hnb39 := NB122_124.out
   have hnc39 := NB124_122.out
   have hnb40 := NB122_125.out
   have hnc40 := NB125_122.out
   have hcz41_0 : w9.cell? ⟨gb122, 0, none⟩ = some (.int .u8 a1_0) := (blk_cell BK122.out 0).trans rfl
   have hcz41_1 : w9.cell? ⟨gb122, 1, none⟩ = some (.int .u8 a1_1) := (blk_cell BK122.out 1).trans rfl
   have hcz41_2 : w9.cell? ⟨gb122, 2, none⟩ = some (.int .u16 a1_2) := (blk_cell BK122.out 2).trans rfl
   have hcz41_3 : w9.cell? ⟨gb122, 3, none⟩ = some (.int .i64 a1_3) := (blk_cell BK122.out 3).trans rfl
   have hfz41_0 := blk_frozen BK122.out 0
   have hfz41_1 := blk_frozen BK122.out 1
   have hfz41_2 := blk_frozen BK122.out 2
   have hfz41_3 := blk_frozen BK122.out 3
   go_wp2_with (first | ((with_reducible refine gate_callee (f := 37) rfl ?_); refine goesL_ (some 14) rfl rfl Try.func37 (by kernel_rfl) rfl #[.agg #[.slice A0_0 l0_0.length c0_0, .slice A0_1 l0_1.length c0_1, .slice A0_2 l0_2.length c0_2, .slice A0_3 l0_3.length c0_3], .agg #[.int .u8 a1_0, .int .u8 a1_1, .int .u16 a1_2, .int .i64 a1_3]] rfl (by (try simp only [List.map_toArray, List.map_cons, List.map_nil]); first | done | rfl | (simp only [List.length_drop, List.length_take]; rfl)) ?_; (with_reducible refine (vals_May.calls k _ _ l0_0 _ _ l0_1 _ _ l0_2 _ _ l0_3 a1_0 a1_1 a1_2 a1_3 false _ ?side1 ?side2 ?side3 ?side4 ?side5 ?side6 ?side7 ?side8 A15.out).mono ?_); (case side1 => exact Kd.C_below HR0_0.out (qW HB.out)); (case side2 => exact HC0_0.out); (case side3 => exact Kd.C_below HR0_1.out (qW HB.out)); (case side4 => exact HC0_1.out); (case side5 => exact Kd.C_below HR0_2.out (qW HB.out)); (case side6 => exact HC0_2.out); (case side7 => exact Kd.C_below HR0_3.out (qW HB.out)); (case side8 => exact HC0_3.out); rintro e w42 ⟨rfl, hb⟩; refine ⟨_, rfl, ?_⟩; have n0_ := Aside0.mk (blk_below (qf BK121.out) hb); have n1_ := Aside0.mk (blk_below (qf BK122.out) hb); have n2_ := Aside0.mk (blk_below (qf BK123.out) hb); have n3_ := Aside0.mk (blk_below (qf BK124.out) hb); have n4_ := Aside0.mk (blk_below (g := gb125) (o := .cells #[.int .u8 1, .int .u8 0, .int .u16 0, .int .i64 0] 56 (0, 0)) (by (with_reducible repeat (first | refine blk_drewN ?_ _ | refine blk_drew ?_ | refine blk_alloc ?_ _)); refine blk_put (cs := #[.int .u8 1, .int .u8 0, .int .u16 0, .int .i64 0]) ?_ 3 _ rfl; (with_reducible repeat (first | refine blk_drewN ?_ _ | refine blk_drew ?_ | refine blk_alloc ?_ _)); refine blk_put (cs := #[.int .u8 1, .int .u8 0, .int .u16 0, .int .i64 0]) ?_ 2 _ rfl; (with_reducible repeat (first | refine blk_drewN ?_ _ | refine blk_drew ?_ | refine blk_alloc ?_ _)); refine blk_put (cs := #[.int .u8 1, .int .u8 0, .int .u16 0, .int .i64 0]) ?_ 1 _ rfl; (with_reducible repeat (first | refine blk_drewN ?_ _ | refine blk_drew ?_ | refine blk_alloc ?_ _)); refine blk_put (cs := #[.int .u8 0, .int .u8 0, .int .u16 0, .int .i64 0]) ?_ 0 _ rfl; (with_reducible repeat (first | refine blk_drewN ?_ _ | refine blk_drew ?_ | refine blk_alloc ?_ _)); exact BK125.out) hb); have n5_ := Aside0.mk (below_step (qW HB.out) hb); clear BK121 BK122 BK123 BK124 BK125 HB; have BK121 := n0_; have BK122 := n1_; have BK123 := n2_; have BK124 := n3_; have BK125 := n4_; have HB := n5_; clear n0_ n1_ n2_ n3_ n4_ n5_; (try clear hb); (try clear hb2); (try clear hk); (try clear hi)))
   go_meet
   case rel => exact ⟨_, (true), (by first | rfl | (simp; done) | (simp [*]; done)), H', ⟨by first | omega | exact Nat.le_refl _⟩, ⟨qf BK121.out⟩, ⟨qf BK122.out⟩, ⟨qf BK123.out⟩, ⟨qf BK124.out⟩, ⟨qf BK125.out⟩, ⟨qW HB.out⟩⟩
 case rest =>
  clear HC4
  try clear c1
  try clear c2
  try clear p2
  try clear c3
  try clear c4
  try clear c10
  try clear c11
  try clear c12
  try clear c13
  try clear c16
  try clear c18
  try clear c19
  try clear c20
  try clear c21
  try clear c23
  try clear c24
  try clear c25
  try clear c29
  try clear c30
  try clear c33
  try clear c34
  try clear c35
  try clear c36
  try clear c37
  try clear c38
  try clear c39
  try clear c40
  try clear hcz14_0
  try clear hcz14_1
  try clear hcz14_2
  try clear hcz14_3
  try clear hcz22_0
  try clear hcz22_1
  try clear hcz22_2
  try clear hcz22_3
  try clear hcz26_0
  try clear hcz26_1
  try clear hcz26_2
  try clear hcz26_3
  try clear hcz28_0
  try clear hcz28_1
  try clear hcz28_2
  try clear hcz28_3
  try clear hcz31_0
  try clear hcz31_1
  try clear hcz31_2
  try clear hcz31_3
  try clear hcz37_0
  try clear hcz37_1
  try clear hcz37_2
  try clear hcz37_3
  try clear hcz41_0
  try clear hcz41_1
  try clear hcz41_2
  try clear hcz41_3
  try clear hfz14_0
  try clear hfz14_1
  try clear hfz14_2
  try clear hfz14_3
  try clear hfz22_0
  try clear hfz22_1
  try clear hfz22_2
  try clear hfz22_3
  try clear hfz26_0
  try clear hfz26_1
  try clear hfz26_2
  try clear hfz26_3
  try clear hfz28_0
  try clear hfz28_1
  try clear hfz28_2
  try clear hfz28_3
  try clear hfz31_0
  try clear hfz31_1
  try clear hfz31_2
  try clear hfz31_3
  try clear hfz37_0
  try clear hfz37_1
  try clear hfz37_2
  try clear hfz37_3
  try clear hfz41_0
  try clear hfz41_1
  try clear hfz41_2
  try clear hfz41_3
  obtain ⟨kq, x21_3, rfl, HA, HJ3, BK121, BK122, BK123, BK124, BK125, HB⟩ := hcut
  cases kq with
  | zero => exact absurd HA.out (by simp [vals_Join.j0])
  | succ kj3 =>
   have H := HA.out
   clear HA
   simp only [vals_Join.j0] at H
   by_cases c43 : x21_3 = true
   ·subst c43
    have H1 : (some (1, 0, 0, 0)) = some (r1, r2, r3, r4) := by rw [if_pos rfl] at H; exact H
    clear H
    have H := H1
    clear H1
    simp only [Option.some.injEq, Prod.mk.injEq] at H
    obtain ⟨rfl, rfl, rfl, rfl⟩ := H
    have hnb44 := NB125_121.out
    have hnc44 := NB121_125.out
    have hnb45 := NB125_122.out
    have hnc45 := NB122_125.out
    have hnb46 := NB125_123.out
    have hnc46 := NB123_125.out
    have hnb47 := NB125_124.out
    have hnc47 := NB124_125.out
    have hcz48_0 : wc.cell? ⟨gb125, 0, none⟩ = some (.int .u8 1) := (blk_cell BK125.out 0).trans rfl
    have hcz48_1 : wc.cell? ⟨gb125, 1, none⟩ = some (.int .u8 0) := (blk_cell BK125.out 1).trans rfl
    have hcz48_2 : wc.cell? ⟨gb125, 2, none⟩ = some (.int .u16 0) := (blk_cell BK125.out 2).trans rfl
    have hcz48_3 : wc.cell? ⟨gb125, 3, none⟩ = some (.int .i64 0) := (blk_cell BK125.out 3).trans rfl
    have hfz48_0 := blk_frozen BK125.out 0
    have hfz48_1 := blk_frozen BK125.out 1
    have hfz48_2 := blk_frozen BK125.out 2
    have hfz48_3 := blk_frozen BK125.out 3
    have hnb49 := NB124_121.out
    have hnc49 := NB121_124.out
    have hnb50 := NB124_122.out
    have hnc50 := NB122_124.out
    have hnb51 := NB124_123.out
    have hnc51 := NB123_124.out
    have hcz52_0 : wc.cell? ⟨gb124, 0, none⟩ = some (.int .u8 0) := (blk_cell BK124.out 0).trans rfl
    have hcz52_1 : wc.cell? ⟨gb124, 1, none⟩ = some (.int .u8 0) := (blk_cell BK124.out 1).trans rfl
    have hcz52_2 : wc.cell? ⟨gb124, 2, none⟩ = some (.int .u16 0) := (blk_cell BK124.out 2).trans rfl
    have hcz52_3 : wc.cell? ⟨gb124, 3, none⟩ = some (.int .i64 0) := (blk_cell BK124.out 3).trans rfl
    have hfz52_0 := blk_frozen BK124.out 0
    have hfz52_1 := blk_frozen BK124.out 1
    have hfz52_2 := blk_frozen BK124.out 2
    have hfz52_3 := blk_frozen BK124.out 3
    go_wp2
    refine bodyPost_ret (results_cell_row rfl _ _ gb124 56 #[.int .u8 1, .int .u8 0, .int .u16 0, .int .i64 0] (0, 0) _ rfl (by (with_reducible repeat (first | refine blk_drewN ?_ _ | refine blk_drew ?_ | refine blk_alloc ?_ _)); refine blk_put (cs := #[.int .u8 1, .int .u8 0, .int .u16 0, .int .i64 0]) ?_ 3 _ rfl; (with_reducible repeat (first | refine blk_drewN ?_ _ | refine blk_drew ?_ | refine blk_alloc ?_ _)); refine blk_put (cs := #[.int .u8 1, .int .u8 0, .int .u16 0, .int .i64 0]) ?_ 2 _ rfl; (with_reducible repeat (first | refine blk_drewN ?_ _ | refine blk_drew ?_ | refine blk_alloc ?_ _)); refine blk_put (cs := #[.int .u8 1, .int .u8 0, .int .u16 0, .int .i64 0]) ?_ 1 _ rfl; (with_reducible repeat (first | refine blk_drewN ?_ _ | refine blk_drew ?_ | refine blk_alloc ?_ _)); refine blk_put (cs := #[.int .u8 0, .int .u8 0, .int .u16 0, .int .i64 0]) ?_ 0 _ rfl; (with_reducible repeat (first | refine blk_drewN ?_ _ | refine blk_drew ?_ | refine blk_alloc ?_ _)); exact BK124.out) Try.underlying56 rfl (by kernel_rfl)) rfl ?_
    exact ⟨by first | rfl | (simp [errW_none, errW_some] <;> rfl) | (simp [*, errW_none, errW_some] <;> rfl), by repeat (first | (with_reducible first | exact HB.out | apply below_alloc | apply pw_below_drewN | apply below_drew1 | refine below_set ?_ GE121.out | refine below_set ?_ GE122.out | refine below_set ?_ GE123.out | refine below_set ?_ GE124.out | refine below_set ?_ GE125.out) | exact HB.out)⟩
   ·replace c43 := Bool.eq_false_iff.mpr c43
    subst c43
    have H1 : (if (a1_0 == a2_0 && ((a1_1 == a2_1 && (a1_2 == a2_2)) && (a1_3 == a2_3))) = true then (some (a1_0, a1_1, a1_2, a1_3)) else (if a1_0 = 3 then (vals_Join.j1 kj3 (a2_0 == 4) l0_0 l0_1 l0_2 l0_3 a1_0 a1_1 a1_2 a1_3 a2_0 a2_1 a2_2 a2_3 1 0 0 0) else (vals_Join.j1 kj3 false l0_0 l0_1 l0_2 l0_3 a1_0 a1_1 a1_2 a1_3 a2_0 a2_1 a2_2 a2_3 1 0 0 0))) = some (r1, r2, r3, r4) := by rw [if_neg (show ¬ (false = true) by decide)] at H; exact H
    clear H
    have H := H1
    clear H1
    by_cases c53 : (a1_0 == a2_0 && ((a1_1 == a2_1 && (a1_2 == a2_2)) && (a1_3 == a2_3))) = true
    ·rw [if_pos c53] at H
     have c53b0 : (a1_0 == a2_0 && ((a1_1 == a2_1 && (a1_2 == a2_2)) && (a1_3 == a2_3))) = true := c53
     (try (have c53b1 : decide (a1_0 = a2_0 && ((a1_1 == a2_1 && (a1_2 == a2_2)) && (a1_3 == a2_3))) = true := by simpa using c53))
     (try (have c53b2 : (a1_0 == a2_0 && ((a1_1 == a2_1 && (a1_2 == a2_2)) && (a1_3 == a2_3))) = true := by simpa using c53))
     clear c53
     simp only [Option.some.injEq, Prod.mk.injEq] at H
     obtain ⟨rfl, rfl, rfl, rfl⟩ := H
     have hnb54 := NB122_121.out
     have hnc54 := NB121_122.out
     have hnb55 := NB122_123.out
     have hnc55 := NB123_122.out
     have hnb56 := NB122_124.out
     have hnc56 := NB124_122.out
     have hnb57 := NB122_125.out
     have hnc57 := NB125_122.out
     have hcz58_0 : wc.cell? ⟨gb122, 0, none⟩ = some (.int .u8 a1_0) := (blk_cell BK122.out 0).trans rfl
     have hcz58_1 : wc.cell? ⟨gb122, 1, none⟩ = some (.int .u8 a1_1) := (blk_cell BK122.out 1).trans rfl
     have hcz58_2 : wc.cell? ⟨gb122, 2, none⟩ = some (.int .u16 a1_2) := (blk_cell BK122.out 2).trans rfl
     have hcz58_3 : wc.cell? ⟨gb122, 3, none⟩ = some (.int .i64 a1_3) := (blk_cell BK122.out 3).trans rfl
     have hfz58_0 := blk_frozen BK122.out 0
     have hfz58_1 := blk_frozen BK122.out 1
     have hfz58_2 := blk_frozen BK122.out 2
     have hfz58_3 := blk_frozen BK122.out 3
     have hnb59 := NB123_121.out
     have hnc59 := NB121_123.out
     have hnb60 := NB123_124.out
     have hnc60 := NB124_123.out
     have hnb61 := NB123_125.out
     have hnc61 := NB125_123.out
     have hcz62_0 : wc.cell? ⟨gb123, 0, none⟩ = some (.int .u8 a2_0) := (blk_cell BK123.out 0).trans rfl
     have hcz62_1 : wc.cell? ⟨gb123, 1, none⟩ = some (.int .u8 a2_1) := (blk_cell BK123.out 1).trans rfl
     have hcz62_2 : wc.cell? ⟨gb123, 2, none⟩ = some (.int .u16 a2_2) := (blk_cell BK123.out 2).trans rfl
     have hcz62_3 : wc.cell? ⟨gb123, 3, none⟩ = some (.int .i64 a2_3) := (blk_cell BK123.out 3).trans rfl
     have hfz62_0 := blk_frozen BK123.out 0
     have hfz62_1 := blk_frozen BK123.out 1
     have hfz62_2 := blk_frozen BK123.out 2
     have hfz62_3 := blk_frozen BK123.out 3
     have hnb63 := NB124_121.out
     have hnc63 := NB121_124.out
     have hnb64 := NB124_125.out
     have hnc64 := NB125_124.out
     have hcz65_0 : wc.cell? ⟨gb124, 0, none⟩ = some (.int .u8 0) := (blk_cell BK124.out 0).trans rfl
     have hcz65_1 : wc.cell? ⟨gb124, 1, none⟩ = some (.int .u8 0) := (blk_cell BK124.out 1).trans rfl
     have hcz65_2 : wc.cell? ⟨gb124, 2, none⟩ = some (.int .u16 0) := (blk_cell BK124.out 2).trans rfl
     have hcz65_3 : wc.cell? ⟨gb124, 3, none⟩ = some (.int .i64 0) := (blk_cell BK124.out 3).trans rfl
     have hfz65_0 := blk_frozen BK124.out 0
     have hfz65_1 := blk_frozen BK124.out 1
     have hfz65_2 := blk_frozen BK124.out 2
     have hfz65_3 := blk_frozen BK124.out 3
     go_wp2
     refine bodyPost_ret (results_cell_row rfl _ _ gb124 56 #[.int .u8 a1_0, .int .u8 a1_1, .int .u16 a1_2, .int .i64 a1_3] (0, 0) _ rfl (by (with_reducible repeat (first | refine blk_drewN ?_ _ | refine blk_drew ?_ | refine blk_alloc ?_ _)); refine blk_put (cs := #[.int .u8 a1_0, .int .u8 a1_1, .int .u16 a1_2, .int .i64 0]) ?_ 3 _ rfl; (with_reducible repeat (first | refine blk_drewN ?_ _ | refine blk_drew ?_ | refine blk_alloc ?_ _)); refine blk_put (cs := #[.int .u8 a1_0, .int .u8 a1_1, .int .u16 0, .int .i64 0]) ?_ 2 _ rfl; (with_reducible repeat (first | refine blk_drewN ?_ _ | refine blk_drew ?_ | refine blk_alloc ?_ _)); refine blk_put (cs := #[.int .u8 a1_0, .int .u8 0, .int .u16 0, .int .i64 0]) ?_ 1 _ rfl; (with_reducible repeat (first | refine blk_drewN ?_ _ | refine blk_drew ?_ | refine blk_alloc ?_ _)); refine blk_put (cs := #[.int .u8 0, .int .u8 0, .int .u16 0, .int .i64 0]) ?_ 0 _ rfl; (with_reducible repeat (first | refine blk_drewN ?_ _ | refine blk_drew ?_ | refine blk_alloc ?_ _)); exact BK124.out) Try.underlying56 rfl (by kernel_rfl)) rfl ?_
     exact ⟨by first | rfl | (simp [errW_none, errW_some] <;> rfl) | (simp [*, errW_none, errW_some] <;> rfl), by repeat (first | (with_reducible first | exact HB.out | apply below_alloc | apply pw_below_drewN | apply below_drew1 | refine below_set ?_ GE121.out | refine below_set ?_ GE122.out | refine below_set ?_ GE123.out | refine below_set ?_ GE124.out | refine below_set ?_ GE125.out) | exact HB.out)⟩
    ·rw [if_neg c53] at H
     have c53b0 : (a1_0 == a2_0 && ((a1_1 == a2_1 && (a1_2 == a2_2)) && (a1_3 == a2_3))) = false := by simpa using c53
     (try (have c53b1 : decide (a1_0 = a2_0 && ((a1_1 == a2_1 && (a1_2 == a2_2)) && (a1_3 == a2_3))) = false := by simpa using c53))
     (try (have c53b2 : (a1_0 == a2_0 && ((a1_1 == a2_1 && (a1_2 == a2_2)) && (a1_3 == a2_3))) = false := by simpa using c53))
     (try (have c53b3 : ¬ (a1_0 = a2_0 && ((a1_1 == a2_1 && (a1_2 == a2_2)) && (a1_3 == a2_3))) := by simpa using c53))
     clear c53
     have HC66 := Aside0.mk H
     clear H
     have hnb67 := NB122_121.out
     have hnc67 := NB121_122.out
     have hnb68 := NB122_123.out
     have hnc68 := NB123_122.out
     have hnb69 := NB122_124.out
     have hnc69 := NB124_122.out
     have hnb70 := NB122_125.out
     have hnc70 := NB125_122.out
     have hcz71_0 : wc.cell? ⟨gb122, 0, none⟩ = some (.int .u8 a1_0) := (blk_cell BK122.out 0).trans rfl
     have hcz71_1 : wc.cell? ⟨gb122, 1, none⟩ = some (.int .u8 a1_1) := (blk_cell BK122.out 1).trans rfl
     have hcz71_2 : wc.cell? ⟨gb122, 2, none⟩ = some (.int .u16 a1_2) := (blk_cell BK122.out 2).trans rfl
     have hcz71_3 : wc.cell? ⟨gb122, 3, none⟩ = some (.int .i64 a1_3) := (blk_cell BK122.out 3).trans rfl
     have hfz71_0 := blk_frozen BK122.out 0
     have hfz71_1 := blk_frozen BK122.out 1
     have hfz71_2 := blk_frozen BK122.out 2
     have hfz71_3 := blk_frozen BK122.out 3
     have hnb72 := NB123_121.out
     have hnc72 := NB121_123.out
     have hnb73 := NB123_124.out
     have hnc73 := NB124_123.out
     have hnb74 := NB123_125.out
     have hnc74 := NB125_123.out
     have hcz75_0 : wc.cell? ⟨gb123, 0, none⟩ = some (.int .u8 a2_0) := (blk_cell BK123.out 0).trans rfl
     have hcz75_1 : wc.cell? ⟨gb123, 1, none⟩ = some (.int .u8 a2_1) := (blk_cell BK123.out 1).trans rfl
     have hcz75_2 : wc.cell? ⟨gb123, 2, none⟩ = some (.int .u16 a2_2) := (blk_cell BK123.out 2).trans rfl
     have hcz75_3 : wc.cell? ⟨gb123, 3, none⟩ = some (.int .i64 a2_3) := (blk_cell BK123.out 3).trans rfl
     have hfz75_0 := blk_frozen BK123.out 0
     have hfz75_1 := blk_frozen BK123.out 1
     have hfz75_2 := blk_frozen BK123.out 2
     have hfz75_3 := blk_frozen BK123.out 3
     go_upto_region 6 with (fail)
     go_cut [28] (fun v28 wc => ∃ (kq : Nat) (x28_65 : Bool), v28 = .bool x28_65 ∧ Aside0 (vals_Join.j1 kq x28_65 l0_0 l0_1 l0_2 l0_3 a1_0 a1_1 a1_2 a1_3 a2_0 a2_1 a2_2 a2_3 1 0 0 0 = some (r1, r2, r3, r4)) ∧ Aside0 (kq ≤ kj3) ∧ Aside0 (wc.heap[gb121]? = some (.cells #[(.slice A0_0 l0_0.length c0_0), (.slice A0_1 l0_1.length c0_1), (.slice A0_2 l0_2.length c0_2), (.slice A0_3 l0_3.length c0_3)] 27 (0, 0))) ∧ Aside0 (wc.heap[gb122]? = some (.cells #[.int .u8 a1_0, .int .u8 a1_1, .int .u16 a1_2, .int .i64 a1_3] 56 (0, 0))) ∧ Aside0 (wc.heap[gb123]? = some (.cells #[.int .u8 a2_0, .int .u8 a2_1, .int .u16 a2_2, .int .i64 a2_3] 56 (0, 0))) ∧ Aside0 (wc.heap[gb124]? = some (.cells #[.int .u8 0, .int .u8 0, .int .u16 0, .int .i64 0] 56 (0, 0))) ∧ Aside0 (wc.heap[gb125]? = some (.cells #[.int .u8 1, .int .u8 0, .int .u16 0, .int .i64 0] 56 (0, 0))) ∧ Aside0 (Below w.heap.size w wc))
     case first =>
      have H := HC66.out
      clear HC66
      by_cases c76 : a1_0 = 3
      ·rw [if_pos c76] at H
       have c76b0 : (a1_0 == 3) = true := beq_iff_eq.mpr c76
       have c76b1 : (a1_0 != 3) = false := bne_eq_false_iff_eq.mpr c76
       clear c76
       (first | rw [c76b0] | (simp only [i64_w, i32_w]; rw [c76b0]) | skip)
       have H' := Aside0.mk H
       clear H
       have hnb77 := NB122_121.out
       have hnc77 := NB121_122.out
       have hnb78 := NB122_123.out
       have hnc78 := NB123_122.out
       have hnb79 := NB122_124.out
       have hnc79 := NB124_122.out
       have hnb80 := NB122_125.out
       have hnc80 := NB125_122.out
       have hcz81_0 : wc.cell? ⟨gb122, 0, none⟩ = some (.int .u8 a1_0) := (blk_cell BK122.out 0).trans rfl
       have hcz81_1 : wc.cell? ⟨gb122, 1, none⟩ = some (.int .u8 a1_1) := (blk_cell BK122.out 1).trans rfl
       have hcz81_2 : wc.cell? ⟨gb122, 2, none⟩ = some (.int .u16 a1_2) := (blk_cell BK122.out 2).trans rfl
       have hcz81_3 : wc.cell? ⟨gb122, 3, none⟩ = some (.int .i64 a1_3) := (blk_cell BK122.out 3).trans rfl
       have hfz81_0 := blk_frozen BK122.out 0
       have hfz81_1 := blk_frozen BK122.out 1
       have hfz81_2 := blk_frozen BK122.out 2
       have hfz81_3 := blk_frozen BK122.out 3
       have hnb82 := NB123_121.out
       have hnc82 := NB121_123.out
       have hnb83 := NB123_124.out
       have hnc83 := NB124_123.out
       have hnb84 := NB123_125.out
       have hnc84 := NB125_123.out
       have hcz85_0 : wc.cell? ⟨gb123, 0, none⟩ = some (.int .u8 a2_0) := (blk_cell BK123.out 0).trans rfl
       have hcz85_1 : wc.cell? ⟨gb123, 1, none⟩ = some (.int .u8 a2_1) := (blk_cell BK123.out 1).trans rfl
       have hcz85_2 : wc.cell? ⟨gb123, 2, none⟩ = some (.int .u16 a2_2) := (blk_cell BK123.out 2).trans rfl
       have hcz85_3 : wc.cell? ⟨gb123, 3, none⟩ = some (.int .i64 a2_3) := (blk_cell BK123.out 3).trans rfl
       have hfz85_0 := blk_frozen BK123.out 0
       have hfz85_1 := blk_frozen BK123.out 1
       have hfz85_2 := blk_frozen BK123.out 2
       have hfz85_3 := blk_frozen BK123.out 3
       go_wp2
       go_meet
       case rel => exact ⟨_, ((a2_0 == 4)), (by first | rfl | (simp; done) | (simp [*]; done)), H', ⟨by have := HJ3.out; first | omega | exact Nat.le_refl _⟩, ⟨qf BK121.out⟩, ⟨qf BK122.out⟩, ⟨qf BK123.out⟩, ⟨qf BK124.out⟩, ⟨qf BK125.out⟩, ⟨qW HB.out⟩⟩
      ·rw [if_neg c76] at H
       have c76b0 : (a1_0 == 3) = false := beq_eq_false_iff_ne.mpr c76
       have c76b1 : (a1_0 != 3) = true := bne_iff_ne.mpr c76
       (first | rw [c76b0] | (simp only [i64_w, i32_w]; rw [c76b0]) | skip)
       have H' := Aside0.mk H
       clear H
       have hnb86 := NB122_121.out
       have hnc86 := NB121_122.out
       have hnb87 := NB122_123.out
       have hnc87 := NB123_122.out
       have hnb88 := NB122_124.out
       have hnc88 := NB124_122.out
       have hnb89 := NB122_125.out
       have hnc89 := NB125_122.out
       have hcz90_0 : wc.cell? ⟨gb122, 0, none⟩ = some (.int .u8 a1_0) := (blk_cell BK122.out 0).trans rfl
       have hcz90_1 : wc.cell? ⟨gb122, 1, none⟩ = some (.int .u8 a1_1) := (blk_cell BK122.out 1).trans rfl
       have hcz90_2 : wc.cell? ⟨gb122, 2, none⟩ = some (.int .u16 a1_2) := (blk_cell BK122.out 2).trans rfl
       have hcz90_3 : wc.cell? ⟨gb122, 3, none⟩ = some (.int .i64 a1_3) := (blk_cell BK122.out 3).trans rfl
       have hfz90_0 := blk_frozen BK122.out 0
       have hfz90_1 := blk_frozen BK122.out 1
       have hfz90_2 := blk_frozen BK122.out 2
       have hfz90_3 := blk_frozen BK122.out 3
       go_wp2
       go_meet
       case rel => exact ⟨_, (false), (by first | rfl | (simp; done) | (simp [*]; done)), H', ⟨by have := HJ3.out; first | omega | exact Nat.le_refl _⟩, ⟨qf BK121.out⟩, ⟨qf BK122.out⟩, ⟨qf BK123.out⟩, ⟨qf BK124.out⟩, ⟨qf BK125.out⟩, ⟨qW HB.out⟩⟩
     case rest =>
      clear HC66
      try clear c1
      try clear c2
      try clear p2
      try clear c3
      try clear c4
      try clear c5
      try clear c6
      try clear c7
      try clear c8
      try clear c10
      try clear c11
      try clear c12
      try clear c13
      try clear c16
      try clear c18
      try clear c19
      try clear c20
      try clear c21
      try clear c23
      try clear c24
      try clear c25
      try clear c29
      try clear c30
      try clear c33
      try clear c34
      try clear c35
      try clear c36
      try clear c37
      try clear c38
      try clear c39
      try clear c40
      try clear c43
      try clear c44
      try clear c45
      try clear c46
      try clear c47
      try clear c49
      try clear c50
      try clear c51
      try clear c53
      try clear c53b0
      try clear c53b1
      try clear c53b2
      try clear c54
      try clear c55
      try clear c56
      try clear c57
      try clear c59
      try clear c60
      try clear c61
      try clear c63
      try clear c64
      try clear c67
      try clear c68
      try clear c69
      try clear c70
      try clear c72
      try clear c73
      try clear c74
      try clear c76
      try clear c76b0
      try clear c76b1
      try clear c77
      try clear c78
      try clear c79
      try clear c80
      try clear c82
      try clear c83
      try clear c84
      try clear c86
      try clear c87
      try clear c88
      try clear c89
      try clear hcz14_0
      try clear hcz14_1
      try clear hcz14_2
      try clear hcz14_3
      try clear hcz22_0
      try clear hcz22_1
      try clear hcz22_2
      try clear hcz22_3
      try clear hcz26_0
      try clear hcz26_1
      try clear hcz26_2
      try clear hcz26_3
      try clear hcz28_0
      try clear hcz28_1
      try clear hcz28_2
      try clear hcz28_3
      try clear hcz31_0
      try clear hcz31_1
      try clear hcz31_2
      try clear hcz31_3
      try clear hcz37_0
      try clear hcz37_1
      try clear hcz37_2
      try clear hcz37_3
      try clear hcz41_0
      try clear hcz41_1
      try clear hcz41_2
      try clear hcz41_3
      try clear hcz48_0
      try clear hcz48_1
      try clear hcz48_2
      try clear hcz48_3
      try clear hcz52_0
      try clear hcz52_1
      try clear hcz52_2
      try clear hcz52_3
      try clear hcz58_0
      try clear hcz58_1
      try clear hcz58_2
      try clear hcz58_3
      try clear hcz62_0
      try clear hcz62_1
      try clear hcz62_2
      try clear hcz62_3
      try clear hcz65_0
      try clear hcz65_1
      try clear hcz65_2
      try clear hcz65_3
      try clear hcz71_0
      try clear hcz71_1
      try clear hcz71_2
      try clear hcz71_3
      try clear hcz75_0
      try clear hcz75_1
      try clear hcz75_2
      try clear hcz75_3
      try clear hcz81_0
      try clear hcz81_1
      try clear hcz81_2
      try clear hcz81_3
      try clear hcz85_0
      try clear hcz85_1
      try clear hcz85_2
      try clear hcz85_3
      try clear hcz90_0
      try clear hcz90_1
      try clear hcz90_2
      try clear hcz90_3
      try clear hfz14_0
      try clear hfz14_1
      try clear hfz14_2
      try clear hfz14_3
      try clear hfz22_0
      try clear hfz22_1
      try clear hfz22_2
      try clear hfz22_3
      try clear hfz26_0
      try clear hfz26_1
      try clear hfz26_2
      try clear hfz26_3
      try clear hfz28_0
      try clear hfz28_1
      try clear hfz28_2
      try clear hfz28_3
      try clear hfz31_0
      try clear hfz31_1
      try clear hfz31_2
      try clear hfz31_3
      try clear hfz37_0
      try clear hfz37_1
      try clear hfz37_2
      try clear hfz37_3
      try clear hfz41_0
      try clear hfz41_1
      try clear hfz41_2
      try clear hfz41_3
      try clear hfz48_0
      try clear hfz48_1
      try clear hfz48_2
      try clear hfz48_3
      try clear hfz52_0
      try clear hfz52_1
      try clear hfz52_2
      try clear hfz52_3
      try clear hfz58_0
      try clear hfz58_1
      try clear hfz58_2
      try clear hfz58_3
      try clear hfz62_0
      try clear hfz62_1
      try clear hfz62_2
      try clear hfz62_3
      try clear hfz65_0
      try clear hfz65_1
      try clear hfz65_2
      try clear hfz65_3
      try clear hfz71_0
      try clear hfz71_1
      try clear hfz71_2
      try clear hfz71_3
      try clear hfz75_0
      try clear hfz75_1
      try clear hfz75_2
      try clear hfz75_3
      try clear hfz81_0
      try clear hfz81_1
      try clear hfz81_2
      try clear hfz81_3
      try clear hfz85_0
      try clear hfz85_1
      try clear hfz85_2
      try clear hfz85_3
      try clear hfz90_0
      try clear hfz90_1
      try clear hfz90_2
      try clear hfz90_3
      try clear p2
      obtain ⟨kq, x28_65, rfl, HA, HJ65, BK121, BK122, BK123, BK124, BK125, HB⟩ := hcut
      cases kq with
      | zero => exact absurd HA.out (by simp [vals_Join.j1])
      | succ kj65 =>
       have H := HA.out
       clear HA
       simp only [vals_Join.j1] at H
       by_cases c91 : x28_65 = true
       ·subst c91
        have H1 : (some (a2_0, a2_1, a2_2, a2_3)) = some (r1, r2, r3, r4) := by rw [if_pos rfl] at H; exact H
        clear H
        have H := H1
        clear H1
        simp only [Option.some.injEq, Prod.mk.injEq] at H
        obtain ⟨rfl, rfl, rfl, rfl⟩ := H
        have hnb92 := NB123_121.out
        have hnc92 := NB121_123.out
        have hnb93 := NB123_122.out
        have hnc93 := NB122_123.out
        have hnb94 := NB123_124.out
        have hnc94 := NB124_123.out
        have hnb95 := NB123_125.out
        have hnc95 := NB125_123.out
        have hcz96_0 : wc.cell? ⟨gb123, 0, none⟩ = some (.int .u8 a2_0) := (blk_cell BK123.out 0).trans rfl
        have hcz96_1 : wc.cell? ⟨gb123, 1, none⟩ = some (.int .u8 a2_1) := (blk_cell BK123.out 1).trans rfl
        have hcz96_2 : wc.cell? ⟨gb123, 2, none⟩ = some (.int .u16 a2_2) := (blk_cell BK123.out 2).trans rfl
        have hcz96_3 : wc.cell? ⟨gb123, 3, none⟩ = some (.int .i64 a2_3) := (blk_cell BK123.out 3).trans rfl
        have hfz96_0 := blk_frozen BK123.out 0
        have hfz96_1 := blk_frozen BK123.out 1
        have hfz96_2 := blk_frozen BK123.out 2
        have hfz96_3 := blk_frozen BK123.out 3
        have hnb97 := NB124_121.out
        have hnc97 := NB121_124.out
        have hnb98 := NB124_122.out
        have hnc98 := NB122_124.out
        have hnb99 := NB124_125.out
        have hnc99 := NB125_124.out
        have hcz100_0 : wc.cell? ⟨gb124, 0, none⟩ = some (.int .u8 0) := (blk_cell BK124.out 0).trans rfl
        have hcz100_1 : wc.cell? ⟨gb124, 1, none⟩ = some (.int .u8 0) := (blk_cell BK124.out 1).trans rfl
        have hcz100_2 : wc.cell? ⟨gb124, 2, none⟩ = some (.int .u16 0) := (blk_cell BK124.out 2).trans rfl
        have hcz100_3 : wc.cell? ⟨gb124, 3, none⟩ = some (.int .i64 0) := (blk_cell BK124.out 3).trans rfl
        have hfz100_0 := blk_frozen BK124.out 0
        have hfz100_1 := blk_frozen BK124.out 1
        have hfz100_2 := blk_frozen BK124.out 2
        have hfz100_3 := blk_frozen BK124.out 3
        go_wp2
        refine bodyPost_ret (results_cell_row rfl _ _ gb124 56 #[.int .u8 a2_0, .int .u8 a2_1, .int .u16 a2_2, .int .i64 a2_3] (0, 0) _ rfl (by (with_reducible repeat (first | refine blk_drewN ?_ _ | refine blk_drew ?_ | refine blk_alloc ?_ _)); refine blk_put (cs := #[.int .u8 a2_0, .int .u8 a2_1, .int .u16 a2_2, .int .i64 0]) ?_ 3 _ rfl; (with_reducible repeat (first | refine blk_drewN ?_ _ | refine blk_drew ?_ | refine blk_alloc ?_ _)); refine blk_put (cs := #[.int .u8 a2_0, .int .u8 a2_1, .int .u16 0, .int .i64 0]) ?_ 2 _ rfl; (with_reducible repeat (first | refine blk_drewN ?_ _ | refine blk_drew ?_ | refine blk_alloc ?_ _)); refine blk_put (cs := #[.int .u8 a2_0, .int .u8 0, .int .u16 0, .int .i64 0]) ?_ 1 _ rfl; (with_reducible repeat (first | refine blk_drewN ?_ _ | refine blk_drew ?_ | refine blk_alloc ?_ _)); refine blk_put (cs := #[.int .u8 0, .int .u8 0, .int .u16 0, .int .i64 0]) ?_ 0 _ rfl; (with_reducible repeat (first | refine blk_drewN ?_ _ | refine blk_drew ?_ | refine blk_alloc ?_ _)); exact BK124.out) Try.underlying56 rfl (by kernel_rfl)) rfl ?_
        exact ⟨by first | rfl | (simp [errW_none, errW_some] <;> rfl) | (simp [*, errW_none, errW_some] <;> rfl), by repeat (first | (with_reducible first | exact HB.out | apply below_alloc | apply pw_below_drewN | apply below_drew1 | refine below_set ?_ GE121.out | refine below_set ?_ GE122.out | refine below_set ?_ GE123.out | refine below_set ?_ GE124.out | refine below_set ?_ GE125.out) | exact HB.out)⟩
       ·replace c91 := Bool.eq_false_iff.mpr c91
        subst c91
        have H1 : (if a1_0 = 4 then (vals_Join.j2 kj65 (a2_0 == 3) l0_0 l0_1 l0_2 l0_3 a1_0 a1_1 a1_2 a1_3 a2_0 a2_1 a2_2 a2_3 1 0 0 0) else (vals_Join.j2 kj65 false l0_0 l0_1 l0_2 l0_3 a1_0 a1_1 a1_2 a1_3 a2_0 a2_1 a2_2 a2_3 1 0 0 0)) = some (r1, r2, r3, r4) := by rw [if_neg (show ¬ (false = true) by decide)] at H; exact H
        clear H
        have H := H1
        clear H1
        have HC101 := Aside0.mk H
        clear H
        go_upto_region 8 with (fail)
        go_cut [38] (fun v38 wc => ∃ (kq : Nat) (x38_100 : Bool), v38 = .bool x38_100 ∧ Aside0 (vals_Join.j2 kq x38_100 l0_0 l0_1 l0_2 l0_3 a1_0 a1_1 a1_2 a1_3 a2_0 a2_1 a2_2 a2_3 1 0 0 0 = some (r1, r2, r3, r4)) ∧ Aside0 (kq ≤ kj65) ∧ Aside0 (wc.heap[gb121]? = some (.cells #[(.slice A0_0 l0_0.length c0_0), (.slice A0_1 l0_1.length c0_1), (.slice A0_2 l0_2.length c0_2), (.slice A0_3 l0_3.length c0_3)] 27 (0, 0))) ∧ Aside0 (wc.heap[gb122]? = some (.cells #[.int .u8 a1_0, .int .u8 a1_1, .int .u16 a1_2, .int .i64 a1_3] 56 (0, 0))) ∧ Aside0 (wc.heap[gb123]? = some (.cells #[.int .u8 a2_0, .int .u8 a2_1, .int .u16 a2_2, .int .i64 a2_3] 56 (0, 0))) ∧ Aside0 (wc.heap[gb124]? = some (.cells #[.int .u8 0, .int .u8 0, .int .u16 0, .int .i64 0] 56 (0, 0))) ∧ Aside0 (wc.heap[gb125]? = some (.cells #[.int .u8 1, .int .u8 0, .int .u16 0, .int .i64 0] 56 (0, 0))) ∧ Aside0 (Below w.heap.size w wc))
        case first =>
         have H := HC101.out
         clear HC101
         by_cases c102 : a1_0 = 4
         ·rw [if_pos c102] at H
          have c102b0 : (a1_0 == 4) = true := beq_iff_eq.mpr c102
          have c102b1 : (a1_0 != 4) = false := bne_eq_false_iff_eq.mpr c102
          clear c102
          (first | rw [c102b0] | (simp only [i64_w, i32_w]; rw [c102b0]) | skip)
          have H' := Aside0.mk H
          clear H
          have hnb103 := NB122_121.out
          have hnc103 := NB121_122.out
          have hnb104 := NB122_123.out
          have hnc104 := NB123_122.out
          have hnb105 := NB122_124.out
          have hnc105 := NB124_122.out
          have hnb106 := NB122_125.out
          have hnc106 := NB125_122.out
          have hcz107_0 : wc.cell? ⟨gb122, 0, none⟩ = some (.int .u8 a1_0) := (blk_cell BK122.out 0).trans rfl
          have hcz107_1 : wc.cell? ⟨gb122, 1, none⟩ = some (.int .u8 a1_1) := (blk_cell BK122.out 1).trans rfl
          have hcz107_2 : wc.cell? ⟨gb122, 2, none⟩ = some (.int .u16 a1_2) := (blk_cell BK122.out 2).trans rfl
          have hcz107_3 : wc.cell? ⟨gb122, 3, none⟩ = some (.int .i64 a1_3) := (blk_cell BK122.out 3).trans rfl
          have hfz107_0 := blk_frozen BK122.out 0
          have hfz107_1 := blk_frozen BK122.out 1
          have hfz107_2 := blk_frozen BK122.out 2
          have hfz107_3 := blk_frozen BK122.out 3
          have hnb108 := NB123_121.out
          have hnc108 := NB121_123.out
          have hnb109 := NB123_124.out
          have hnc109 := NB124_123.out
          have hnb110 := NB123_125.out
          have hnc110 := NB125_123.out
          have hcz111_0 : wc.cell? ⟨gb123, 0, none⟩ = some (.int .u8 a2_0) := (blk_cell BK123.out 0).trans rfl
          have hcz111_1 : wc.cell? ⟨gb123, 1, none⟩ = some (.int .u8 a2_1) := (blk_cell BK123.out 1).trans rfl
          have hcz111_2 : wc.cell? ⟨gb123, 2, none⟩ = some (.int .u16 a2_2) := (blk_cell BK123.out 2).trans rfl
          have hcz111_3 : wc.cell? ⟨gb123, 3, none⟩ = some (.int .i64 a2_3) := (blk_cell BK123.out 3).trans rfl
          have hfz111_0 := blk_frozen BK123.out 0
          have hfz111_1 := blk_frozen BK123.out 1
          have hfz111_2 := blk_frozen BK123.out 2
          have hfz111_3 := blk_frozen BK123.out 3
          go_wp2
          go_meet
          case rel => exact ⟨_, ((a2_0 == 3)), (by first | rfl | (simp; done) | (simp [*]; done)), H', ⟨by have := HJ3.out; have := HJ65.out; first | omega | exact Nat.le_refl _⟩, ⟨qf BK121.out⟩, ⟨qf BK122.out⟩, ⟨qf BK123.out⟩, ⟨qf BK124.out⟩, ⟨qf BK125.out⟩, ⟨qW HB.out⟩⟩
         ·rw [if_neg c102] at H
          have c102b0 : (a1_0 == 4) = false := beq_eq_false_iff_ne.mpr c102
          have c102b1 : (a1_0 != 4) = true := bne_iff_ne.mpr c102
          (first | rw [c102b0] | (simp only [i64_w, i32_w]; rw [c102b0]) | skip)
          have H' := Aside0.mk H
          clear H
          have hnb112 := NB122_121.out
          have hnc112 := NB121_122.out
          have hnb113 := NB122_123.out
          have hnc113 := NB123_122.out
          have hnb114 := NB122_124.out
          have hnc114 := NB124_122.out
          have hnb115 := NB122_125.out
          have hnc115 := NB125_122.out
          have hcz116_0 : wc.cell? ⟨gb122, 0, none⟩ = some (.int .u8 a1_0) := (blk_cell BK122.out 0).trans rfl
          have hcz116_1 : wc.cell? ⟨gb122, 1, none⟩ = some (.int .u8 a1_1) := (blk_cell BK122.out 1).trans rfl
          have hcz116_2 : wc.cell? ⟨gb122, 2, none⟩ = some (.int .u16 a1_2) := (blk_cell BK122.out 2).trans rfl
          have hcz116_3 : wc.cell? ⟨gb122, 3, none⟩ = some (.int .i64 a1_3) := (blk_cell BK122.out 3).trans rfl
          have hfz116_0 := blk_frozen BK122.out 0
          have hfz116_1 := blk_frozen BK122.out 1
          have hfz116_2 := blk_frozen BK122.out 2
          have hfz116_3 := blk_frozen BK122.out 3
          go_wp2
          go_meet
          case rel => exact ⟨_, (false), (by first | rfl | (simp; done) | (simp [*]; done)), H', ⟨by have := HJ3.out; have := HJ65.out; first | omega | exact Nat.le_refl _⟩, ⟨qf BK121.out⟩, ⟨qf BK122.out⟩, ⟨qf BK123.out⟩, ⟨qf BK124.out⟩, ⟨qf BK125.out⟩, ⟨qW HB.out⟩⟩
        case rest =>
         clear HC101
         try clear c1
         try clear c2
         try clear p2
         try clear c3
         try clear c4
         try clear c5
         try clear c6
         try clear c7
         try clear c8
         try clear c9
         try clear c10
         try clear c11
         try clear c12
         try clear c13
         try clear c16
         try clear c18
         try clear c19
         try clear c20
         try clear c21
         try clear c23
         try clear c24
         try clear c25
         try clear c29
         try clear c30
         try clear c33
         try clear c34
         try clear c35
         try clear c36
         try clear c37
         try clear c38
         try clear c39
         try clear c40
         try clear c43
         try clear c44
         try clear c45
         try clear c46
         try clear c47
         try clear c49
         try clear c50
         try clear c51
         try clear c53
         try clear c53b0
         try clear c53b1
         try clear c53b2
         try clear c54
         try clear c55
         try clear c56
         try clear c57
         try clear c59
         try clear c60
         try clear c61
         try clear c63
         try clear c64
         try clear c67
         try clear c68
         try clear c69
         try clear c70
         try clear c72
         try clear c73
         try clear c74
         try clear c76
         try clear c76b0
         try clear c76b1
         try clear c77
         try clear c78
         try clear c79
         try clear c80
         try clear c82
         try clear c83
         try clear c84
         try clear c86
         try clear c87
         try clear c88
         try clear c89
         try clear c91
         try clear c92
         try clear c93
         try clear c94
         try clear c95
         try clear c97
         try clear c98
         try clear c99
         try clear c102
         try clear c102b0
         try clear c102b1
         try clear c103
         try clear c104
         try clear c105
         try clear c106
         try clear c108
         try clear c109
         try clear c110
         try clear c112
         try clear c113
         try clear c114
         try clear c115
         try clear hcz100_0
         try clear hcz100_1
         try clear hcz100_2
         try clear hcz100_3
         try clear hcz107_0
         try clear hcz107_1
         try clear hcz107_2
         try clear hcz107_3
         try clear hcz111_0
         try clear hcz111_1
         try clear hcz111_2
         try clear hcz111_3
         try clear hcz116_0
         try clear hcz116_1
         try clear hcz116_2
         try clear hcz116_3
         try clear hcz14_0
         try clear hcz14_1
         try clear hcz14_2
         try clear hcz14_3
         try clear hcz22_0
         try clear hcz22_1
         try clear hcz22_2
         try clear hcz22_3
         try clear hcz26_0
         try clear hcz26_1
         try clear hcz26_2
         try clear hcz26_3
         try clear hcz28_0
         try clear hcz28_1
         try clear hcz28_2
         try clear hcz28_3
         try clear hcz31_0
         try clear hcz31_1
         try clear hcz31_2
         try clear hcz31_3
         try clear hcz37_0
         try clear hcz37_1
         try clear hcz37_2
         try clear hcz37_3
         try clear hcz41_0
         try clear hcz41_1
         try clear hcz41_2
         try clear hcz41_3
         try clear hcz48_0
         try clear hcz48_1
         try clear hcz48_2
         try clear hcz48_3
         try clear hcz52_0
         try clear hcz52_1
         try clear hcz52_2
         try clear hcz52_3
         try clear hcz58_0
         try clear hcz58_1
         try clear hcz58_2
         try clear hcz58_3
         try clear hcz62_0
         try clear hcz62_1
         try clear hcz62_2
         try clear hcz62_3
         try clear hcz65_0
         try clear hcz65_1
         try clear hcz65_2
         try clear hcz65_3
         try clear hcz71_0
         try clear hcz71_1
         try clear hcz71_2
         try clear hcz71_3
         try clear hcz75_0
         try clear hcz75_1
         try clear hcz75_2
         try clear hcz75_3
         try clear hcz81_0
         try clear hcz81_1
         try clear hcz81_2
         try clear hcz81_3
         try clear hcz85_0
         try clear hcz85_1
         try clear hcz85_2
         try clear hcz85_3
         try clear hcz90_0
         try clear hcz90_1
         try clear hcz90_2
         try clear hcz90_3
         try clear hcz96_0
         try clear hcz96_1
         try clear hcz96_2
         try clear hcz96_3
         try clear hfz100_0
         try clear hfz100_1
         try clear hfz100_2
         try clear hfz100_3
         try clear hfz107_0
         try clear hfz107_1
         try clear hfz107_2
         try clear hfz107_3
         try clear hfz111_0
         try clear hfz111_1
         try clear hfz111_2
         try clear hfz111_3
         try clear hfz116_0
         try clear hfz116_1
         try clear hfz116_2
         try clear hfz116_3
         try clear hfz14_0
         try clear hfz14_1
         try clear hfz14_2
         try clear hfz14_3
         try clear hfz22_0
         try clear hfz22_1
         try clear hfz22_2
         try clear hfz22_3
         try clear hfz26_0
         try clear hfz26_1
         try clear hfz26_2
         try clear hfz26_3
         try clear hfz28_0
         try clear hfz28_1
         try clear hfz28_2
         try clear hfz28_3
         try clear hfz31_0
         try clear hfz31_1
         try clear hfz31_2
         try clear hfz31_3
         try clear hfz37_0
         try clear hfz37_1
         try clear hfz37_2
         try clear hfz37_3
         try clear hfz41_0
         try clear hfz41_1
         try clear hfz41_2
         try clear hfz41_3
         try clear hfz48_0
         try clear hfz48_1
         try clear hfz48_2
         try clear hfz48_3
         try clear hfz52_0
         try clear hfz52_1
         try clear hfz52_2
         try clear hfz52_3
         try clear hfz58_0
         try clear hfz58_1
         try clear hfz58_2
         try clear hfz58_3
         try clear hfz62_0
         try clear hfz62_1
         try clear hfz62_2
         try clear hfz62_3
         try clear hfz65_0
         try clear hfz65_1
         try clear hfz65_2
         try clear hfz65_3
         try clear hfz71_0
         try clear hfz71_1
         try clear hfz71_2
         try clear hfz71_3
         try clear hfz75_0
         try clear hfz75_1
         try clear hfz75_2
         try clear hfz75_3
         try clear hfz81_0
         try clear hfz81_1
         try clear hfz81_2
         try clear hfz81_3
         try clear hfz85_0
         try clear hfz85_1
         try clear hfz85_2
         try clear hfz85_3
         try clear hfz90_0
         try clear hfz90_1
         try clear hfz90_2
         try clear hfz90_3
         try clear hfz96_0
         try clear hfz96_1
         try clear hfz96_2
         try clear hfz96_3
         try clear p2
         obtain ⟨kq, x38_100, rfl, HA, HJ100, BK121, BK122, BK123, BK124, BK125, HB⟩ := hcut
         cases kq with
         | zero => exact absurd HA.out (by simp [vals_Join.j2])
         | succ kj100 =>
          have H := HA.out
          clear HA
          simp only [vals_Join.j2] at H
          by_cases c117 : x38_100 = true
          ·subst c117
           have H1 : (some (a1_0, a1_1, a1_2, a1_3)) = some (r1, r2, r3, r4) := by rw [if_pos rfl] at H; exact H
           clear H
           have H := H1
           clear H1
           simp only [Option.some.injEq, Prod.mk.injEq] at H
           obtain ⟨rfl, rfl, rfl, rfl⟩ := H
           have hnb118 := NB122_121.out
           have hnc118 := NB121_122.out
           have hnb119 := NB122_123.out
           have hnc119 := NB123_122.out
           have hnb120 := NB122_124.out
           have hnc120 := NB124_122.out
           have hnb121 := NB122_125.out
           have hnc121 := NB125_122.out
           have hcz122_0 : wc.cell? ⟨gb122, 0, none⟩ = some (.int .u8 a1_0) := (blk_cell BK122.out 0).trans rfl
           have hcz122_1 : wc.cell? ⟨gb122, 1, none⟩ = some (.int .u8 a1_1) := (blk_cell BK122.out 1).trans rfl
           have hcz122_2 : wc.cell? ⟨gb122, 2, none⟩ = some (.int .u16 a1_2) := (blk_cell BK122.out 2).trans rfl
           have hcz122_3 : wc.cell? ⟨gb122, 3, none⟩ = some (.int .i64 a1_3) := (blk_cell BK122.out 3).trans rfl
           have hfz122_0 := blk_frozen BK122.out 0
           have hfz122_1 := blk_frozen BK122.out 1
           have hfz122_2 := blk_frozen BK122.out 2
           have hfz122_3 := blk_frozen BK122.out 3
           have hnb123 := NB124_121.out
           have hnc123 := NB121_124.out
           have hnb124 := NB124_123.out
           have hnc124 := NB123_124.out
           have hnb125 := NB124_125.out
           have hnc125 := NB125_124.out
           have hcz126_0 : wc.cell? ⟨gb124, 0, none⟩ = some (.int .u8 0) := (blk_cell BK124.out 0).trans rfl
           have hcz126_1 : wc.cell? ⟨gb124, 1, none⟩ = some (.int .u8 0) := (blk_cell BK124.out 1).trans rfl
           have hcz126_2 : wc.cell? ⟨gb124, 2, none⟩ = some (.int .u16 0) := (blk_cell BK124.out 2).trans rfl
           have hcz126_3 : wc.cell? ⟨gb124, 3, none⟩ = some (.int .i64 0) := (blk_cell BK124.out 3).trans rfl
           have hfz126_0 := blk_frozen BK124.out 0
           have hfz126_1 := blk_frozen BK124.out 1
           have hfz126_2 := blk_frozen BK124.out 2
           have hfz126_3 := blk_frozen BK124.out 3
           go_wp2
           refine bodyPost_ret (results_cell_row rfl _ _ gb124 56 #[.int .u8 a1_0, .int .u8 a1_1, .int .u16 a1_2, .int .i64 a1_3] (0, 0) _ rfl (by (with_reducible repeat (first | refine blk_drewN ?_ _ | refine blk_drew ?_ | refine blk_alloc ?_ _)); refine blk_put (cs := #[.int .u8 a1_0, .int .u8 a1_1, .int .u16 a1_2, .int .i64 0]) ?_ 3 _ rfl; (with_reducible repeat (first | refine blk_drewN ?_ _ | refine blk_drew ?_ | refine blk_alloc ?_ _)); refine blk_put (cs := #[.int .u8 a1_0, .int .u8 a1_1, .int .u16 0, .int .i64 0]) ?_ 2 _ rfl; (with_reducible repeat (first | refine blk_drewN ?_ _ | refine blk_drew ?_ | refine blk_alloc ?_ _)); refine blk_put (cs := #[.int .u8 a1_0, .int .u8 0, .int .u16 0, .int .i64 0]) ?_ 1 _ rfl; (with_reducible repeat (first | refine blk_drewN ?_ _ | refine blk_drew ?_ | refine blk_alloc ?_ _)); refine blk_put (cs := #[.int .u8 0, .int .u8 0, .int .u16 0, .int .i64 0]) ?_ 0 _ rfl; (with_reducible repeat (first | refine blk_drewN ?_ _ | refine blk_drew ?_ | refine blk_alloc ?_ _)); exact BK124.out) Try.underlying56 rfl (by kernel_rfl)) rfl ?_
           exact ⟨by first | rfl | (simp [errW_none, errW_some] <;> rfl) | (simp [*, errW_none, errW_some] <;> rfl), by repeat (first | (with_reducible first | exact HB.out | apply below_alloc | apply pw_below_drewN | apply below_drew1 | refine below_set ?_ GE121.out | refine below_set ?_ GE122.out | refine below_set ?_ GE123.out | refine below_set ?_ GE124.out | refine below_set ?_ GE125.out) | exact HB.out)⟩
          ·replace c117 := Bool.eq_false_iff.mpr c117
           subst c117
           have H1 : (if a1_0 = 4 then (if a2_0 = 4 then (if a1_1 = a2_1 then ((hier_Common.f l0_0 l0_1 l0_2 l0_3 (wrap64 (a1_2)) (wrap64 (a2_2))).bind fun t130 => (some (4, a1_1, IntKind.u16.wrap (t130), 0))) else ((vals_object.f 0).bind fun bt131 => (some (bt131.1, bt131.2.1, bt131.2.2.1, bt131.2.2.2)))) else (some (1, 0, 0, 0))) else (some (1, 0, 0, 0))) = some (r1, r2, r3, r4) := by rw [if_neg (show ¬ (false = true) by decide)] at H; exact H
           clear H
           have H := H1
           clear H1
           by_cases c127 : a1_0 = 4
           ·rw [if_pos c127] at H
            have c127b0 : (a1_0 == 4) = true := beq_iff_eq.mpr c127
            have c127b1 : (a1_0 != 4) = false := bne_eq_false_iff_eq.mpr c127
            clear c127
            by_cases c128 : a2_0 = 4
            ·rw [if_pos c128] at H
             have c128b0 : (a2_0 == 4) = true := beq_iff_eq.mpr c128
             have c128b1 : (a2_0 != 4) = false := bne_eq_false_iff_eq.mpr c128
             clear c128
             by_cases c129 : a1_1 = a2_1
             ·rw [if_pos c129] at H
              have c129b0 : (a1_1 == a2_1) = true := beq_iff_eq.mpr c129
              have c129b1 : (a1_1 != a2_1) = false := bne_eq_false_iff_eq.mpr c129
              clear c129
              replace H := Option.bind_eq_some_iff.mp H
              obtain ⟨t130, A1300, H⟩ := H
              replace H : (some (4, a1_1, IntKind.u16.wrap (t130), 0)) = some (r1, r2, r3, r4) := H
              have A130 := Aside0.mk A1300
              clear A1300
              simp only [Option.some.injEq, Prod.mk.injEq] at H
              obtain ⟨rfl, rfl, rfl, rfl⟩ := H
              have hnb131 := NB122_121.out
              have hnc131 := NB121_122.out
              have hnb132 := NB122_123.out
              have hnc132 := NB123_122.out
              have hnb133 := NB122_124.out
              have hnc133 := NB124_122.out
              have hnb134 := NB122_125.out
              have hnc134 := NB125_122.out
              have hcz135_0 : wc.cell? ⟨gb122, 0, none⟩ = some (.int .u8 a1_0) := (blk_cell BK122.out 0).trans rfl
              have hcz135_1 : wc.cell? ⟨gb122, 1, none⟩ = some (.int .u8 a1_1) := (blk_cell BK122.out 1).trans rfl
              have hcz135_2 : wc.cell? ⟨gb122, 2, none⟩ = some (.int .u16 a1_2) := (blk_cell BK122.out 2).trans rfl
              have hcz135_3 : wc.cell? ⟨gb122, 3, none⟩ = some (.int .i64 a1_3) := (blk_cell BK122.out 3).trans rfl
              have hfz135_0 := blk_frozen BK122.out 0
              have hfz135_1 := blk_frozen BK122.out 1
              have hfz135_2 := blk_frozen BK122.out 2
              have hfz135_3 := blk_frozen BK122.out 3
              have hnb136 := NB123_121.out
              have hnc136 := NB121_123.out
              have hnb137 := NB123_124.out
              have hnc137 := NB124_123.out
              have hnb138 := NB123_125.out
              have hnc138 := NB125_123.out
              have hcz139_0 : wc.cell? ⟨gb123, 0, none⟩ = some (.int .u8 a2_0) := (blk_cell BK123.out 0).trans rfl
              have hcz139_1 : wc.cell? ⟨gb123, 1, none⟩ = some (.int .u8 a2_1) := (blk_cell BK123.out 1).trans rfl
              have hcz139_2 : wc.cell? ⟨gb123, 2, none⟩ = some (.int .u16 a2_2) := (blk_cell BK123.out 2).trans rfl
              have hcz139_3 : wc.cell? ⟨gb123, 3, none⟩ = some (.int .i64 a2_3) := (blk_cell BK123.out 3).trans rfl
              have hfz139_0 := blk_frozen BK123.out 0
              have hfz139_1 := blk_frozen BK123.out 1
              have hfz139_2 := blk_frozen BK123.out 2
              have hfz139_3 := blk_frozen BK123.out 3
              try go_wp2
              have n0_ := Aside0.mk (blk_drew BK121.out)
              have n1_ := Aside0.mk (blk_drew BK122.out)
              have n2_ := Aside0.mk (blk_drew BK123.out)
              have n3_ := Aside0.mk (blk_drew BK124.out)
              have n4_ := Aside0.mk (blk_drew BK125.out)
              have n5_ := Aside0.mk (below_drew1 HB.out)
              clear BK121
              clear BK122
              clear BK123
              clear BK124
              clear BK125
              clear HB
              have BK121 := n0_
              have BK122 := n1_
              have BK123 := n2_
              have BK124 := n3_
              have BK125 := n4_
              have HB := n5_
              clear n0_ n1_ n2_ n3_ n4_ n5_
              refine start_ (n := 8) (S := fun w' => w'.cell? ⟨gb122, 0, none⟩ = some (.int .u8 a1_0) ∧ w'.cell? ⟨gb122, 1, none⟩ = some (.int .u8 a1_1) ∧ w'.cell? ⟨gb122, 2, none⟩ = some (.int .u16 a1_2) ∧ w'.cell? ⟨gb122, 3, none⟩ = some (.int .i64 a1_3) ∧ w'.cell? ⟨gb123, 0, none⟩ = some (.int .u8 a2_0) ∧ w'.cell? ⟨gb123, 1, none⟩ = some (.int .u8 a2_1) ∧ w'.cell? ⟨gb123, 2, none⟩ = some (.int .u16 a2_2) ∧ w'.cell? ⟨gb123, 3, none⟩ = some (.int .i64 a2_3)) (ds := []) #[false, false, false, false, false, false, false, false] (by kernel_rfl) rfl rfl ⟨(blk_cell BK122.out 0).trans rfl, (blk_cell BK122.out 1).trans rfl, (blk_cell BK122.out 2).trans rfl, (blk_cell BK122.out 3).trans rfl, (blk_cell BK123.out 0).trans rfl, (blk_cell BK123.out 1).trans rfl, (blk_cell BK123.out 2).trans rfl, (blk_cell BK123.out 3).trans rfl⟩ (fun hHeld => ?_); refine with_tabW vals_Join.tab12 vals_Join.bits12 (fun HT_ HW_ => ?_)
              generalize wc.drew = w140 at BK121 BK122 BK123 BK124 BK125 HB hHeld ⊢
              refine pure_ (i := 0) (N := some 58) (v := ?_) (a' := ?_) #[true, false, false, false, false, false, false, false] rfl rfl (any_of HT_.out (by kernel_rfl)) (fun _ _ _ h => h) (Or.inl ⟨by rfl, ?_⟩) ?_ ?_
              rotate_left
              ·intro w'
               go_simp
               with_reducible rfl
              rotate_left
              ·simp only [Act.put, List.setIfInBounds_toArray, List.set_cons_zero, List.set_cons_succ, i64_w, i32_w]
               rfl
              refine pure_ (i := 2) (N := some 60) (v := ?_) (a' := ?_) #[true, false, true, false, false, false, false, false] rfl rfl (any_of HT_.out (by kernel_rfl)) (fun _ _ _ h => h) (Or.inl ⟨by rfl, ?_⟩) ?_ ?_
              rotate_left
              ·intro w'
               go_simp
               with_reducible rfl
              rotate_left
              ·simp only [Act.put, List.setIfInBounds_toArray, List.set_cons_zero, List.set_cons_succ, i64_w, i32_w]
               rfl
              refine take_ (i := 1) (N := some 59) (v := ?_) (a' := ?_) #[true, true, true, false, false, false, false, false] rfl rfl (take_ofW HT_.out HW_.out (by kernel_rfl)) (fun _ _ _ h => h) (Or.inl ⟨by rfl, ?_⟩) hHeld ?_ ?_
              rotate_left
              ·rintro w' ⟨s0, s1, s2, s3, s4, s5, s6, s7⟩
               go_simp
               with_reducible rfl
              rotate_left
              ·simp only [Act.put, List.setIfInBounds_toArray, List.set_cons_zero, List.set_cons_succ, i64_w, i32_w]
               rfl
              refine take_ (i := 3) (N := some 61) (v := ?_) (a' := ?_) #[true, true, true, true, false, false, false, false] rfl rfl (take_ofW HT_.out HW_.out (by kernel_rfl)) (fun _ _ _ h => h) (Or.inl ⟨by rfl, ?_⟩) hHeld ?_ ?_
              rotate_left
              ·rintro w' ⟨s0, s1, s2, s3, s4, s5, s6, s7⟩
               go_simp
               with_reducible rfl
              rotate_left
              ·simp only [Act.put, List.setIfInBounds_toArray, List.set_cons_zero, List.set_cons_succ, i64_w, i32_w]
               rfl
              refine join_ (σ := Nat × Nat) 2 #[true, true, true, true, true, true, false, false] (fun s_ => [(8, .pointer (some ⟨s_.1, 0, none⟩)), (9, .pointer (some ⟨s_.2, 0, none⟩))]) (fun s_ w' => (w'.cell? ⟨gb122, 0, none⟩ = some (.int .u8 a1_0) ∧ w'.cell? ⟨gb122, 1, none⟩ = some (.int .u8 a1_1) ∧ w'.cell? ⟨gb122, 2, none⟩ = some (.int .u16 a1_2) ∧ w'.cell? ⟨gb122, 3, none⟩ = some (.int .i64 a1_3) ∧ w'.cell? ⟨gb123, 0, none⟩ = some (.int .u8 a2_0) ∧ w'.cell? ⟨gb123, 1, none⟩ = some (.int .u8 a2_1) ∧ w'.cell? ⟨gb123, 2, none⟩ = some (.int .u16 a2_2) ∧ w'.cell? ⟨gb123, 3, none⟩ = some (.int .i64 a2_3)) ∧ (w'.heap[gb121]? = some (.cells #[.slice A0_0 l0_0.length c0_0, .slice A0_1 l0_1.length c0_1, .slice A0_2 l0_2.length c0_2, .slice A0_3 l0_3.length c0_3] 27 (0, 0))) ∧ (w'.heap[gb122]? = some (.cells #[.int .u8 a1_0, .int .u8 a1_1, .int .u16 a1_2, .int .i64 a1_3] 56 (0, 0))) ∧ (w'.heap[gb123]? = some (.cells #[.int .u8 a2_0, .int .u8 a2_1, .int .u16 a2_2, .int .i64 a2_3] 56 (0, 0))) ∧ (w'.heap[gb124]? = some (.cells #[.int .u8 0, .int .u8 0, .int .u16 0, .int .i64 0] 56 (0, 0))) ∧ (w'.heap[gb125]? = some (.cells #[.int .u8 1, .int .u8 0, .int .u16 0, .int .i64 0] 56 (0, 0))) ∧ (w'.heap[s_.1]? = some (.cells #[.int .u8 0, .int .u16 0] 32 (0, 0))) ∧ (w'.heap[s_.2]? = some (.cells #[.int .u8 0, .int .u16 0] 32 (0, 0))) ∧ (w.heap.size ≤ s_.1) ∧ (w.heap.size ≤ s_.1) ∧ (gb121 ≠ s_.1) ∧ (s_.1 ≠ gb121) ∧ (gb122 ≠ s_.1) ∧ (s_.1 ≠ gb122) ∧ (gb123 ≠ s_.1) ∧ (s_.1 ≠ gb123) ∧ (gb124 ≠ s_.1) ∧ (s_.1 ≠ gb124) ∧ (gb125 ≠ s_.1) ∧ (s_.1 ≠ gb125) ∧ (s_.2 ≠ s_.1) ∧ (s_.1 ≠ s_.2) ∧ (w.heap.size ≤ s_.2) ∧ (w.heap.size ≤ s_.2) ∧ (gb121 ≠ s_.2) ∧ (s_.2 ≠ gb121) ∧ (gb122 ≠ s_.2) ∧ (s_.2 ≠ gb122) ∧ (gb123 ≠ s_.2) ∧ (s_.2 ≠ gb123) ∧ (gb124 ≠ s_.2) ∧ (s_.2 ≠ gb124) ∧ (gb125 ≠ s_.2) ∧ (s_.2 ≠ gb125) ∧ (Below w.heap.size w w')) ?_ ?_
              rotate_left
              ·intro hCont
               refine two_ (i := 4) (j := 5) (Ni := some 8) (Nj := some 9) #[true, true, true, true, true, false, false, false] #[true, true, true, true, false, true, false, false] rfl rfl rfl rfl (two_of HT_.out (by kernel_rfl)) (by decide) (by decide) (fun K hK => ?_) (fun K hK => ?_)
               ·skip
                refine box_step ?hg (N := 8) ?hd (cs := #[.int .u8 0, .int .u16 0]) (t := 32) ?hr ?_; (case hd => rfl); (case hg => rfl); (case hr => first | (go_simp; done) | (go_simp; rfl))
                intro gb128 hg w141 hbox hb
                have n0_ := Aside0.mk (blk_below (qb BK121.out) hb)
                have n1_ := Aside0.mk (blk_below (qb BK122.out) hb)
                have n2_ := Aside0.mk (blk_below (qb BK123.out) hb)
                have n3_ := Aside0.mk (blk_below (qb BK124.out) hb)
                have n4_ := Aside0.mk (blk_below (qb BK125.out) hb)
                have n5_ := Aside0.mk (below_step (qW HB.out) hb)
                have n6_ := Aside0.mk (hbox)
                have n7_ := Aside0.mk ((by rw [hg]; exact (below_size (qW HB.out)) : w.heap.size ≤ gb128))
                have n8_ := Aside0.mk ((by rw [hg]; exact (below_size (qW HB.out)) : w.heap.size ≤ gb128))
                have n9_ := Aside0.mk ((by rw [hg]; exact Nat.ne_of_lt (blk_lt (qb BK121.out)) : gb121 ≠ gb128))
                have n10_ := Aside0.mk ((by rw [hg]; exact Nat.ne_of_gt (blk_lt (qb BK121.out)) : gb128 ≠ gb121))
                have n11_ := Aside0.mk ((by rw [hg]; exact Nat.ne_of_lt (blk_lt (qb BK122.out)) : gb122 ≠ gb128))
                have n12_ := Aside0.mk ((by rw [hg]; exact Nat.ne_of_gt (blk_lt (qb BK122.out)) : gb128 ≠ gb122))
                have n13_ := Aside0.mk ((by rw [hg]; exact Nat.ne_of_lt (blk_lt (qb BK123.out)) : gb123 ≠ gb128))
                have n14_ := Aside0.mk ((by rw [hg]; exact Nat.ne_of_gt (blk_lt (qb BK123.out)) : gb128 ≠ gb123))
                have n15_ := Aside0.mk ((by rw [hg]; exact Nat.ne_of_lt (blk_lt (qb BK124.out)) : gb124 ≠ gb128))
                have n16_ := Aside0.mk ((by rw [hg]; exact Nat.ne_of_gt (blk_lt (qb BK124.out)) : gb128 ≠ gb124))
                have n17_ := Aside0.mk ((by rw [hg]; exact Nat.ne_of_lt (blk_lt (qb BK125.out)) : gb125 ≠ gb128))
                have n18_ := Aside0.mk ((by rw [hg]; exact Nat.ne_of_gt (blk_lt (qb BK125.out)) : gb128 ≠ gb125))
                clear BK121
                clear BK122
                clear BK123
                clear BK124
                clear BK125
                clear HB
                have BK121 := n0_
                have BK122 := n1_
                have BK123 := n2_
                have BK124 := n3_
                have BK125 := n4_
                have HB := n5_
                have BK128 := n6_
                have GW128 := n7_
                have GE128 := n8_
                have NB121_128 := n9_
                have NB128_121 := n10_
                have NB122_128 := n11_
                have NB128_122 := n12_
                have NB123_128 := n13_
                have NB128_123 := n14_
                have NB124_128 := n15_
                have NB128_124 := n16_
                have NB125_128 := n17_
                have NB128_125 := n18_
                clear n0_ n1_ n2_ n3_ n4_ n5_ n6_ n7_ n8_ n9_ n10_ n11_ n12_ n13_ n14_ n15_ n16_ n17_ n18_
                clear hb hbox hg
                refine hK.out _ _ ⟨(blk_cell BK122.out 0).trans rfl, (blk_cell BK122.out 1).trans rfl, (blk_cell BK122.out 2).trans rfl, (blk_cell BK122.out 3).trans rfl, (blk_cell BK123.out 0).trans rfl, (blk_cell BK123.out 1).trans rfl, (blk_cell BK123.out 2).trans rfl, (blk_cell BK123.out 3).trans rfl⟩ (fun hHeld => ?_)
                clear hK K
                refine norm_ (a' := ?_) ?_ ?_
                rotate_left
                ·show Act.put _ (some 8) _ = _
                 simp only [Act.put, List.setIfInBounds_toArray, List.set_cons_zero, List.set_cons_succ, i64_w, i32_w]
                 rfl
                refine one_ (i := 5) (N := some 9) #[true, true, true, true, true, true, false, false] rfl rfl (one_of HT_.out (by kernel_rfl)) (by decide) (fun K hK => ?_)
                refine box_step ?hg (N := 9) ?hd (cs := #[.int .u8 0, .int .u16 0]) (t := 32) ?hr ?_; (case hd => rfl); (case hg => rfl); (case hr => first | (go_simp; done) | (go_simp; rfl))
                intro gb129 hg w142 hbox hb
                have n0_ := Aside0.mk (blk_below (qb BK121.out) hb)
                have n1_ := Aside0.mk (blk_below (qb BK122.out) hb)
                have n2_ := Aside0.mk (blk_below (qb BK123.out) hb)
                have n3_ := Aside0.mk (blk_below (qb BK124.out) hb)
                have n4_ := Aside0.mk (blk_below (qb BK125.out) hb)
                have n5_ := Aside0.mk (blk_below (qb BK128.out) hb)
                have n6_ := Aside0.mk (below_step (qW HB.out) hb)
                have n7_ := Aside0.mk (hbox)
                have n8_ := Aside0.mk ((by rw [hg]; exact (below_size (qW HB.out)) : w.heap.size ≤ gb129))
                have n9_ := Aside0.mk ((by rw [hg]; exact (below_size (qW HB.out)) : w.heap.size ≤ gb129))
                have n10_ := Aside0.mk ((by rw [hg]; exact Nat.ne_of_lt (blk_lt (qb BK121.out)) : gb121 ≠ gb129))
                have n11_ := Aside0.mk ((by rw [hg]; exact Nat.ne_of_gt (blk_lt (qb BK121.out)) : gb129 ≠ gb121))
                have n12_ := Aside0.mk ((by rw [hg]; exact Nat.ne_of_lt (blk_lt (qb BK122.out)) : gb122 ≠ gb129))
                have n13_ := Aside0.mk ((by rw [hg]; exact Nat.ne_of_gt (blk_lt (qb BK122.out)) : gb129 ≠ gb122))
                have n14_ := Aside0.mk ((by rw [hg]; exact Nat.ne_of_lt (blk_lt (qb BK123.out)) : gb123 ≠ gb129))
                have n15_ := Aside0.mk ((by rw [hg]; exact Nat.ne_of_gt (blk_lt (qb BK123.out)) : gb129 ≠ gb123))
                have n16_ := Aside0.mk ((by rw [hg]; exact Nat.ne_of_lt (blk_lt (qb BK124.out)) : gb124 ≠ gb129))
                have n17_ := Aside0.mk ((by rw [hg]; exact Nat.ne_of_gt (blk_lt (qb BK124.out)) : gb129 ≠ gb124))
                have n18_ := Aside0.mk ((by rw [hg]; exact Nat.ne_of_lt (blk_lt (qb BK125.out)) : gb125 ≠ gb129))
                have n19_ := Aside0.mk ((by rw [hg]; exact Nat.ne_of_gt (blk_lt (qb BK125.out)) : gb129 ≠ gb125))
                have n20_ := Aside0.mk ((by rw [hg]; exact Nat.ne_of_lt (blk_lt (qb BK128.out)) : gb128 ≠ gb129))
                have n21_ := Aside0.mk ((by rw [hg]; exact Nat.ne_of_gt (blk_lt (qb BK128.out)) : gb129 ≠ gb128))
                clear BK121
                clear BK122
                clear BK123
                clear BK124
                clear BK125
                clear BK128
                clear HB
                have BK121 := n0_
                have BK122 := n1_
                have BK123 := n2_
                have BK124 := n3_
                have BK125 := n4_
                have BK128 := n5_
                have HB := n6_
                have BK129 := n7_
                have GW129 := n8_
                have GE129 := n9_
                have NB121_129 := n10_
                have NB129_121 := n11_
                have NB122_129 := n12_
                have NB129_122 := n13_
                have NB123_129 := n14_
                have NB129_123 := n15_
                have NB124_129 := n16_
                have NB129_124 := n17_
                have NB125_129 := n18_
                have NB129_125 := n19_
                have NB128_129 := n20_
                have NB129_128 := n21_
                clear n0_ n1_ n2_ n3_ n4_ n5_ n6_ n7_ n8_ n9_ n10_ n11_ n12_ n13_ n14_ n15_ n16_ n17_ n18_ n19_ n20_ n21_
                clear hb hbox hg
                refine hK.out _ _ ⟨(blk_cell BK122.out 0).trans rfl, (blk_cell BK122.out 1).trans rfl, (blk_cell BK122.out 2).trans rfl, (blk_cell BK122.out 3).trans rfl, (blk_cell BK123.out 0).trans rfl, (blk_cell BK123.out 1).trans rfl, (blk_cell BK123.out 2).trans rfl, (blk_cell BK123.out 3).trans rfl⟩ (fun hHeld => ?_)
                clear hK K
                refine norm_ (a' := ?_) ?_ ?_
                rotate_left
                ·show Act.put _ (some 9) _ = _
                 simp only [Act.put, List.setIfInBounds_toArray, List.set_cons_zero, List.set_cons_succ, i64_w, i32_w]
                 rfl
                exact norm_ (by simp only [putAll, Act.put, List.setIfInBounds_toArray, List.set_cons_zero, List.set_cons_succ]) (hCont (gb128, gb129) _ ⟨hHeld, (qb BK121.out), (qb BK122.out), (qb BK123.out), (qb BK124.out), (qb BK125.out), (qb BK128.out), (qb BK129.out), GW128.out, GE128.out, NB121_128.out, NB128_121.out, NB122_128.out, NB128_122.out, NB123_128.out, NB128_123.out, NB124_128.out, NB128_124.out, NB125_128.out, NB128_125.out, NB129_128.out, NB128_129.out, GW129.out, GE129.out, NB121_129.out, NB129_121.out, NB122_129.out, NB129_122.out, NB123_129.out, NB129_123.out, NB124_129.out, NB129_124.out, NB125_129.out, NB129_125.out, (qW HB.out)⟩)
               ·skip
                refine box_step ?hg (N := 9) ?hd (cs := #[.int .u8 0, .int .u16 0]) (t := 32) ?hr ?_; (case hd => rfl); (case hg => rfl); (case hr => first | (go_simp; done) | (go_simp; rfl))
                intro gb129 hg w141 hbox hb
                have n0_ := Aside0.mk (blk_below (qb BK121.out) hb)
                have n1_ := Aside0.mk (blk_below (qb BK122.out) hb)
                have n2_ := Aside0.mk (blk_below (qb BK123.out) hb)
                have n3_ := Aside0.mk (blk_below (qb BK124.out) hb)
                have n4_ := Aside0.mk (blk_below (qb BK125.out) hb)
                have n5_ := Aside0.mk (below_step (qW HB.out) hb)
                have n6_ := Aside0.mk (hbox)
                have n7_ := Aside0.mk ((by rw [hg]; exact (below_size (qW HB.out)) : w.heap.size ≤ gb129))
                have n8_ := Aside0.mk ((by rw [hg]; exact (below_size (qW HB.out)) : w.heap.size ≤ gb129))
                have n9_ := Aside0.mk ((by rw [hg]; exact Nat.ne_of_lt (blk_lt (qb BK121.out)) : gb121 ≠ gb129))
                have n10_ := Aside0.mk ((by rw [hg]; exact Nat.ne_of_gt (blk_lt (qb BK121.out)) : gb129 ≠ gb121))
                have n11_ := Aside0.mk ((by rw [hg]; exact Nat.ne_of_lt (blk_lt (qb BK122.out)) : gb122 ≠ gb129))
                have n12_ := Aside0.mk ((by rw [hg]; exact Nat.ne_of_gt (blk_lt (qb BK122.out)) : gb129 ≠ gb122))
                have n13_ := Aside0.mk ((by rw [hg]; exact Nat.ne_of_lt (blk_lt (qb BK123.out)) : gb123 ≠ gb129))
                have n14_ := Aside0.mk ((by rw [hg]; exact Nat.ne_of_gt (blk_lt (qb BK123.out)) : gb129 ≠ gb123))
                have n15_ := Aside0.mk ((by rw [hg]; exact Nat.ne_of_lt (blk_lt (qb BK124.out)) : gb124 ≠ gb129))
                have n16_ := Aside0.mk ((by rw [hg]; exact Nat.ne_of_gt (blk_lt (qb BK124.out)) : gb129 ≠ gb124))
                have n17_ := Aside0.mk ((by rw [hg]; exact Nat.ne_of_lt (blk_lt (qb BK125.out)) : gb125 ≠ gb129))
                have n18_ := Aside0.mk ((by rw [hg]; exact Nat.ne_of_gt (blk_lt (qb BK125.out)) : gb129 ≠ gb125))
                clear BK121
                clear BK122
                clear BK123
                clear BK124
                clear BK125
                clear HB
                have BK121 := n0_
                have BK122 := n1_
                have BK123 := n2_
                have BK124 := n3_
                have BK125 := n4_
                have HB := n5_
                have BK129 := n6_
                have GW129 := n7_
                have GE129 := n8_
                have NB121_129 := n9_
                have NB129_121 := n10_
                have NB122_129 := n11_
                have NB129_122 := n12_
                have NB123_129 := n13_
                have NB129_123 := n14_
                have NB124_129 := n15_
                have NB129_124 := n16_
                have NB125_129 := n17_
                have NB129_125 := n18_
                clear n0_ n1_ n2_ n3_ n4_ n5_ n6_ n7_ n8_ n9_ n10_ n11_ n12_ n13_ n14_ n15_ n16_ n17_ n18_
                clear hb hbox hg
                refine hK.out _ _ ⟨(blk_cell BK122.out 0).trans rfl, (blk_cell BK122.out 1).trans rfl, (blk_cell BK122.out 2).trans rfl, (blk_cell BK122.out 3).trans rfl, (blk_cell BK123.out 0).trans rfl, (blk_cell BK123.out 1).trans rfl, (blk_cell BK123.out 2).trans rfl, (blk_cell BK123.out 3).trans rfl⟩ (fun hHeld => ?_)
                clear hK K
                refine norm_ (a' := ?_) ?_ ?_
                rotate_left
                ·show Act.put _ (some 9) _ = _
                 simp only [Act.put, List.setIfInBounds_toArray, List.set_cons_zero, List.set_cons_succ, i64_w, i32_w]
                 rfl
                refine one_ (i := 4) (N := some 8) #[true, true, true, true, true, true, false, false] rfl rfl (one_of HT_.out (by kernel_rfl)) (by decide) (fun K hK => ?_)
                refine box_step ?hg (N := 8) ?hd (cs := #[.int .u8 0, .int .u16 0]) (t := 32) ?hr ?_; (case hd => rfl); (case hg => rfl); (case hr => first | (go_simp; done) | (go_simp; rfl))
                intro gb128 hg w142 hbox hb
                have n0_ := Aside0.mk (blk_below (qb BK121.out) hb)
                have n1_ := Aside0.mk (blk_below (qb BK122.out) hb)
                have n2_ := Aside0.mk (blk_below (qb BK123.out) hb)
                have n3_ := Aside0.mk (blk_below (qb BK124.out) hb)
                have n4_ := Aside0.mk (blk_below (qb BK125.out) hb)
                have n5_ := Aside0.mk (blk_below (qb BK129.out) hb)
                have n6_ := Aside0.mk (below_step (qW HB.out) hb)
                have n7_ := Aside0.mk (hbox)
                have n8_ := Aside0.mk ((by rw [hg]; exact (below_size (qW HB.out)) : w.heap.size ≤ gb128))
                have n9_ := Aside0.mk ((by rw [hg]; exact (below_size (qW HB.out)) : w.heap.size ≤ gb128))
                have n10_ := Aside0.mk ((by rw [hg]; exact Nat.ne_of_lt (blk_lt (qb BK121.out)) : gb121 ≠ gb128))
                have n11_ := Aside0.mk ((by rw [hg]; exact Nat.ne_of_gt (blk_lt (qb BK121.out)) : gb128 ≠ gb121))
                have n12_ := Aside0.mk ((by rw [hg]; exact Nat.ne_of_lt (blk_lt (qb BK122.out)) : gb122 ≠ gb128))
                have n13_ := Aside0.mk ((by rw [hg]; exact Nat.ne_of_gt (blk_lt (qb BK122.out)) : gb128 ≠ gb122))
                have n14_ := Aside0.mk ((by rw [hg]; exact Nat.ne_of_lt (blk_lt (qb BK123.out)) : gb123 ≠ gb128))
                have n15_ := Aside0.mk ((by rw [hg]; exact Nat.ne_of_gt (blk_lt (qb BK123.out)) : gb128 ≠ gb123))
                have n16_ := Aside0.mk ((by rw [hg]; exact Nat.ne_of_lt (blk_lt (qb BK124.out)) : gb124 ≠ gb128))
                have n17_ := Aside0.mk ((by rw [hg]; exact Nat.ne_of_gt (blk_lt (qb BK124.out)) : gb128 ≠ gb124))
                have n18_ := Aside0.mk ((by rw [hg]; exact Nat.ne_of_lt (blk_lt (qb BK125.out)) : gb125 ≠ gb128))
                have n19_ := Aside0.mk ((by rw [hg]; exact Nat.ne_of_gt (blk_lt (qb BK125.out)) : gb128 ≠ gb125))
                have n20_ := Aside0.mk ((by rw [hg]; exact Nat.ne_of_lt (blk_lt (qb BK129.out)) : gb129 ≠ gb128))
                have n21_ := Aside0.mk ((by rw [hg]; exact Nat.ne_of_gt (blk_lt (qb BK129.out)) : gb128 ≠ gb129))
                clear BK121
                clear BK122
                clear BK123
                clear BK124
                clear BK125
                clear BK129
                clear HB
                have BK121 := n0_
                have BK122 := n1_
                have BK123 := n2_
                have BK124 := n3_
                have BK125 := n4_
                have BK129 := n5_
                have HB := n6_
                have BK128 := n7_
                have GW128 := n8_
                have GE128 := n9_
                have NB121_128 := n10_
                have NB128_121 := n11_
                have NB122_128 := n12_
                have NB128_122 := n13_
                have NB123_128 := n14_
                have NB128_123 := n15_
                have NB124_128 := n16_
                have NB128_124 := n17_
                have NB125_128 := n18_
                have NB128_125 := n19_
                have NB129_128 := n20_
                have NB128_129 := n21_
                clear n0_ n1_ n2_ n3_ n4_ n5_ n6_ n7_ n8_ n9_ n10_ n11_ n12_ n13_ n14_ n15_ n16_ n17_ n18_ n19_ n20_ n21_
                clear hb hbox hg
                refine hK.out _ _ ⟨(blk_cell BK122.out 0).trans rfl, (blk_cell BK122.out 1).trans rfl, (blk_cell BK122.out 2).trans rfl, (blk_cell BK122.out 3).trans rfl, (blk_cell BK123.out 0).trans rfl, (blk_cell BK123.out 1).trans rfl, (blk_cell BK123.out 2).trans rfl, (blk_cell BK123.out 3).trans rfl⟩ (fun hHeld => ?_)
                clear hK K
                refine norm_ (a' := ?_) ?_ ?_
                rotate_left
                ·show Act.put _ (some 8) _ = _
                 simp only [Act.put, List.setIfInBounds_toArray, List.set_cons_zero, List.set_cons_succ, i64_w, i32_w]
                 rfl
                exact norm_ (by simp only [putAll, Act.put, List.setIfInBounds_toArray, List.set_cons_zero, List.set_cons_succ]) (hCont (gb128, gb129) _ ⟨hHeld, (qb BK121.out), (qb BK122.out), (qb BK123.out), (qb BK124.out), (qb BK125.out), (qb BK128.out), (qb BK129.out), GW128.out, GE128.out, NB121_128.out, NB128_121.out, NB122_128.out, NB128_122.out, NB123_128.out, NB128_123.out, NB124_128.out, NB128_124.out, NB125_128.out, NB128_125.out, NB129_128.out, NB128_129.out, GW129.out, GE129.out, NB121_129.out, NB129_121.out, NB122_129.out, NB129_122.out, NB123_129.out, NB129_123.out, NB124_129.out, NB129_124.out, NB125_129.out, NB129_125.out, (qW HB.out)⟩)
              rintro ⟨gb128, gb129⟩ w143 ⟨hS_, h0_, h1_, h2_, h3_, h4_, h5_, h6_, h7_, h8_, h9_, h10_, h11_, h12_, h13_, h14_, h15_, h16_, h17_, h18_, h19_, h20_, h21_, h22_, h23_, h24_, h25_, h26_, h27_, h28_, h29_, h30_, h31_, h32_, h33_⟩
              have n0_ : Aside0 (w143.heap[gb121]? = some (.cells #[.slice A0_0 l0_0.length c0_0, .slice A0_1 l0_1.length c0_1, .slice A0_2 l0_2.length c0_2, .slice A0_3 l0_3.length c0_3] 27 (0, 0))) := ⟨h0_⟩
              have n1_ : Aside0 (w143.heap[gb122]? = some (.cells #[.int .u8 a1_0, .int .u8 a1_1, .int .u16 a1_2, .int .i64 a1_3] 56 (0, 0))) := ⟨h1_⟩
              have n2_ : Aside0 (w143.heap[gb123]? = some (.cells #[.int .u8 a2_0, .int .u8 a2_1, .int .u16 a2_2, .int .i64 a2_3] 56 (0, 0))) := ⟨h2_⟩
              have n3_ : Aside0 (w143.heap[gb124]? = some (.cells #[.int .u8 0, .int .u8 0, .int .u16 0, .int .i64 0] 56 (0, 0))) := ⟨h3_⟩
              have n4_ : Aside0 (w143.heap[gb125]? = some (.cells #[.int .u8 1, .int .u8 0, .int .u16 0, .int .i64 0] 56 (0, 0))) := ⟨h4_⟩
              have n5_ : Aside0 (w143.heap[gb128]? = some (.cells #[.int .u8 0, .int .u16 0] 32 (0, 0))) := ⟨h5_⟩
              have n6_ : Aside0 (w143.heap[gb129]? = some (.cells #[.int .u8 0, .int .u16 0] 32 (0, 0))) := ⟨h6_⟩
              have n7_ : Aside0 (w.heap.size ≤ gb128) := ⟨h7_⟩
              have n8_ : Aside0 (w.heap.size ≤ gb128) := ⟨h8_⟩
              have n9_ : Aside0 (gb121 ≠ gb128) := ⟨h9_⟩
              have n10_ : Aside0 (gb128 ≠ gb121) := ⟨h10_⟩
              have n11_ : Aside0 (gb122 ≠ gb128) := ⟨h11_⟩
              have n12_ : Aside0 (gb128 ≠ gb122) := ⟨h12_⟩
              have n13_ : Aside0 (gb123 ≠ gb128) := ⟨h13_⟩
              have n14_ : Aside0 (gb128 ≠ gb123) := ⟨h14_⟩
              have n15_ : Aside0 (gb124 ≠ gb128) := ⟨h15_⟩
              have n16_ : Aside0 (gb128 ≠ gb124) := ⟨h16_⟩
              have n17_ : Aside0 (gb125 ≠ gb128) := ⟨h17_⟩
              have n18_ : Aside0 (gb128 ≠ gb125) := ⟨h18_⟩
              have n19_ : Aside0 (gb129 ≠ gb128) := ⟨h19_⟩
              have n20_ : Aside0 (gb128 ≠ gb129) := ⟨h20_⟩
              have n21_ : Aside0 (w.heap.size ≤ gb129) := ⟨h21_⟩
              have n22_ : Aside0 (w.heap.size ≤ gb129) := ⟨h22_⟩
              have n23_ : Aside0 (gb121 ≠ gb129) := ⟨h23_⟩
              have n24_ : Aside0 (gb129 ≠ gb121) := ⟨h24_⟩
              have n25_ : Aside0 (gb122 ≠ gb129) := ⟨h25_⟩
              have n26_ : Aside0 (gb129 ≠ gb122) := ⟨h26_⟩
              have n27_ : Aside0 (gb123 ≠ gb129) := ⟨h27_⟩
              have n28_ : Aside0 (gb129 ≠ gb123) := ⟨h28_⟩
              have n29_ : Aside0 (gb124 ≠ gb129) := ⟨h29_⟩
              have n30_ : Aside0 (gb129 ≠ gb124) := ⟨h30_⟩
              have n31_ : Aside0 (gb125 ≠ gb129) := ⟨h31_⟩
              have n32_ : Aside0 (gb129 ≠ gb125) := ⟨h32_⟩
              have n33_ : Aside0 (Below w.heap.size w w143) := ⟨h33_⟩
              clear BK121
              clear BK122
              clear BK123
              clear BK124
              clear BK125
              clear HB
              clear h0_ h1_ h2_ h3_ h4_ h5_ h6_ h7_ h8_ h9_ h10_ h11_ h12_ h13_ h14_ h15_ h16_ h17_ h18_ h19_ h20_ h21_ h22_ h23_ h24_ h25_ h26_ h27_ h28_ h29_ h30_ h31_ h32_ h33_
              have BK121 := n0_
              have BK122 := n1_
              have BK123 := n2_
              have BK124 := n3_
              have BK125 := n4_
              have BK128 := n5_
              have BK129 := n6_
              have GW128 := n7_
              have GE128 := n8_
              have NB121_128 := n9_
              have NB128_121 := n10_
              have NB122_128 := n11_
              have NB128_122 := n12_
              have NB123_128 := n13_
              have NB128_123 := n14_
              have NB124_128 := n15_
              have NB128_124 := n16_
              have NB125_128 := n17_
              have NB128_125 := n18_
              have NB129_128 := n19_
              have NB128_129 := n20_
              have GW129 := n21_
              have GE129 := n22_
              have NB121_129 := n23_
              have NB129_121 := n24_
              have NB122_129 := n25_
              have NB129_122 := n26_
              have NB123_129 := n27_
              have NB129_123 := n28_
              have NB124_129 := n29_
              have NB129_124 := n30_
              have NB125_129 := n31_
              have NB129_125 := n32_
              have HB := n33_
              clear n0_ n1_ n2_ n3_ n4_ n5_ n6_ n7_ n8_ n9_ n10_ n11_ n12_ n13_ n14_ n15_ n16_ n17_ n18_ n19_ n20_ n21_ n22_ n23_ n24_ n25_ n26_ n27_ n28_ n29_ n30_ n31_ n32_ n33_
              have hHeld : w143.cell? ⟨gb122, 0, none⟩ = some (.int .u8 a1_0) ∧ w143.cell? ⟨gb122, 1, none⟩ = some (.int .u8 a1_1) ∧ w143.cell? ⟨gb122, 2, none⟩ = some (.int .u16 a1_2) ∧ w143.cell? ⟨gb122, 3, none⟩ = some (.int .i64 a1_3) ∧ w143.cell? ⟨gb123, 0, none⟩ = some (.int .u8 a2_0) ∧ w143.cell? ⟨gb123, 1, none⟩ = some (.int .u8 a2_1) ∧ w143.cell? ⟨gb123, 2, none⟩ = some (.int .u16 a2_2) ∧ w143.cell? ⟨gb123, 3, none⟩ = some (.int .i64 a2_3) := hS_
              refine norm_ (a' := ?_) ?_ ?_
              rotate_left
              ·simp only [putAll, Act.put, List.setIfInBounds_toArray, List.set_cons_zero, List.set_cons_succ]
               rfl
              refine one_ (i := 6) (N := none) #[true, true, true, true, true, true, true, false] rfl rfl (one_of HT_.out (by kernel_rfl)) (by decide) (fun K hK => ?_)
              have hs144 : w143.cell? ⟨gb128, 0, none⟩ = some (.int .u8 0) := (blk_cell BK128.out 0).trans rfl
              have hfs144 := blk_frozen BK128.out 0
              have hns144_0 := NB121_128.out
              have hns144_1 := NB122_128.out
              have hns144_2 := NB123_128.out
              have hns144_3 := NB124_128.out
              have hns144_4 := NB125_128.out
              have hns144_6 := NB129_128.out
              have hms144_0 := NB128_121.out
              have hms144_1 := NB128_122.out
              have hms144_2 := NB128_123.out
              have hms144_3 := NB128_124.out
              have hms144_4 := NB128_125.out
              have hms144_6 := NB128_129.out
              have hs145 : w143.cell? ⟨gb128, 1, none⟩ = some (.int .u16 0) := (blk_cell BK128.out 1).trans rfl
              have hfs145 := blk_frozen BK128.out 1
              have hns145_0 := NB121_128.out
              have hns145_1 := NB122_128.out
              have hns145_2 := NB123_128.out
              have hns145_3 := NB124_128.out
              have hns145_4 := NB125_128.out
              have hns145_6 := NB129_128.out
              have hms145_0 := NB128_121.out
              have hms145_1 := NB128_122.out
              have hms145_2 := NB128_123.out
              have hms145_3 := NB128_124.out
              have hms145_4 := NB128_125.out
              have hms145_6 := NB128_129.out
              refine skip_ (w1 := ?_) (by rfl) rfl ?_ ?_
              rotate_left
              ·go_simp
               rfl
              refine hK.out _ _ ⟨((cell_far (p := ⟨gb128, _, none⟩) NB122_128.out _).trans (((cell_far (p := ⟨gb128, _, none⟩) NB122_128.out _).trans (hHeld.1)))), ((cell_far (p := ⟨gb128, _, none⟩) NB122_128.out _).trans (((cell_far (p := ⟨gb128, _, none⟩) NB122_128.out _).trans (hHeld.2.1)))), ((cell_far (p := ⟨gb128, _, none⟩) NB122_128.out _).trans (((cell_far (p := ⟨gb128, _, none⟩) NB122_128.out _).trans (hHeld.2.2.1)))), ((cell_far (p := ⟨gb128, _, none⟩) NB122_128.out _).trans (((cell_far (p := ⟨gb128, _, none⟩) NB122_128.out _).trans (hHeld.2.2.2.1)))), ((cell_far (p := ⟨gb128, _, none⟩) NB123_128.out _).trans (((cell_far (p := ⟨gb128, _, none⟩) NB123_128.out _).trans (hHeld.2.2.2.2.1)))), ((cell_far (p := ⟨gb128, _, none⟩) NB123_128.out _).trans (((cell_far (p := ⟨gb128, _, none⟩) NB123_128.out _).trans (hHeld.2.2.2.2.2.1)))), ((cell_far (p := ⟨gb128, _, none⟩) NB123_128.out _).trans (((cell_far (p := ⟨gb128, _, none⟩) NB123_128.out _).trans (hHeld.2.2.2.2.2.2.1)))), ((cell_far (p := ⟨gb128, _, none⟩) NB123_128.out _).trans (((cell_far (p := ⟨gb128, _, none⟩) NB123_128.out _).trans (hHeld.2.2.2.2.2.2.2))))⟩ (fun hHeld => ?_)
              clear hK K
              refine one_ (i := 7) (N := none) #[true, true, true, true, true, true, true, true] rfl rfl (one_of HT_.out (by kernel_rfl)) (by decide) (fun K hK => ?_)
              have hs146 : w143.cell? ⟨gb129, 0, none⟩ = some (.int .u8 0) := (blk_cell BK129.out 0).trans rfl
              have hfs146 := blk_frozen BK129.out 0
              have hns146_0 := NB121_129.out
              have hns146_1 := NB122_129.out
              have hns146_2 := NB123_129.out
              have hns146_3 := NB124_129.out
              have hns146_4 := NB125_129.out
              have hns146_5 := NB128_129.out
              have hms146_0 := NB129_121.out
              have hms146_1 := NB129_122.out
              have hms146_2 := NB129_123.out
              have hms146_3 := NB129_124.out
              have hms146_4 := NB129_125.out
              have hms146_5 := NB129_128.out
              have hs147 : w143.cell? ⟨gb129, 1, none⟩ = some (.int .u16 0) := (blk_cell BK129.out 1).trans rfl
              have hfs147 := blk_frozen BK129.out 1
              have hns147_0 := NB121_129.out
              have hns147_1 := NB122_129.out
              have hns147_2 := NB123_129.out
              have hns147_3 := NB124_129.out
              have hns147_4 := NB125_129.out
              have hns147_5 := NB128_129.out
              have hms147_0 := NB129_121.out
              have hms147_1 := NB129_122.out
              have hms147_2 := NB129_123.out
              have hms147_3 := NB129_124.out
              have hms147_4 := NB129_125.out
              have hms147_5 := NB129_128.out
              refine skip_ (w1 := ?_) (by rfl) rfl ?_ ?_
              rotate_left
              ·go_simp
               rfl
              refine hK.out _ _ ⟨((cell_far (p := ⟨gb129, _, none⟩) NB122_129.out _).trans (((cell_far (p := ⟨gb129, _, none⟩) NB122_129.out _).trans (hHeld.1)))), ((cell_far (p := ⟨gb129, _, none⟩) NB122_129.out _).trans (((cell_far (p := ⟨gb129, _, none⟩) NB122_129.out _).trans (hHeld.2.1)))), ((cell_far (p := ⟨gb129, _, none⟩) NB122_129.out _).trans (((cell_far (p := ⟨gb129, _, none⟩) NB122_129.out _).trans (hHeld.2.2.1)))), ((cell_far (p := ⟨gb129, _, none⟩) NB122_129.out _).trans (((cell_far (p := ⟨gb129, _, none⟩) NB122_129.out _).trans (hHeld.2.2.2.1)))), ((cell_far (p := ⟨gb129, _, none⟩) NB123_129.out _).trans (((cell_far (p := ⟨gb129, _, none⟩) NB123_129.out _).trans (hHeld.2.2.2.2.1)))), ((cell_far (p := ⟨gb129, _, none⟩) NB123_129.out _).trans (((cell_far (p := ⟨gb129, _, none⟩) NB123_129.out _).trans (hHeld.2.2.2.2.2.1)))), ((cell_far (p := ⟨gb129, _, none⟩) NB123_129.out _).trans (((cell_far (p := ⟨gb129, _, none⟩) NB123_129.out _).trans (hHeld.2.2.2.2.2.2.1)))), ((cell_far (p := ⟨gb129, _, none⟩) NB123_129.out _).trans (((cell_far (p := ⟨gb129, _, none⟩) NB123_129.out _).trans (hHeld.2.2.2.2.2.2.2))))⟩ (fun hHeld => ?_)
              clear hK K
              refine done_ (done_of HT_.out (by kernel_rfl)) ?_
              have hnb148 := NB128_121.out
              have hnc148 := NB121_128.out
              have hnb149 := NB128_122.out
              have hnc149 := NB122_128.out
              have hnb150 := NB128_123.out
              have hnc150 := NB123_128.out
              have hnb151 := NB128_124.out
              have hnc151 := NB124_128.out
              have hnb152 := NB128_125.out
              have hnc152 := NB125_128.out
              have hnb153 := NB128_129.out
              have hnc153 := NB129_128.out
              have hcz154_0 : w143.cell? ⟨gb128, 0, none⟩ = some (.int .u8 0) := (blk_cell BK128.out 0).trans rfl
              have hcz154_1 : w143.cell? ⟨gb128, 1, none⟩ = some (.int .u16 0) := (blk_cell BK128.out 1).trans rfl
              have hfz154_0 := blk_frozen BK128.out 0
              have hfz154_1 := blk_frozen BK128.out 1
              have hnb155 := NB129_121.out
              have hnc155 := NB121_129.out
              have hnb156 := NB129_122.out
              have hnc156 := NB122_129.out
              have hnb157 := NB129_123.out
              have hnc157 := NB123_129.out
              have hnb158 := NB129_124.out
              have hnc158 := NB124_129.out
              have hnb159 := NB129_125.out
              have hnc159 := NB125_129.out
              have hcz160_0 : w143.cell? ⟨gb129, 0, none⟩ = some (.int .u8 0) := (blk_cell BK129.out 0).trans rfl
              have hcz160_1 : w143.cell? ⟨gb129, 1, none⟩ = some (.int .u16 0) := (blk_cell BK129.out 1).trans rfl
              have hfz160_0 := blk_frozen BK129.out 0
              have hfz160_1 := blk_frozen BK129.out 1
              have hnb161 := NB121_124.out
              have hnc161 := NB124_121.out
              have hnb162 := NB121_125.out
              have hnc162 := NB125_121.out
              have hcz163_0 : w143.cell? ⟨gb121, 0, none⟩ = some (.slice A0_0 l0_0.length c0_0) := (blk_cell BK121.out 0).trans rfl
              have hcz163_1 : w143.cell? ⟨gb121, 1, none⟩ = some (.slice A0_1 l0_1.length c0_1) := (blk_cell BK121.out 1).trans rfl
              have hcz163_2 : w143.cell? ⟨gb121, 2, none⟩ = some (.slice A0_2 l0_2.length c0_2) := (blk_cell BK121.out 2).trans rfl
              have hcz163_3 : w143.cell? ⟨gb121, 3, none⟩ = some (.slice A0_3 l0_3.length c0_3) := (blk_cell BK121.out 3).trans rfl
              have hfz163_0 := blk_frozen BK121.out 0
              have hfz163_1 := blk_frozen BK121.out 1
              have hfz163_2 := blk_frozen BK121.out 2
              have hfz163_3 := blk_frozen BK121.out 3
              try go_wp2_with (first | ((with_reducible refine gate_callee (f := 42) rfl ?_); refine goesL_ (some 75) rfl rfl Try.func42 (by kernel_rfl) rfl #[.agg #[.slice A0_0 l0_0.length c0_0, .slice A0_1 l0_1.length c0_1, .slice A0_2 l0_2.length c0_2, .slice A0_3 l0_3.length c0_3], .int .i64 (wrap64 (a1_2)), .int .i64 (wrap64 (a2_2))] rfl (by (try simp only [List.map_toArray, List.map_cons, List.map_nil]); first | done | rfl | (simp only [List.length_drop, List.length_take]; rfl)) ?_; (with_reducible refine (hier_Common.calls _ _ l0_0 _ _ l0_1 _ _ l0_2 _ _ l0_3 (wrap64 (a1_2)) (wrap64 (a2_2)) t130 _ ?side1 ?side2 ?side3 ?side4 ?side5 ?side6 ?side7 ?side8 A130.out).mono ?_); (case side1 => exact Kd.C_below HR0_0.out (qW HB.out)); (case side2 => exact HC0_0.out); (case side3 => exact Kd.C_below HR0_1.out (qW HB.out)); (case side4 => exact HC0_1.out); (case side5 => exact Kd.C_below HR0_2.out (qW HB.out)); (case side6 => exact HC0_2.out); (case side7 => exact Kd.C_below HR0_3.out (qW HB.out)); (case side8 => exact HC0_3.out); rintro e w164 ⟨rfl, hb⟩; refine ⟨_, rfl, ?_⟩; have n0_ := Aside0.mk (blk_below (qf BK121.out) hb); have n1_ := Aside0.mk (blk_below (qf BK122.out) hb); have n2_ := Aside0.mk (blk_below (qf BK123.out) hb); have n3_ := Aside0.mk (blk_below (qf BK124.out) hb); have n4_ := Aside0.mk (blk_below (qf BK125.out) hb); have n5_ := Aside0.mk (blk_below (g := gb128) (o := .cells #[.int .u8 a1_1, .int .u16 a1_2] 32 (0, 0)) (by (with_reducible repeat (first | refine blk_drewN ?_ _ | refine blk_drew ?_ | refine blk_alloc ?_ _)); refine blk_far ?_ NB128_129.out _; (with_reducible repeat (first | refine blk_drewN ?_ _ | refine blk_drew ?_ | refine blk_alloc ?_ _)); refine blk_far ?_ NB128_129.out _; (with_reducible repeat (first | refine blk_drewN ?_ _ | refine blk_drew ?_ | refine blk_alloc ?_ _)); refine blk_put (cs := #[.int .u8 a1_1, .int .u16 0]) ?_ 1 _ rfl; (with_reducible repeat (first | refine blk_drewN ?_ _ | refine blk_drew ?_ | refine blk_alloc ?_ _)); refine blk_put (cs := #[.int .u8 0, .int .u16 0]) ?_ 0 _ rfl; (with_reducible repeat (first | refine blk_drewN ?_ _ | refine blk_drew ?_ | refine blk_alloc ?_ _)); exact BK128.out) hb); have n6_ := Aside0.mk (blk_below (g := gb129) (o := .cells #[.int .u8 a2_1, .int .u16 a2_2] 32 (0, 0)) (by (with_reducible repeat (first | refine blk_drewN ?_ _ | refine blk_drew ?_ | refine blk_alloc ?_ _)); refine blk_put (cs := #[.int .u8 a2_1, .int .u16 0]) ?_ 1 _ rfl; (with_reducible repeat (first | refine blk_drewN ?_ _ | refine blk_drew ?_ | refine blk_alloc ?_ _)); refine blk_put (cs := #[.int .u8 0, .int .u16 0]) ?_ 0 _ rfl; (with_reducible repeat (first | refine blk_drewN ?_ _ | refine blk_drew ?_ | refine blk_alloc ?_ _)); refine blk_far ?_ NB129_128.out _; (with_reducible repeat (first | refine blk_drewN ?_ _ | refine blk_drew ?_ | refine blk_alloc ?_ _)); refine blk_far ?_ NB129_128.out _; (with_reducible repeat (first | refine blk_drewN ?_ _ | refine blk_drew ?_ | refine blk_alloc ?_ _)); exact BK129.out) hb); have n7_ := Aside0.mk (below_step (qW HB.out) hb); clear BK121 BK122 BK123 BK124 BK125 BK128 BK129 HB; have BK121 := n0_; have BK122 := n1_; have BK123 := n2_; have BK124 := n3_; have BK125 := n4_; have BK128 := n5_; have BK129 := n6_; have HB := n7_; clear n0_ n1_ n2_ n3_ n4_ n5_ n6_ n7_; (try clear hb); (try clear hb2); (try clear hk); (try clear hi); have hcz165_0 : w164.cell? ⟨gb128, 0, none⟩ = some (.int .u8 a1_1) := (blk_cell BK128.out 0).trans rfl; have hcz165_1 : w164.cell? ⟨gb128, 1, none⟩ = some (.int .u16 a1_2) := (blk_cell BK128.out 1).trans rfl; have hfz165_0 := blk_frozen BK128.out 0; have hfz165_1 := blk_frozen BK128.out 1; have hnb166 := NB124_125.out; have hnc166 := NB125_124.out; have hcz167_0 : w164.cell? ⟨gb124, 0, none⟩ = some (.int .u8 0) := (blk_cell BK124.out 0).trans rfl; have hcz167_1 : w164.cell? ⟨gb124, 1, none⟩ = some (.int .u8 0) := (blk_cell BK124.out 1).trans rfl; have hcz167_2 : w164.cell? ⟨gb124, 2, none⟩ = some (.int .u16 0) := (blk_cell BK124.out 2).trans rfl; have hcz167_3 : w164.cell? ⟨gb124, 3, none⟩ = some (.int .i64 0) := (blk_cell BK124.out 3).trans rfl; have hfz167_0 := blk_frozen BK124.out 0; have hfz167_1 := blk_frozen BK124.out 1; have hfz167_2 := blk_frozen BK124.out 2; have hfz167_3 := blk_frozen BK124.out 3))
              refine bodyPost_ret (results_cell_row rfl _ _ gb124 56 #[.int .u8 4, .int .u8 a1_1, .int .u16 (IntKind.u16.wrap (t130)), .int .i64 0] (0, 0) _ rfl (by (with_reducible repeat (first | refine blk_drewN ?_ _ | refine blk_drew ?_ | refine blk_alloc ?_ _)); refine blk_put (cs := #[.int .u8 4, .int .u8 a1_1, .int .u16 (IntKind.u16.wrap (t130)), .int .i64 0]) ?_ 3 _ rfl; (with_reducible repeat (first | refine blk_drewN ?_ _ | refine blk_drew ?_ | refine blk_alloc ?_ _)); refine blk_put (cs := #[.int .u8 4, .int .u8 a1_1, .int .u16 0, .int .i64 0]) ?_ 2 _ rfl; (with_reducible repeat (first | refine blk_drewN ?_ _ | refine blk_drew ?_ | refine blk_alloc ?_ _)); refine blk_put (cs := #[.int .u8 4, .int .u8 0, .int .u16 0, .int .i64 0]) ?_ 1 _ rfl; (with_reducible repeat (first | refine blk_drewN ?_ _ | refine blk_drew ?_ | refine blk_alloc ?_ _)); refine blk_put (cs := #[.int .u8 0, .int .u8 0, .int .u16 0, .int .i64 0]) ?_ 0 _ rfl; (with_reducible repeat (first | refine blk_drewN ?_ _ | refine blk_drew ?_ | refine blk_alloc ?_ _)); exact BK124.out) Try.underlying56 rfl (by kernel_rfl)) rfl ?_
              exact ⟨by first | rfl | (simp [errW_none, errW_some] <;> rfl) | (simp [*, errW_none, errW_some] <;> rfl), by repeat (first | (with_reducible first | exact HB.out | apply below_alloc | apply pw_below_drewN | apply below_drew1 | refine below_set ?_ GE121.out | refine below_set ?_ GE122.out | refine below_set ?_ GE123.out | refine below_set ?_ GE124.out | refine below_set ?_ GE125.out | refine below_set ?_ GE128.out | refine below_set ?_ GE129.out) | exact HB.out)⟩
             ·rw [if_neg c129] at H
              have c129b0 : (a1_1 == a2_1) = false := beq_eq_false_iff_ne.mpr c129
              have c129b1 : (a1_1 != a2_1) = true := bne_iff_ne.mpr c129
              replace H := Option.bind_eq_some_iff.mp H
              obtain ⟨⟨t131, t132, t133, t134⟩, A1680, H⟩ := H
              replace H : (some (t131, t132, t133, t134)) = some (r1, r2, r3, r4) := H
              have A168 := Aside0.mk A1680
              clear A1680
              simp only [Option.some.injEq, Prod.mk.injEq] at H
              obtain ⟨rfl, rfl, rfl, rfl⟩ := H
              have hnb169 := NB122_121.out
              have hnc169 := NB121_122.out
              have hnb170 := NB122_123.out
              have hnc170 := NB123_122.out
              have hnb171 := NB122_124.out
              have hnc171 := NB124_122.out
              have hnb172 := NB122_125.out
              have hnc172 := NB125_122.out
              have hcz173_0 : wc.cell? ⟨gb122, 0, none⟩ = some (.int .u8 a1_0) := (blk_cell BK122.out 0).trans rfl
              have hcz173_1 : wc.cell? ⟨gb122, 1, none⟩ = some (.int .u8 a1_1) := (blk_cell BK122.out 1).trans rfl
              have hcz173_2 : wc.cell? ⟨gb122, 2, none⟩ = some (.int .u16 a1_2) := (blk_cell BK122.out 2).trans rfl
              have hcz173_3 : wc.cell? ⟨gb122, 3, none⟩ = some (.int .i64 a1_3) := (blk_cell BK122.out 3).trans rfl
              have hfz173_0 := blk_frozen BK122.out 0
              have hfz173_1 := blk_frozen BK122.out 1
              have hfz173_2 := blk_frozen BK122.out 2
              have hfz173_3 := blk_frozen BK122.out 3
              have hnb174 := NB123_121.out
              have hnc174 := NB121_123.out
              have hnb175 := NB123_124.out
              have hnc175 := NB124_123.out
              have hnb176 := NB123_125.out
              have hnc176 := NB125_123.out
              have hcz177_0 : wc.cell? ⟨gb123, 0, none⟩ = some (.int .u8 a2_0) := (blk_cell BK123.out 0).trans rfl
              have hcz177_1 : wc.cell? ⟨gb123, 1, none⟩ = some (.int .u8 a2_1) := (blk_cell BK123.out 1).trans rfl
              have hcz177_2 : wc.cell? ⟨gb123, 2, none⟩ = some (.int .u16 a2_2) := (blk_cell BK123.out 2).trans rfl
              have hcz177_3 : wc.cell? ⟨gb123, 3, none⟩ = some (.int .i64 a2_3) := (blk_cell BK123.out 3).trans rfl
              have hfz177_0 := blk_frozen BK123.out 0
              have hfz177_1 := blk_frozen BK123.out 1
              have hfz177_2 := blk_frozen BK123.out 2
              have hfz177_3 := blk_frozen BK123.out 3
              try go_wp2
              have n0_ := Aside0.mk (blk_drew BK121.out)
              have n1_ := Aside0.mk (blk_drew BK122.out)
              have n2_ := Aside0.mk (blk_drew BK123.out)
              have n3_ := Aside0.mk (blk_drew BK124.out)
              have n4_ := Aside0.mk (blk_drew BK125.out)
              have n5_ := Aside0.mk (below_drew1 HB.out)
              clear BK121
              clear BK122
              clear BK123
              clear BK124
              clear BK125
              clear HB
              have BK121 := n0_
              have BK122 := n1_
              have BK123 := n2_
              have BK124 := n3_
              have BK125 := n4_
              have HB := n5_
              clear n0_ n1_ n2_ n3_ n4_ n5_
              refine start_ (n := 8) (S := fun w' => w'.cell? ⟨gb122, 0, none⟩ = some (.int .u8 a1_0) ∧ w'.cell? ⟨gb122, 1, none⟩ = some (.int .u8 a1_1) ∧ w'.cell? ⟨gb122, 2, none⟩ = some (.int .u16 a1_2) ∧ w'.cell? ⟨gb122, 3, none⟩ = some (.int .i64 a1_3) ∧ w'.cell? ⟨gb123, 0, none⟩ = some (.int .u8 a2_0) ∧ w'.cell? ⟨gb123, 1, none⟩ = some (.int .u8 a2_1) ∧ w'.cell? ⟨gb123, 2, none⟩ = some (.int .u16 a2_2) ∧ w'.cell? ⟨gb123, 3, none⟩ = some (.int .i64 a2_3)) (ds := []) #[false, false, false, false, false, false, false, false] (by kernel_rfl) rfl rfl ⟨(blk_cell BK122.out 0).trans rfl, (blk_cell BK122.out 1).trans rfl, (blk_cell BK122.out 2).trans rfl, (blk_cell BK122.out 3).trans rfl, (blk_cell BK123.out 0).trans rfl, (blk_cell BK123.out 1).trans rfl, (blk_cell BK123.out 2).trans rfl, (blk_cell BK123.out 3).trans rfl⟩ (fun hHeld => ?_); refine with_tabW vals_Join.tab12 vals_Join.bits12 (fun HT_ HW_ => ?_)
              generalize wc.drew = w178 at BK121 BK122 BK123 BK124 BK125 HB hHeld ⊢
              refine pure_ (i := 0) (N := some 58) (v := ?_) (a' := ?_) #[true, false, false, false, false, false, false, false] rfl rfl (any_of HT_.out (by kernel_rfl)) (fun _ _ _ h => h) (Or.inl ⟨by rfl, ?_⟩) ?_ ?_
              rotate_left
              ·intro w'
               go_simp
               with_reducible rfl
              rotate_left
              ·simp only [Act.put, List.setIfInBounds_toArray, List.set_cons_zero, List.set_cons_succ, i64_w, i32_w]
               rfl
              refine pure_ (i := 2) (N := some 60) (v := ?_) (a' := ?_) #[true, false, true, false, false, false, false, false] rfl rfl (any_of HT_.out (by kernel_rfl)) (fun _ _ _ h => h) (Or.inl ⟨by rfl, ?_⟩) ?_ ?_
              rotate_left
              ·intro w'
               go_simp
               with_reducible rfl
              rotate_left
              ·simp only [Act.put, List.setIfInBounds_toArray, List.set_cons_zero, List.set_cons_succ, i64_w, i32_w]
               rfl
              refine take_ (i := 1) (N := some 59) (v := ?_) (a' := ?_) #[true, true, true, false, false, false, false, false] rfl rfl (take_ofW HT_.out HW_.out (by kernel_rfl)) (fun _ _ _ h => h) (Or.inl ⟨by rfl, ?_⟩) hHeld ?_ ?_
              rotate_left
              ·rintro w' ⟨s0, s1, s2, s3, s4, s5, s6, s7⟩
               go_simp
               with_reducible rfl
              rotate_left
              ·simp only [Act.put, List.setIfInBounds_toArray, List.set_cons_zero, List.set_cons_succ, i64_w, i32_w]
               rfl
              refine take_ (i := 3) (N := some 61) (v := ?_) (a' := ?_) #[true, true, true, true, false, false, false, false] rfl rfl (take_ofW HT_.out HW_.out (by kernel_rfl)) (fun _ _ _ h => h) (Or.inl ⟨by rfl, ?_⟩) hHeld ?_ ?_
              rotate_left
              ·rintro w' ⟨s0, s1, s2, s3, s4, s5, s6, s7⟩
               go_simp
               with_reducible rfl
              rotate_left
              ·simp only [Act.put, List.setIfInBounds_toArray, List.set_cons_zero, List.set_cons_succ, i64_w, i32_w]
               rfl
              refine join_ (σ := Nat × Nat) 2 #[true, true, true, true, true, true, false, false] (fun s_ => [(8, .pointer (some ⟨s_.1, 0, none⟩)), (9, .pointer (some ⟨s_.2, 0, none⟩))]) (fun s_ w' => (w'.cell? ⟨gb122, 0, none⟩ = some (.int .u8 a1_0) ∧ w'.cell? ⟨gb122, 1, none⟩ = some (.int .u8 a1_1) ∧ w'.cell? ⟨gb122, 2, none⟩ = some (.int .u16 a1_2) ∧ w'.cell? ⟨gb122, 3, none⟩ = some (.int .i64 a1_3) ∧ w'.cell? ⟨gb123, 0, none⟩ = some (.int .u8 a2_0) ∧ w'.cell? ⟨gb123, 1, none⟩ = some (.int .u8 a2_1) ∧ w'.cell? ⟨gb123, 2, none⟩ = some (.int .u16 a2_2) ∧ w'.cell? ⟨gb123, 3, none⟩ = some (.int .i64 a2_3)) ∧ (w'.heap[gb121]? = some (.cells #[.slice A0_0 l0_0.length c0_0, .slice A0_1 l0_1.length c0_1, .slice A0_2 l0_2.length c0_2, .slice A0_3 l0_3.length c0_3] 27 (0, 0))) ∧ (w'.heap[gb122]? = some (.cells #[.int .u8 a1_0, .int .u8 a1_1, .int .u16 a1_2, .int .i64 a1_3] 56 (0, 0))) ∧ (w'.heap[gb123]? = some (.cells #[.int .u8 a2_0, .int .u8 a2_1, .int .u16 a2_2, .int .i64 a2_3] 56 (0, 0))) ∧ (w'.heap[gb124]? = some (.cells #[.int .u8 0, .int .u8 0, .int .u16 0, .int .i64 0] 56 (0, 0))) ∧ (w'.heap[gb125]? = some (.cells #[.int .u8 1, .int .u8 0, .int .u16 0, .int .i64 0] 56 (0, 0))) ∧ (w'.heap[s_.1]? = some (.cells #[.int .u8 0, .int .u16 0] 32 (0, 0))) ∧ (w'.heap[s_.2]? = some (.cells #[.int .u8 0, .int .u16 0] 32 (0, 0))) ∧ (w.heap.size ≤ s_.1) ∧ (w.heap.size ≤ s_.1) ∧ (gb121 ≠ s_.1) ∧ (s_.1 ≠ gb121) ∧ (gb122 ≠ s_.1) ∧ (s_.1 ≠ gb122) ∧ (gb123 ≠ s_.1) ∧ (s_.1 ≠ gb123) ∧ (gb124 ≠ s_.1) ∧ (s_.1 ≠ gb124) ∧ (gb125 ≠ s_.1) ∧ (s_.1 ≠ gb125) ∧ (s_.2 ≠ s_.1) ∧ (s_.1 ≠ s_.2) ∧ (w.heap.size ≤ s_.2) ∧ (w.heap.size ≤ s_.2) ∧ (gb121 ≠ s_.2) ∧ (s_.2 ≠ gb121) ∧ (gb122 ≠ s_.2) ∧ (s_.2 ≠ gb122) ∧ (gb123 ≠ s_.2) ∧ (s_.2 ≠ gb123) ∧ (gb124 ≠ s_.2) ∧ (s_.2 ≠ gb124) ∧ (gb125 ≠ s_.2) ∧ (s_.2 ≠ gb125) ∧ (Below w.heap.size w w')) ?_ ?_
              rotate_left
              ·intro hCont
               refine two_ (i := 4) (j := 5) (Ni := some 8) (Nj := some 9) #[true, true, true, true, true, false, false, false] #[true, true, true, true, false, true, false, false] rfl rfl rfl rfl (two_of HT_.out (by kernel_rfl)) (by decide) (by decide) (fun K hK => ?_) (fun K hK => ?_)
               ·skip
                refine box_step ?hg (N := 8) ?hd (cs := #[.int .u8 0, .int .u16 0]) (t := 32) ?hr ?_; (case hd => rfl); (case hg => rfl); (case hr => first | (go_simp; done) | (go_simp; rfl))
                intro gb128 hg w179 hbox hb
                have n0_ := Aside0.mk (blk_below (qb BK121.out) hb)
                have n1_ := Aside0.mk (blk_below (qb BK122.out) hb)
                have n2_ := Aside0.mk (blk_below (qb BK123.out) hb)
                have n3_ := Aside0.mk (blk_below (qb BK124.out) hb)
                have n4_ := Aside0.mk (blk_below (qb BK125.out) hb)
                have n5_ := Aside0.mk (below_step (qW HB.out) hb)
                have n6_ := Aside0.mk (hbox)
                have n7_ := Aside0.mk ((by rw [hg]; exact (below_size (qW HB.out)) : w.heap.size ≤ gb128))
                have n8_ := Aside0.mk ((by rw [hg]; exact (below_size (qW HB.out)) : w.heap.size ≤ gb128))
                have n9_ := Aside0.mk ((by rw [hg]; exact Nat.ne_of_lt (blk_lt (qb BK121.out)) : gb121 ≠ gb128))
                have n10_ := Aside0.mk ((by rw [hg]; exact Nat.ne_of_gt (blk_lt (qb BK121.out)) : gb128 ≠ gb121))
                have n11_ := Aside0.mk ((by rw [hg]; exact Nat.ne_of_lt (blk_lt (qb BK122.out)) : gb122 ≠ gb128))
                have n12_ := Aside0.mk ((by rw [hg]; exact Nat.ne_of_gt (blk_lt (qb BK122.out)) : gb128 ≠ gb122))
                have n13_ := Aside0.mk ((by rw [hg]; exact Nat.ne_of_lt (blk_lt (qb BK123.out)) : gb123 ≠ gb128))
                have n14_ := Aside0.mk ((by rw [hg]; exact Nat.ne_of_gt (blk_lt (qb BK123.out)) : gb128 ≠ gb123))
                have n15_ := Aside0.mk ((by rw [hg]; exact Nat.ne_of_lt (blk_lt (qb BK124.out)) : gb124 ≠ gb128))
                have n16_ := Aside0.mk ((by rw [hg]; exact Nat.ne_of_gt (blk_lt (qb BK124.out)) : gb128 ≠ gb124))
                have n17_ := Aside0.mk ((by rw [hg]; exact Nat.ne_of_lt (blk_lt (qb BK125.out)) : gb125 ≠ gb128))
                have n18_ := Aside0.mk ((by rw [hg]; exact Nat.ne_of_gt (blk_lt (qb BK125.out)) : gb128 ≠ gb125))
                clear BK121
                clear BK122
                clear BK123
                clear BK124
                clear BK125
                clear HB
                have BK121 := n0_
                have BK122 := n1_
                have BK123 := n2_
                have BK124 := n3_
                have BK125 := n4_
                have HB := n5_
                have BK128 := n6_
                have GW128 := n7_
                have GE128 := n8_
                have NB121_128 := n9_
                have NB128_121 := n10_
                have NB122_128 := n11_
                have NB128_122 := n12_
                have NB123_128 := n13_
                have NB128_123 := n14_
                have NB124_128 := n15_
                have NB128_124 := n16_
                have NB125_128 := n17_
                have NB128_125 := n18_
                clear n0_ n1_ n2_ n3_ n4_ n5_ n6_ n7_ n8_ n9_ n10_ n11_ n12_ n13_ n14_ n15_ n16_ n17_ n18_
                clear hb hbox hg
                refine hK.out _ _ ⟨(blk_cell BK122.out 0).trans rfl, (blk_cell BK122.out 1).trans rfl, (blk_cell BK122.out 2).trans rfl, (blk_cell BK122.out 3).trans rfl, (blk_cell BK123.out 0).trans rfl, (blk_cell BK123.out 1).trans rfl, (blk_cell BK123.out 2).trans rfl, (blk_cell BK123.out 3).trans rfl⟩ (fun hHeld => ?_)
                clear hK K
                refine norm_ (a' := ?_) ?_ ?_
                rotate_left
                ·show Act.put _ (some 8) _ = _
                 simp only [Act.put, List.setIfInBounds_toArray, List.set_cons_zero, List.set_cons_succ, i64_w, i32_w]
                 rfl
                refine one_ (i := 5) (N := some 9) #[true, true, true, true, true, true, false, false] rfl rfl (one_of HT_.out (by kernel_rfl)) (by decide) (fun K hK => ?_)
                refine box_step ?hg (N := 9) ?hd (cs := #[.int .u8 0, .int .u16 0]) (t := 32) ?hr ?_; (case hd => rfl); (case hg => rfl); (case hr => first | (go_simp; done) | (go_simp; rfl))
                intro gb129 hg w180 hbox hb
                have n0_ := Aside0.mk (blk_below (qb BK121.out) hb)
                have n1_ := Aside0.mk (blk_below (qb BK122.out) hb)
                have n2_ := Aside0.mk (blk_below (qb BK123.out) hb)
                have n3_ := Aside0.mk (blk_below (qb BK124.out) hb)
                have n4_ := Aside0.mk (blk_below (qb BK125.out) hb)
                have n5_ := Aside0.mk (blk_below (qb BK128.out) hb)
                have n6_ := Aside0.mk (below_step (qW HB.out) hb)
                have n7_ := Aside0.mk (hbox)
                have n8_ := Aside0.mk ((by rw [hg]; exact (below_size (qW HB.out)) : w.heap.size ≤ gb129))
                have n9_ := Aside0.mk ((by rw [hg]; exact (below_size (qW HB.out)) : w.heap.size ≤ gb129))
                have n10_ := Aside0.mk ((by rw [hg]; exact Nat.ne_of_lt (blk_lt (qb BK121.out)) : gb121 ≠ gb129))
                have n11_ := Aside0.mk ((by rw [hg]; exact Nat.ne_of_gt (blk_lt (qb BK121.out)) : gb129 ≠ gb121))
                have n12_ := Aside0.mk ((by rw [hg]; exact Nat.ne_of_lt (blk_lt (qb BK122.out)) : gb122 ≠ gb129))
                have n13_ := Aside0.mk ((by rw [hg]; exact Nat.ne_of_gt (blk_lt (qb BK122.out)) : gb129 ≠ gb122))
                have n14_ := Aside0.mk ((by rw [hg]; exact Nat.ne_of_lt (blk_lt (qb BK123.out)) : gb123 ≠ gb129))
                have n15_ := Aside0.mk ((by rw [hg]; exact Nat.ne_of_gt (blk_lt (qb BK123.out)) : gb129 ≠ gb123))
                have n16_ := Aside0.mk ((by rw [hg]; exact Nat.ne_of_lt (blk_lt (qb BK124.out)) : gb124 ≠ gb129))
                have n17_ := Aside0.mk ((by rw [hg]; exact Nat.ne_of_gt (blk_lt (qb BK124.out)) : gb129 ≠ gb124))
                have n18_ := Aside0.mk ((by rw [hg]; exact Nat.ne_of_lt (blk_lt (qb BK125.out)) : gb125 ≠ gb129))
                have n19_ := Aside0.mk ((by rw [hg]; exact Nat.ne_of_gt (blk_lt (qb BK125.out)) : gb129 ≠ gb125))
                have n20_ := Aside0.mk ((by rw [hg]; exact Nat.ne_of_lt (blk_lt (qb BK128.out)) : gb128 ≠ gb129))
                have n21_ := Aside0.mk ((by rw [hg]; exact Nat.ne_of_gt (blk_lt (qb BK128.out)) : gb129 ≠ gb128))
                clear BK121
                clear BK122
                clear BK123
                clear BK124
                clear BK125
                clear BK128
                clear HB
                have BK121 := n0_
                have BK122 := n1_
                have BK123 := n2_
                have BK124 := n3_
                have BK125 := n4_
                have BK128 := n5_
                have HB := n6_
                have BK129 := n7_
                have GW129 := n8_
                have GE129 := n9_
                have NB121_129 := n10_
                have NB129_121 := n11_
                have NB122_129 := n12_
                have NB129_122 := n13_
                have NB123_129 := n14_
                have NB129_123 := n15_
                have NB124_129 := n16_
                have NB129_124 := n17_
                have NB125_129 := n18_
                have NB129_125 := n19_
                have NB128_129 := n20_
                have NB129_128 := n21_
                clear n0_ n1_ n2_ n3_ n4_ n5_ n6_ n7_ n8_ n9_ n10_ n11_ n12_ n13_ n14_ n15_ n16_ n17_ n18_ n19_ n20_ n21_
                clear hb hbox hg
                refine hK.out _ _ ⟨(blk_cell BK122.out 0).trans rfl, (blk_cell BK122.out 1).trans rfl, (blk_cell BK122.out 2).trans rfl, (blk_cell BK122.out 3).trans rfl, (blk_cell BK123.out 0).trans rfl, (blk_cell BK123.out 1).trans rfl, (blk_cell BK123.out 2).trans rfl, (blk_cell BK123.out 3).trans rfl⟩ (fun hHeld => ?_)
                clear hK K
                refine norm_ (a' := ?_) ?_ ?_
                rotate_left
                ·show Act.put _ (some 9) _ = _
                 simp only [Act.put, List.setIfInBounds_toArray, List.set_cons_zero, List.set_cons_succ, i64_w, i32_w]
                 rfl
                exact norm_ (by simp only [putAll, Act.put, List.setIfInBounds_toArray, List.set_cons_zero, List.set_cons_succ]) (hCont (gb128, gb129) _ ⟨hHeld, (qb BK121.out), (qb BK122.out), (qb BK123.out), (qb BK124.out), (qb BK125.out), (qb BK128.out), (qb BK129.out), GW128.out, GE128.out, NB121_128.out, NB128_121.out, NB122_128.out, NB128_122.out, NB123_128.out, NB128_123.out, NB124_128.out, NB128_124.out, NB125_128.out, NB128_125.out, NB129_128.out, NB128_129.out, GW129.out, GE129.out, NB121_129.out, NB129_121.out, NB122_129.out, NB129_122.out, NB123_129.out, NB129_123.out, NB124_129.out, NB129_124.out, NB125_129.out, NB129_125.out, (qW HB.out)⟩)
               ·skip
                refine box_step ?hg (N := 9) ?hd (cs := #[.int .u8 0, .int .u16 0]) (t := 32) ?hr ?_; (case hd => rfl); (case hg => rfl); (case hr => first | (go_simp; done) | (go_simp; rfl))
                intro gb129 hg w179 hbox hb
                have n0_ := Aside0.mk (blk_below (qb BK121.out) hb)
                have n1_ := Aside0.mk (blk_below (qb BK122.out) hb)
                have n2_ := Aside0.mk (blk_below (qb BK123.out) hb)
                have n3_ := Aside0.mk (blk_below (qb BK124.out) hb)
                have n4_ := Aside0.mk (blk_below (qb BK125.out) hb)
                have n5_ := Aside0.mk (below_step (qW HB.out) hb)
                have n6_ := Aside0.mk (hbox)
                have n7_ := Aside0.mk ((by rw [hg]; exact (below_size (qW HB.out)) : w.heap.size ≤ gb129))
                have n8_ := Aside0.mk ((by rw [hg]; exact (below_size (qW HB.out)) : w.heap.size ≤ gb129))
                have n9_ := Aside0.mk ((by rw [hg]; exact Nat.ne_of_lt (blk_lt (qb BK121.out)) : gb121 ≠ gb129))
                have n10_ := Aside0.mk ((by rw [hg]; exact Nat.ne_of_gt (blk_lt (qb BK121.out)) : gb129 ≠ gb121))
                have n11_ := Aside0.mk ((by rw [hg]; exact Nat.ne_of_lt (blk_lt (qb BK122.out)) : gb122 ≠ gb129))
                have n12_ := Aside0.mk ((by rw [hg]; exact Nat.ne_of_gt (blk_lt (qb BK122.out)) : gb129 ≠ gb122))
                have n13_ := Aside0.mk ((by rw [hg]; exact Nat.ne_of_lt (blk_lt (qb BK123.out)) : gb123 ≠ gb129))
                have n14_ := Aside0.mk ((by rw [hg]; exact Nat.ne_of_gt (blk_lt (qb BK123.out)) : gb129 ≠ gb123))
                have n15_ := Aside0.mk ((by rw [hg]; exact Nat.ne_of_lt (blk_lt (qb BK124.out)) : gb124 ≠ gb129))
                have n16_ := Aside0.mk ((by rw [hg]; exact Nat.ne_of_gt (blk_lt (qb BK124.out)) : gb129 ≠ gb124))
                have n17_ := Aside0.mk ((by rw [hg]; exact Nat.ne_of_lt (blk_lt (qb BK125.out)) : gb125 ≠ gb129))
                have n18_ := Aside0.mk ((by rw [hg]; exact Nat.ne_of_gt (blk_lt (qb BK125.out)) : gb129 ≠ gb125))
                clear BK121
                clear BK122
                clear BK123
                clear BK124
                clear BK125
                clear HB
                have BK121 := n0_
                have BK122 := n1_
                have BK123 := n2_
                have BK124 := n3_
                have BK125 := n4_
                have HB := n5_
                have BK129 := n6_
                have GW129 := n7_
                have GE129 := n8_
                have NB121_129 := n9_
                have NB129_121 := n10_
                have NB122_129 := n11_
                have NB129_122 := n12_
                have NB123_129 := n13_
                have NB129_123 := n14_
                have NB124_129 := n15_
                have NB129_124 := n16_
                have NB125_129 := n17_
                have NB129_125 := n18_
                clear n0_ n1_ n2_ n3_ n4_ n5_ n6_ n7_ n8_ n9_ n10_ n11_ n12_ n13_ n14_ n15_ n16_ n17_ n18_
                clear hb hbox hg
                refine hK.out _ _ ⟨(blk_cell BK122.out 0).trans rfl, (blk_cell BK122.out 1).trans rfl, (blk_cell BK122.out 2).trans rfl, (blk_cell BK122.out 3).trans rfl, (blk_cell BK123.out 0).trans rfl, (blk_cell BK123.out 1).trans rfl, (blk_cell BK123.out 2).trans rfl, (blk_cell BK123.out 3).trans rfl⟩ (fun hHeld => ?_)
                clear hK K
                refine norm_ (a' := ?_) ?_ ?_
                rotate_left
                ·show Act.put _ (some 9) _ = _
                 simp only [Act.put, List.setIfInBounds_toArray, List.set_cons_zero, List.set_cons_succ, i64_w, i32_w]
                 rfl
                refine one_ (i := 4) (N := some 8) #[true, true, true, true, true, true, false, false] rfl rfl (one_of HT_.out (by kernel_rfl)) (by decide) (fun K hK => ?_)
                refine box_step ?hg (N := 8) ?hd (cs := #[.int .u8 0, .int .u16 0]) (t := 32) ?hr ?_; (case hd => rfl); (case hg => rfl); (case hr => first | (go_simp; done) | (go_simp; rfl))
                intro gb128 hg w180 hbox hb
                have n0_ := Aside0.mk (blk_below (qb BK121.out) hb)
                have n1_ := Aside0.mk (blk_below (qb BK122.out) hb)
                have n2_ := Aside0.mk (blk_below (qb BK123.out) hb)
                have n3_ := Aside0.mk (blk_below (qb BK124.out) hb)
                have n4_ := Aside0.mk (blk_below (qb BK125.out) hb)
                have n5_ := Aside0.mk (blk_below (qb BK129.out) hb)
                have n6_ := Aside0.mk (below_step (qW HB.out) hb)
                have n7_ := Aside0.mk (hbox)
                have n8_ := Aside0.mk ((by rw [hg]; exact (below_size (qW HB.out)) : w.heap.size ≤ gb128))
                have n9_ := Aside0.mk ((by rw [hg]; exact (below_size (qW HB.out)) : w.heap.size ≤ gb128))
                have n10_ := Aside0.mk ((by rw [hg]; exact Nat.ne_of_lt (blk_lt (qb BK121.out)) : gb121 ≠ gb128))
                have n11_ := Aside0.mk ((by rw [hg]; exact Nat.ne_of_gt (blk_lt (qb BK121.out)) : gb128 ≠ gb121))
                have n12_ := Aside0.mk ((by rw [hg]; exact Nat.ne_of_lt (blk_lt (qb BK122.out)) : gb122 ≠ gb128))
                have n13_ := Aside0.mk ((by rw [hg]; exact Nat.ne_of_gt (blk_lt (qb BK122.out)) : gb128 ≠ gb122))
                have n14_ := Aside0.mk ((by rw [hg]; exact Nat.ne_of_lt (blk_lt (qb BK123.out)) : gb123 ≠ gb128))
                have n15_ := Aside0.mk ((by rw [hg]; exact Nat.ne_of_gt (blk_lt (qb BK123.out)) : gb128 ≠ gb123))
                have n16_ := Aside0.mk ((by rw [hg]; exact Nat.ne_of_lt (blk_lt (qb BK124.out)) : gb124 ≠ gb128))
                have n17_ := Aside0.mk ((by rw [hg]; exact Nat.ne_of_gt (blk_lt (qb BK124.out)) : gb128 ≠ gb124))
                have n18_ := Aside0.mk ((by rw [hg]; exact Nat.ne_of_lt (blk_lt (qb BK125.out)) : gb125 ≠ gb128))
                have n19_ := Aside0.mk ((by rw [hg]; exact Nat.ne_of_gt (blk_lt (qb BK125.out)) : gb128 ≠ gb125))
                have n20_ := Aside0.mk ((by rw [hg]; exact Nat.ne_of_lt (blk_lt (qb BK129.out)) : gb129 ≠ gb128))
                have n21_ := Aside0.mk ((by rw [hg]; exact Nat.ne_of_gt (blk_lt (qb BK129.out)) : gb128 ≠ gb129))
                clear BK121
                clear BK122
                clear BK123
                clear BK124
                clear BK125
                clear BK129
                clear HB
                have BK121 := n0_
                have BK122 := n1_
                have BK123 := n2_
                have BK124 := n3_
                have BK125 := n4_
                have BK129 := n5_
                have HB := n6_
                have BK128 := n7_
                have GW128 := n8_
                have GE128 := n9_
                have NB121_128 := n10_
                have NB128_121 := n11_
                have NB122_128 := n12_
                have NB128_122 := n13_
                have NB123_128 := n14_
                have NB128_123 := n15_
                have NB124_128 := n16_
                have NB128_124 := n17_
                have NB125_128 := n18_
                have NB128_125 := n19_
                have NB129_128 := n20_
                have NB128_129 := n21_
                clear n0_ n1_ n2_ n3_ n4_ n5_ n6_ n7_ n8_ n9_ n10_ n11_ n12_ n13_ n14_ n15_ n16_ n17_ n18_ n19_ n20_ n21_
                clear hb hbox hg
                refine hK.out _ _ ⟨(blk_cell BK122.out 0).trans rfl, (blk_cell BK122.out 1).trans rfl, (blk_cell BK122.out 2).trans rfl, (blk_cell BK122.out 3).trans rfl, (blk_cell BK123.out 0).trans rfl, (blk_cell BK123.out 1).trans rfl, (blk_cell BK123.out 2).trans rfl, (blk_cell BK123.out 3).trans rfl⟩ (fun hHeld => ?_)
                clear hK K
                refine norm_ (a' := ?_) ?_ ?_
                rotate_left
                ·show Act.put _ (some 8) _ = _
                 simp only [Act.put, List.setIfInBounds_toArray, List.set_cons_zero, List.set_cons_succ, i64_w, i32_w]
                 rfl
                exact norm_ (by simp only [putAll, Act.put, List.setIfInBounds_toArray, List.set_cons_zero, List.set_cons_succ]) (hCont (gb128, gb129) _ ⟨hHeld, (qb BK121.out), (qb BK122.out), (qb BK123.out), (qb BK124.out), (qb BK125.out), (qb BK128.out), (qb BK129.out), GW128.out, GE128.out, NB121_128.out, NB128_121.out, NB122_128.out, NB128_122.out, NB123_128.out, NB128_123.out, NB124_128.out, NB128_124.out, NB125_128.out, NB128_125.out, NB129_128.out, NB128_129.out, GW129.out, GE129.out, NB121_129.out, NB129_121.out, NB122_129.out, NB129_122.out, NB123_129.out, NB129_123.out, NB124_129.out, NB129_124.out, NB125_129.out, NB129_125.out, (qW HB.out)⟩)
              rintro ⟨gb128, gb129⟩ w181 ⟨hS_, h0_, h1_, h2_, h3_, h4_, h5_, h6_, h7_, h8_, h9_, h10_, h11_, h12_, h13_, h14_, h15_, h16_, h17_, h18_, h19_, h20_, h21_, h22_, h23_, h24_, h25_, h26_, h27_, h28_, h29_, h30_, h31_, h32_, h33_⟩
              have n0_ : Aside0 (w181.heap[gb121]? = some (.cells #[.slice A0_0 l0_0.length c0_0, .slice A0_1 l0_1.length c0_1, .slice A0_2 l0_2.length c0_2, .slice A0_3 l0_3.length c0_3] 27 (0, 0))) := ⟨h0_⟩
              have n1_ : Aside0 (w181.heap[gb122]? = some (.cells #[.int .u8 a1_0, .int .u8 a1_1, .int .u16 a1_2, .int .i64 a1_3] 56 (0, 0))) := ⟨h1_⟩
              have n2_ : Aside0 (w181.heap[gb123]? = some (.cells #[.int .u8 a2_0, .int .u8 a2_1, .int .u16 a2_2, .int .i64 a2_3] 56 (0, 0))) := ⟨h2_⟩
              have n3_ : Aside0 (w181.heap[gb124]? = some (.cells #[.int .u8 0, .int .u8 0, .int .u16 0, .int .i64 0] 56 (0, 0))) := ⟨h3_⟩
              have n4_ : Aside0 (w181.heap[gb125]? = some (.cells #[.int .u8 1, .int .u8 0, .int .u16 0, .int .i64 0] 56 (0, 0))) := ⟨h4_⟩
              have n5_ : Aside0 (w181.heap[gb128]? = some (.cells #[.int .u8 0, .int .u16 0] 32 (0, 0))) := ⟨h5_⟩
              have n6_ : Aside0 (w181.heap[gb129]? = some (.cells #[.int .u8 0, .int .u16 0] 32 (0, 0))) := ⟨h6_⟩
              have n7_ : Aside0 (w.heap.size ≤ gb128) := ⟨h7_⟩
              have n8_ : Aside0 (w.heap.size ≤ gb128) := ⟨h8_⟩
              have n9_ : Aside0 (gb121 ≠ gb128) := ⟨h9_⟩
              have n10_ : Aside0 (gb128 ≠ gb121) := ⟨h10_⟩
              have n11_ : Aside0 (gb122 ≠ gb128) := ⟨h11_⟩
              have n12_ : Aside0 (gb128 ≠ gb122) := ⟨h12_⟩
              have n13_ : Aside0 (gb123 ≠ gb128) := ⟨h13_⟩
              have n14_ : Aside0 (gb128 ≠ gb123) := ⟨h14_⟩
              have n15_ : Aside0 (gb124 ≠ gb128) := ⟨h15_⟩
              have n16_ : Aside0 (gb128 ≠ gb124) := ⟨h16_⟩
              have n17_ : Aside0 (gb125 ≠ gb128) := ⟨h17_⟩
              have n18_ : Aside0 (gb128 ≠ gb125) := ⟨h18_⟩
              have n19_ : Aside0 (gb129 ≠ gb128) := ⟨h19_⟩
              have n20_ : Aside0 (gb128 ≠ gb129) := ⟨h20_⟩
              have n21_ : Aside0 (w.heap.size ≤ gb129) := ⟨h21_⟩
              have n22_ : Aside0 (w.heap.size ≤ gb129) := ⟨h22_⟩
              have n23_ : Aside0 (gb121 ≠ gb129) := ⟨h23_⟩
              have n24_ : Aside0 (gb129 ≠ gb121) := ⟨h24_⟩
              have n25_ : Aside0 (gb122 ≠ gb129) := ⟨h25_⟩
              have n26_ : Aside0 (gb129 ≠ gb122) := ⟨h26_⟩
              have n27_ : Aside0 (gb123 ≠ gb129) := ⟨h27_⟩
              have n28_ : Aside0 (gb129 ≠ gb123) := ⟨h28_⟩
              have n29_ : Aside0 (gb124 ≠ gb129) := ⟨h29_⟩
              have n30_ : Aside0 (gb129 ≠ gb124) := ⟨h30_⟩
              have n31_ : Aside0 (gb125 ≠ gb129) := ⟨h31_⟩
              have n32_ : Aside0 (gb129 ≠ gb125) := ⟨h32_⟩
              have n33_ : Aside0 (Below w.heap.size w w181) := ⟨h33_⟩
              clear BK121
              clear BK122
              clear BK123
              clear BK124
              clear BK125
              clear HB
              clear h0_ h1_ h2_ h3_ h4_ h5_ h6_ h7_ h8_ h9_ h10_ h11_ h12_ h13_ h14_ h15_ h16_ h17_ h18_ h19_ h20_ h21_ h22_ h23_ h24_ h25_ h26_ h27_ h28_ h29_ h30_ h31_ h32_ h33_
              have BK121 := n0_
              have BK122 := n1_
              have BK123 := n2_
              have BK124 := n3_
              have BK125 := n4_
              have BK128 := n5_
              have BK129 := n6_
              have GW128 := n7_
              have GE128 := n8_
              have NB121_128 := n9_
              have NB128_121 := n10_
              have NB122_128 := n11_
              have NB128_122 := n12_
              have NB123_128 := n13_
              have NB128_123 := n14_
              have NB124_128 := n15_
              have NB128_124 := n16_
              have NB125_128 := n17_
              have NB128_125 := n18_
              have NB129_128 := n19_
              have NB128_129 := n20_
              have GW129 := n21_
              have GE129 := n22_
              have NB121_129 := n23_
              have NB129_121 := n24_
              have NB122_129 := n25_
              have NB129_122 := n26_
              have NB123_129 := n27_
              have NB129_123 := n28_
              have NB124_129 := n29_
              have NB129_124 := n30_
              have NB125_129 := n31_
              have NB129_125 := n32_
              have HB := n33_
              clear n0_ n1_ n2_ n3_ n4_ n5_ n6_ n7_ n8_ n9_ n10_ n11_ n12_ n13_ n14_ n15_ n16_ n17_ n18_ n19_ n20_ n21_ n22_ n23_ n24_ n25_ n26_ n27_ n28_ n29_ n30_ n31_ n32_ n33_
              have hHeld : w181.cell? ⟨gb122, 0, none⟩ = some (.int .u8 a1_0) ∧ w181.cell? ⟨gb122, 1, none⟩ = some (.int .u8 a1_1) ∧ w181.cell? ⟨gb122, 2, none⟩ = some (.int .u16 a1_2) ∧ w181.cell? ⟨gb122, 3, none⟩ = some (.int .i64 a1_3) ∧ w181.cell? ⟨gb123, 0, none⟩ = some (.int .u8 a2_0) ∧ w181.cell? ⟨gb123, 1, none⟩ = some (.int .u8 a2_1) ∧ w181.cell? ⟨gb123, 2, none⟩ = some (.int .u16 a2_2) ∧ w181.cell? ⟨gb123, 3, none⟩ = some (.int .i64 a2_3) := hS_
              refine norm_ (a' := ?_) ?_ ?_
              rotate_left
              ·simp only [putAll, Act.put, List.setIfInBounds_toArray, List.set_cons_zero, List.set_cons_succ]
               rfl
              refine one_ (i := 6) (N := none) #[true, true, true, true, true, true, true, false] rfl rfl (one_of HT_.out (by kernel_rfl)) (by decide) (fun K hK => ?_)
              have hs182 : w181.cell? ⟨gb128, 0, none⟩ = some (.int .u8 0) := (blk_cell BK128.out 0).trans rfl
              have hfs182 := blk_frozen BK128.out 0
              have hns182_0 := NB121_128.out
              have hns182_1 := NB122_128.out
              have hns182_2 := NB123_128.out
              have hns182_3 := NB124_128.out
              have hns182_4 := NB125_128.out
              have hns182_6 := NB129_128.out
              have hms182_0 := NB128_121.out
              have hms182_1 := NB128_122.out
              have hms182_2 := NB128_123.out
              have hms182_3 := NB128_124.out
              have hms182_4 := NB128_125.out
              have hms182_6 := NB128_129.out
              have hs183 : w181.cell? ⟨gb128, 1, none⟩ = some (.int .u16 0) := (blk_cell BK128.out 1).trans rfl
              have hfs183 := blk_frozen BK128.out 1
              have hns183_0 := NB121_128.out
              have hns183_1 := NB122_128.out
              have hns183_2 := NB123_128.out
              have hns183_3 := NB124_128.out
              have hns183_4 := NB125_128.out
              have hns183_6 := NB129_128.out
              have hms183_0 := NB128_121.out
              have hms183_1 := NB128_122.out
              have hms183_2 := NB128_123.out
              have hms183_3 := NB128_124.out
              have hms183_4 := NB128_125.out
              have hms183_6 := NB128_129.out
              refine skip_ (w1 := ?_) (by rfl) rfl ?_ ?_
              rotate_left
              ·go_simp
               rfl
              refine hK.out _ _ ⟨((cell_far (p := ⟨gb128, _, none⟩) NB122_128.out _).trans (((cell_far (p := ⟨gb128, _, none⟩) NB122_128.out _).trans (hHeld.1)))), ((cell_far (p := ⟨gb128, _, none⟩) NB122_128.out _).trans (((cell_far (p := ⟨gb128, _, none⟩) NB122_128.out _).trans (hHeld.2.1)))), ((cell_far (p := ⟨gb128, _, none⟩) NB122_128.out _).trans (((cell_far (p := ⟨gb128, _, none⟩) NB122_128.out _).trans (hHeld.2.2.1)))), ((cell_far (p := ⟨gb128, _, none⟩) NB122_128.out _).trans (((cell_far (p := ⟨gb128, _, none⟩) NB122_128.out _).trans (hHeld.2.2.2.1)))), ((cell_far (p := ⟨gb128, _, none⟩) NB123_128.out _).trans (((cell_far (p := ⟨gb128, _, none⟩) NB123_128.out _).trans (hHeld.2.2.2.2.1)))), ((cell_far (p := ⟨gb128, _, none⟩) NB123_128.out _).trans (((cell_far (p := ⟨gb128, _, none⟩) NB123_128.out _).trans (hHeld.2.2.2.2.2.1)))), ((cell_far (p := ⟨gb128, _, none⟩) NB123_128.out _).trans (((cell_far (p := ⟨gb128, _, none⟩) NB123_128.out _).trans (hHeld.2.2.2.2.2.2.1)))), ((cell_far (p := ⟨gb128, _, none⟩) NB123_128.out _).trans (((cell_far (p := ⟨gb128, _, none⟩) NB123_128.out _).trans (hHeld.2.2.2.2.2.2.2))))⟩ (fun hHeld => ?_)
              clear hK K
              refine one_ (i := 7) (N := none) #[true, true, true, true, true, true, true, true] rfl rfl (one_of HT_.out (by kernel_rfl)) (by decide) (fun K hK => ?_)
              have hs184 : w181.cell? ⟨gb129, 0, none⟩ = some (.int .u8 0) := (blk_cell BK129.out 0).trans rfl
              have hfs184 := blk_frozen BK129.out 0
              have hns184_0 := NB121_129.out
              have hns184_1 := NB122_129.out
              have hns184_2 := NB123_129.out
              have hns184_3 := NB124_129.out
              have hns184_4 := NB125_129.out
              have hns184_5 := NB128_129.out
              have hms184_0 := NB129_121.out
              have hms184_1 := NB129_122.out
              have hms184_2 := NB129_123.out
              have hms184_3 := NB129_124.out
              have hms184_4 := NB129_125.out
              have hms184_5 := NB129_128.out
              have hs185 : w181.cell? ⟨gb129, 1, none⟩ = some (.int .u16 0) := (blk_cell BK129.out 1).trans rfl
              have hfs185 := blk_frozen BK129.out 1
              have hns185_0 := NB121_129.out
              have hns185_1 := NB122_129.out
              have hns185_2 := NB123_129.out
              have hns185_3 := NB124_129.out
              have hns185_4 := NB125_129.out
              have hns185_5 := NB128_129.out
              have hms185_0 := NB129_121.out
              have hms185_1 := NB129_122.out
              have hms185_2 := NB129_123.out
              have hms185_3 := NB129_124.out
              have hms185_4 := NB129_125.out
              have hms185_5 := NB129_128.out
              refine skip_ (w1 := ?_) (by rfl) rfl ?_ ?_
              rotate_left
              ·go_simp
               rfl
              refine hK.out _ _ ⟨((cell_far (p := ⟨gb129, _, none⟩) NB122_129.out _).trans (((cell_far (p := ⟨gb129, _, none⟩) NB122_129.out _).trans (hHeld.1)))), ((cell_far (p := ⟨gb129, _, none⟩) NB122_129.out _).trans (((cell_far (p := ⟨gb129, _, none⟩) NB122_129.out _).trans (hHeld.2.1)))), ((cell_far (p := ⟨gb129, _, none⟩) NB122_129.out _).trans (((cell_far (p := ⟨gb129, _, none⟩) NB122_129.out _).trans (hHeld.2.2.1)))), ((cell_far (p := ⟨gb129, _, none⟩) NB122_129.out _).trans (((cell_far (p := ⟨gb129, _, none⟩) NB122_129.out _).trans (hHeld.2.2.2.1)))), ((cell_far (p := ⟨gb129, _, none⟩) NB123_129.out _).trans (((cell_far (p := ⟨gb129, _, none⟩) NB123_129.out _).trans (hHeld.2.2.2.2.1)))), ((cell_far (p := ⟨gb129, _, none⟩) NB123_129.out _).trans (((cell_far (p := ⟨gb129, _, none⟩) NB123_129.out _).trans (hHeld.2.2.2.2.2.1)))), ((cell_far (p := ⟨gb129, _, none⟩) NB123_129.out _).trans (((cell_far (p := ⟨gb129, _, none⟩) NB123_129.out _).trans (hHeld.2.2.2.2.2.2.1)))), ((cell_far (p := ⟨gb129, _, none⟩) NB123_129.out _).trans (((cell_far (p := ⟨gb129, _, none⟩) NB123_129.out _).trans (hHeld.2.2.2.2.2.2.2))))⟩ (fun hHeld => ?_)
              clear hK K
              refine done_ (done_of HT_.out (by kernel_rfl)) ?_
              have hnb186 := NB128_121.out
              have hnc186 := NB121_128.out
              have hnb187 := NB128_122.out
              have hnc187 := NB122_128.out
              have hnb188 := NB128_123.out
              have hnc188 := NB123_128.out
              have hnb189 := NB128_124.out
              have hnc189 := NB124_128.out
              have hnb190 := NB128_125.out
              have hnc190 := NB125_128.out
              have hnb191 := NB128_129.out
              have hnc191 := NB129_128.out
              have hcz192_0 : w181.cell? ⟨gb128, 0, none⟩ = some (.int .u8 0) := (blk_cell BK128.out 0).trans rfl
              have hcz192_1 : w181.cell? ⟨gb128, 1, none⟩ = some (.int .u16 0) := (blk_cell BK128.out 1).trans rfl
              have hfz192_0 := blk_frozen BK128.out 0
              have hfz192_1 := blk_frozen BK128.out 1
              have hnb193 := NB129_121.out
              have hnc193 := NB121_129.out
              have hnb194 := NB129_122.out
              have hnc194 := NB122_129.out
              have hnb195 := NB129_123.out
              have hnc195 := NB123_129.out
              have hnb196 := NB129_124.out
              have hnc196 := NB124_129.out
              have hnb197 := NB129_125.out
              have hnc197 := NB125_129.out
              have hcz198_0 : w181.cell? ⟨gb129, 0, none⟩ = some (.int .u8 0) := (blk_cell BK129.out 0).trans rfl
              have hcz198_1 : w181.cell? ⟨gb129, 1, none⟩ = some (.int .u16 0) := (blk_cell BK129.out 1).trans rfl
              have hfz198_0 := blk_frozen BK129.out 0
              have hfz198_1 := blk_frozen BK129.out 1
              try go_wp2_with (first | ((with_reducible refine gate_callee (f := 67) rfl ?_); refine goesL_ (some 67) rfl rfl Try.func67 (by kernel_rfl) rfl #[.int .i64 0] rfl (by (try simp only [List.map_toArray, List.map_cons, List.map_nil]); first | done | rfl | (simp only [List.length_drop, List.length_take]; rfl)) ?_; (with_reducible refine (vals_object.calls 0 t131 t132 t133 t134 _ A168.out).mono ?_); rintro e w199 ⟨rfl, hb⟩; refine ⟨_, rfl, ?_⟩; have n0_ := Aside0.mk (blk_below (qf BK121.out) hb); have n1_ := Aside0.mk (blk_below (qf BK122.out) hb); have n2_ := Aside0.mk (blk_below (qf BK123.out) hb); have n3_ := Aside0.mk (blk_below (qf BK124.out) hb); have n4_ := Aside0.mk (blk_below (qf BK125.out) hb); have n5_ := Aside0.mk (blk_below (g := gb128) (o := .cells #[.int .u8 a1_1, .int .u16 a1_2] 32 (0, 0)) (by (with_reducible repeat (first | refine blk_drewN ?_ _ | refine blk_drew ?_ | refine blk_alloc ?_ _)); refine blk_far ?_ NB128_129.out _; (with_reducible repeat (first | refine blk_drewN ?_ _ | refine blk_drew ?_ | refine blk_alloc ?_ _)); refine blk_far ?_ NB128_129.out _; (with_reducible repeat (first | refine blk_drewN ?_ _ | refine blk_drew ?_ | refine blk_alloc ?_ _)); refine blk_put (cs := #[.int .u8 a1_1, .int .u16 0]) ?_ 1 _ rfl; (with_reducible repeat (first | refine blk_drewN ?_ _ | refine blk_drew ?_ | refine blk_alloc ?_ _)); refine blk_put (cs := #[.int .u8 0, .int .u16 0]) ?_ 0 _ rfl; (with_reducible repeat (first | refine blk_drewN ?_ _ | refine blk_drew ?_ | refine blk_alloc ?_ _)); exact BK128.out) hb); have n6_ := Aside0.mk (blk_below (g := gb129) (o := .cells #[.int .u8 a2_1, .int .u16 a2_2] 32 (0, 0)) (by (with_reducible repeat (first | refine blk_drewN ?_ _ | refine blk_drew ?_ | refine blk_alloc ?_ _)); refine blk_put (cs := #[.int .u8 a2_1, .int .u16 0]) ?_ 1 _ rfl; (with_reducible repeat (first | refine blk_drewN ?_ _ | refine blk_drew ?_ | refine blk_alloc ?_ _)); refine blk_put (cs := #[.int .u8 0, .int .u16 0]) ?_ 0 _ rfl; (with_reducible repeat (first | refine blk_drewN ?_ _ | refine blk_drew ?_ | refine blk_alloc ?_ _)); refine blk_far ?_ NB129_128.out _; (with_reducible repeat (first | refine blk_drewN ?_ _ | refine blk_drew ?_ | refine blk_alloc ?_ _)); refine blk_far ?_ NB129_128.out _; (with_reducible repeat (first | refine blk_drewN ?_ _ | refine blk_drew ?_ | refine blk_alloc ?_ _)); exact BK129.out) hb); have n7_ := Aside0.mk (below_step (qW HB.out) hb); clear BK121 BK122 BK123 BK124 BK125 BK128 BK129 HB; have BK121 := n0_; have BK122 := n1_; have BK123 := n2_; have BK124 := n3_; have BK125 := n4_; have BK128 := n5_; have BK129 := n6_; have HB := n7_; clear n0_ n1_ n2_ n3_ n4_ n5_ n6_ n7_; (try clear hb); (try clear hb2); (try clear hk); (try clear hi); have hnb200 := NB124_121.out; have hnc200 := NB121_124.out; have hnb201 := NB124_125.out; have hnc201 := NB125_124.out; have hcz202_0 : w199.cell? ⟨gb124, 0, none⟩ = some (.int .u8 0) := (blk_cell BK124.out 0).trans rfl; have hcz202_1 : w199.cell? ⟨gb124, 1, none⟩ = some (.int .u8 0) := (blk_cell BK124.out 1).trans rfl; have hcz202_2 : w199.cell? ⟨gb124, 2, none⟩ = some (.int .u16 0) := (blk_cell BK124.out 2).trans rfl; have hcz202_3 : w199.cell? ⟨gb124, 3, none⟩ = some (.int .i64 0) := (blk_cell BK124.out 3).trans rfl; have hfz202_0 := blk_frozen BK124.out 0; have hfz202_1 := blk_frozen BK124.out 1; have hfz202_2 := blk_frozen BK124.out 2; have hfz202_3 := blk_frozen BK124.out 3))
              refine bodyPost_ret (results_cell_row rfl _ _ gb124 56 #[.int .u8 t131, .int .u8 t132, .int .u16 t133, .int .i64 t134] (0, 0) _ rfl (by (with_reducible repeat (first | refine blk_drewN ?_ _ | refine blk_drew ?_ | refine blk_alloc ?_ _)); refine blk_put (cs := #[.int .u8 t131, .int .u8 t132, .int .u16 t133, .int .i64 0]) ?_ 3 _ rfl; (with_reducible repeat (first | refine blk_drewN ?_ _ | refine blk_drew ?_ | refine blk_alloc ?_ _)); refine blk_put (cs := #[.int .u8 t131, .int .u8 t132, .int .u16 0, .int .i64 0]) ?_ 2 _ rfl; (with_reducible repeat (first | refine blk_drewN ?_ _ | refine blk_drew ?_ | refine blk_alloc ?_ _)); refine blk_put (cs := #[.int .u8 t131, .int .u8 0, .int .u16 0, .int .i64 0]) ?_ 1 _ rfl; (with_reducible repeat (first | refine blk_drewN ?_ _ | refine blk_drew ?_ | refine blk_alloc ?_ _)); refine blk_put (cs := #[.int .u8 0, .int .u8 0, .int .u16 0, .int .i64 0]) ?_ 0 _ rfl; (with_reducible repeat (first | refine blk_drewN ?_ _ | refine blk_drew ?_ | refine blk_alloc ?_ _)); exact BK124.out) Try.underlying56 rfl (by kernel_rfl)) rfl ?_
              exact ⟨by first | rfl | (simp [errW_none, errW_some] <;> rfl) | (simp [*, errW_none, errW_some] <;> rfl), by repeat (first | (with_reducible first | exact HB.out | apply below_alloc | apply pw_below_drewN | apply below_drew1 | refine below_set ?_ GE121.out | refine below_set ?_ GE122.out | refine below_set ?_ GE123.out | refine below_set ?_ GE124.out | refine below_set ?_ GE125.out | refine below_set ?_ GE128.out | refine below_set ?_ GE129.out) | exact HB.out)⟩
            ·rw [if_neg c128] at H
             have c128b0 : (a2_0 == 4) = false := beq_eq_false_iff_ne.mpr c128
             have c128b1 : (a2_0 != 4) = true := bne_iff_ne.mpr c128
             simp only [Option.some.injEq, Prod.mk.injEq] at H
             obtain ⟨rfl, rfl, rfl, rfl⟩ := H
             have hnb203 := NB122_121.out
             have hnc203 := NB121_122.out
             have hnb204 := NB122_123.out
             have hnc204 := NB123_122.out
             have hnb205 := NB122_124.out
             have hnc205 := NB124_122.out
             have hnb206 := NB122_125.out
             have hnc206 := NB125_122.out
             have hcz207_0 : wc.cell? ⟨gb122, 0, none⟩ = some (.int .u8 a1_0) := (blk_cell BK122.out 0).trans rfl
             have hcz207_1 : wc.cell? ⟨gb122, 1, none⟩ = some (.int .u8 a1_1) := (blk_cell BK122.out 1).trans rfl
             have hcz207_2 : wc.cell? ⟨gb122, 2, none⟩ = some (.int .u16 a1_2) := (blk_cell BK122.out 2).trans rfl
             have hcz207_3 : wc.cell? ⟨gb122, 3, none⟩ = some (.int .i64 a1_3) := (blk_cell BK122.out 3).trans rfl
             have hfz207_0 := blk_frozen BK122.out 0
             have hfz207_1 := blk_frozen BK122.out 1
             have hfz207_2 := blk_frozen BK122.out 2
             have hfz207_3 := blk_frozen BK122.out 3
             have hnb208 := NB123_121.out
             have hnc208 := NB121_123.out
             have hnb209 := NB123_124.out
             have hnc209 := NB124_123.out
             have hnb210 := NB123_125.out
             have hnc210 := NB125_123.out
             have hcz211_0 : wc.cell? ⟨gb123, 0, none⟩ = some (.int .u8 a2_0) := (blk_cell BK123.out 0).trans rfl
             have hcz211_1 : wc.cell? ⟨gb123, 1, none⟩ = some (.int .u8 a2_1) := (blk_cell BK123.out 1).trans rfl
             have hcz211_2 : wc.cell? ⟨gb123, 2, none⟩ = some (.int .u16 a2_2) := (blk_cell BK123.out 2).trans rfl
             have hcz211_3 : wc.cell? ⟨gb123, 3, none⟩ = some (.int .i64 a2_3) := (blk_cell BK123.out 3).trans rfl
             have hfz211_0 := blk_frozen BK123.out 0
             have hfz211_1 := blk_frozen BK123.out 1
             have hfz211_2 := blk_frozen BK123.out 2
             have hfz211_3 := blk_frozen BK123.out 3
             have hnb212 := NB125_121.out
             have hnc212 := NB121_125.out
             have hnb213 := NB125_124.out
             have hnc213 := NB124_125.out
             have hcz214_0 : wc.cell? ⟨gb125, 0, none⟩ = some (.int .u8 1) := (blk_cell BK125.out 0).trans rfl
             have hcz214_1 : wc.cell? ⟨gb125, 1, none⟩ = some (.int .u8 0) := (blk_cell BK125.out 1).trans rfl
             have hcz214_2 : wc.cell? ⟨gb125, 2, none⟩ = some (.int .u16 0) := (blk_cell BK125.out 2).trans rfl
             have hcz214_3 : wc.cell? ⟨gb125, 3, none⟩ = some (.int .i64 0) := (blk_cell BK125.out 3).trans rfl
             have hfz214_0 := blk_frozen BK125.out 0
             have hfz214_1 := blk_frozen BK125.out 1
             have hfz214_2 := blk_frozen BK125.out 2
             have hfz214_3 := blk_frozen BK125.out 3
             have hnb215 := NB124_121.out
             have hnc215 := NB121_124.out
             have hcz216_0 : wc.cell? ⟨gb124, 0, none⟩ = some (.int .u8 0) := (blk_cell BK124.out 0).trans rfl
             have hcz216_1 : wc.cell? ⟨gb124, 1, none⟩ = some (.int .u8 0) := (blk_cell BK124.out 1).trans rfl
             have hcz216_2 : wc.cell? ⟨gb124, 2, none⟩ = some (.int .u16 0) := (blk_cell BK124.out 2).trans rfl
             have hcz216_3 : wc.cell? ⟨gb124, 3, none⟩ = some (.int .i64 0) := (blk_cell BK124.out 3).trans rfl
             have hfz216_0 := blk_frozen BK124.out 0
             have hfz216_1 := blk_frozen BK124.out 1
             have hfz216_2 := blk_frozen BK124.out 2
             have hfz216_3 := blk_frozen BK124.out 3
             go_wp2
             refine bodyPost_ret (results_cell_row rfl _ _ gb124 56 #[.int .u8 1, .int .u8 0, .int .u16 0, .int .i64 0] (0, 0) _ rfl (by (with_reducible repeat (first | refine blk_drewN ?_ _ | refine blk_drew ?_ | refine blk_alloc ?_ _)); refine blk_put (cs := #[.int .u8 1, .int .u8 0, .int .u16 0, .int .i64 0]) ?_ 3 _ rfl; (with_reducible repeat (first | refine blk_drewN ?_ _ | refine blk_drew ?_ | refine blk_alloc ?_ _)); refine blk_put (cs := #[.int .u8 1, .int .u8 0, .int .u16 0, .int .i64 0]) ?_ 2 _ rfl; (with_reducible repeat (first | refine blk_drewN ?_ _ | refine blk_drew ?_ | refine blk_alloc ?_ _)); refine blk_put (cs := #[.int .u8 1, .int .u8 0, .int .u16 0, .int .i64 0]) ?_ 1 _ rfl; (with_reducible repeat (first | refine blk_drewN ?_ _ | refine blk_drew ?_ | refine blk_alloc ?_ _)); refine blk_put (cs := #[.int .u8 0, .int .u8 0, .int .u16 0, .int .i64 0]) ?_ 0 _ rfl; (with_reducible repeat (first | refine blk_drewN ?_ _ | refine blk_drew ?_ | refine blk_alloc ?_ _)); exact BK124.out) Try.underlying56 rfl (by kernel_rfl)) rfl ?_
             exact ⟨by first | rfl | (simp [errW_none, errW_some] <;> rfl) | (simp [*, errW_none, errW_some] <;> rfl), by repeat (first | (with_reducible first | exact HB.out | apply below_alloc | apply pw_below_drewN | apply below_drew1 | refine below_set ?_ GE121.out | refine below_set ?_ GE122.out | refine below_set ?_ GE123.out | refine below_set ?_ GE124.out | refine below_set ?_ GE125.out) | exact HB.out)⟩
           ·rw [if_neg c127] at H
            have c127b0 : (a1_0 == 4) = false := beq_eq_false_iff_ne.mpr c127
            have c127b1 : (a1_0 != 4) = true := bne_iff_ne.mpr c127
            simp only [Option.some.injEq, Prod.mk.injEq] at H
            obtain ⟨rfl, rfl, rfl, rfl⟩ := H
            have hnb217 := NB122_121.out
            have hnc217 := NB121_122.out
            have hnb218 := NB122_123.out
            have hnc218 := NB123_122.out
            have hnb219 := NB122_124.out
            have hnc219 := NB124_122.out
            have hnb220 := NB122_125.out
            have hnc220 := NB125_122.out
            have hcz221_0 : wc.cell? ⟨gb122, 0, none⟩ = some (.int .u8 a1_0) := (blk_cell BK122.out 0).trans rfl
            have hcz221_1 : wc.cell? ⟨gb122, 1, none⟩ = some (.int .u8 a1_1) := (blk_cell BK122.out 1).trans rfl
            have hcz221_2 : wc.cell? ⟨gb122, 2, none⟩ = some (.int .u16 a1_2) := (blk_cell BK122.out 2).trans rfl
            have hcz221_3 : wc.cell? ⟨gb122, 3, none⟩ = some (.int .i64 a1_3) := (blk_cell BK122.out 3).trans rfl
            have hfz221_0 := blk_frozen BK122.out 0
            have hfz221_1 := blk_frozen BK122.out 1
            have hfz221_2 := blk_frozen BK122.out 2
            have hfz221_3 := blk_frozen BK122.out 3
            have hnb222 := NB125_121.out
            have hnc222 := NB121_125.out
            have hnb223 := NB125_123.out
            have hnc223 := NB123_125.out
            have hnb224 := NB125_124.out
            have hnc224 := NB124_125.out
            have hcz225_0 : wc.cell? ⟨gb125, 0, none⟩ = some (.int .u8 1) := (blk_cell BK125.out 0).trans rfl
            have hcz225_1 : wc.cell? ⟨gb125, 1, none⟩ = some (.int .u8 0) := (blk_cell BK125.out 1).trans rfl
            have hcz225_2 : wc.cell? ⟨gb125, 2, none⟩ = some (.int .u16 0) := (blk_cell BK125.out 2).trans rfl
            have hcz225_3 : wc.cell? ⟨gb125, 3, none⟩ = some (.int .i64 0) := (blk_cell BK125.out 3).trans rfl
            have hfz225_0 := blk_frozen BK125.out 0
            have hfz225_1 := blk_frozen BK125.out 1
            have hfz225_2 := blk_frozen BK125.out 2
            have hfz225_3 := blk_frozen BK125.out 3
            have hnb226 := NB124_121.out
            have hnc226 := NB121_124.out
            have hnb227 := NB124_123.out
            have hnc227 := NB123_124.out
            have hcz228_0 : wc.cell? ⟨gb124, 0, none⟩ = some (.int .u8 0) := (blk_cell BK124.out 0).trans rfl
            have hcz228_1 : wc.cell? ⟨gb124, 1, none⟩ = some (.int .u8 0) := (blk_cell BK124.out 1).trans rfl
            have hcz228_2 : wc.cell? ⟨gb124, 2, none⟩ = some (.int .u16 0) := (blk_cell BK124.out 2).trans rfl
            have hcz228_3 : wc.cell? ⟨gb124, 3, none⟩ = some (.int .i64 0) := (blk_cell BK124.out 3).trans rfl
            have hfz228_0 := blk_frozen BK124.out 0
            have hfz228_1 := blk_frozen BK124.out 1
            have hfz228_2 := blk_frozen BK124.out 2
            have hfz228_3 := blk_frozen BK124.out 3
            go_wp2
            refine bodyPost_ret (results_cell_row rfl _ _ gb124 56 #[.int .u8 1, .int .u8 0, .int .u16 0, .int .i64 0] (0, 0) _ rfl (by (with_reducible repeat (first | refine blk_drewN ?_ _ | refine blk_drew ?_ | refine blk_alloc ?_ _)); refine blk_put (cs := #[.int .u8 1, .int .u8 0, .int .u16 0, .int .i64 0]) ?_ 3 _ rfl; (with_reducible repeat (first | refine blk_drewN ?_ _ | refine blk_drew ?_ | refine blk_alloc ?_ _)); refine blk_put (cs := #[.int .u8 1, .int .u8 0, .int .u16 0, .int .i64 0]) ?_ 2 _ rfl; (with_reducible repeat (first | refine blk_drewN ?_ _ | refine blk_drew ?_ | refine blk_alloc ?_ _)); refine blk_put (cs := #[.int .u8 1, .int .u8 0, .int .u16 0, .int .i64 0]) ?_ 1 _ rfl; (with_reducible repeat (first | refine blk_drewN ?_ _ | refine blk_drew ?_ | refine blk_alloc ?_ _)); refine blk_put (cs := #[.int .u8 0, .int .u8 0, .int .u16 0, .int .i64 0]) ?_ 0 _ rfl; (with_reducible repeat (first | refine blk_drewN ?_ _ | refine blk_drew ?_ | refine blk_alloc ?_ _)); exact BK124.out) Try.underlying56 rfl (by kernel_rfl)) rfl ?_
            exact ⟨by first | rfl | (simp [errW_none, errW_some] <;> rfl) | (simp [*, errW_none, errW_some] <;> rfl), by repeat (first | (with_reducible first | exact HB.out | apply below_alloc | apply pw_below_drewN | apply below_drew1 | refine below_set ?_ GE121.out | refine below_set ?_ GE122.out | refine below_set ?_ GE123.out | refine below_set ?_ GE124.out | refine below_set ?_ GE125.out) | exact HB.out)⟩

end Go.Proofs.Ytjknnifcbcdjiaa.PValsAny
