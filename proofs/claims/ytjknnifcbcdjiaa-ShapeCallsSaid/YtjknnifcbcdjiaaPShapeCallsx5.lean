/- Printed by a program of this session (pr.py). -/
import Derived.Test.YtjknnifcbcdjiaaPShapeCallsx0
import Derived.Test.YtjknnifcbcdjiaaPShapeCallsx2
import Derived.Test.YtjknnifcbcdjiaaShort
namespace Go.Proofs.Ytjknnifcbcdjiaa.PShapeCalls
open Go.RowKit Go.Proofs.YtjknnifcbcdjiaaW.PrintWords Go.Proofs.YtjknnifcbcdjiaaW.PrintLast Go.Proofs.YtjknnifcbcdjiaaW.PrintMore Go.Proofs.Ytjknnifcbcdjiaa.Short
attribute [local go_sem] max2_int min2_int max_two min_two max_three min_three max_four min_four   -- for this text's walks alone
set_option linter.unusedVariables false
set_option linter.unusedSimpArgs false

/-! ### garderoberef17_Return: function 31 -/
mutual
def garderoberef17_Return.j0 : Nat → Bool → List (S56) → List (S56) → List Int → Int → Int → Int → Int → Option ((List (S56)) × (List (S56)) × List Int × Int × Int)
 | 0, _, _, _, _, _, _, _, _ => none
 | k + 1, x25, x224000, x224001, x224002, x225000, x225001, x225002, x225003 => if x25 = true then (some (([] : List (S56)), ([] : List (S56)), ([] : List Int), 0, 9)) else ((garderoberef17_Copy.f x224000 x224001 x224002).bind fun bt226 => (garderoberef17_Return.l0 k 0 x224000 x224001 x224002 x225000 x225001 x225002 x225003 bt226.1 bt226.2.1 bt226.2.2))
def garderoberef17_Return.l0 : Nat → Int → List (S56) → List (S56) → List Int → Int → Int → Int → Int → List (S56) → List (S56) → List Int → Option ((List (S56)) × (List (S56)) × List Int × Int × Int)
 | 0, _, _, _, _, _, _, _, _, _, _, _ => none
 | k + 1, x8, x224000, x224001, x224002, x225000, x225001, x225002, x225003, x236000, x236001, x236002 => if x8 < (x236000.length : Int) then (if 0 ≤ x8 then (if ((rd_T56 x236000 x8).f0) = 5 then (if ((rd_T56 x236000 x8).f2) ≥ x225003 then ((garderoberef16_None.f).bind fun bt238 => (garderoberef17_Return.l0 k (wrap64 (x8 + 1)) x224000 x224001 x224002 x225000 x225001 x225002 x225003 (x236000.set (x8 : Int).toNat (⟨bt238.1, (⟨bt238.2.1, bt238.2.2.1⟩ : S32), bt238.2.2.2⟩ : S56)) x236001 x236002)) else (garderoberef17_Return.l0 k (wrap64 (x8 + 1)) x224000 x224001 x224002 x225000 x225001 x225002 x225003 x236000 x236001 x236002)) else (garderoberef17_Return.l0 k (wrap64 (x8 + 1)) x224000 x224001 x224002 x225000 x225001 x225002 x225003 x236000 x236001 x236002)) else (none)) else (garderoberef17_Return.l1 k 0 x224000 x224001 x224002 x225000 x225001 x225002 x225003 x236000 x236001 x236002)
def garderoberef17_Return.l1 : Nat → Int → List (S56) → List (S56) → List Int → Int → Int → Int → Int → List (S56) → List (S56) → List Int → Option ((List (S56)) × (List (S56)) × List Int × Int × Int)
 | 0, _, _, _, _, _, _, _, _, _, _, _ => none
 | k + 1, x9, x224000, x224001, x224002, x225000, x225001, x225002, x225003, x236000, x236001, x236002 => if x9 < (x236001.length : Int) then (if 0 ≤ x9 then (if ((rd_T56 x236001 x9).f0) = 5 then (if ((rd_T56 x236001 x9).f2) ≥ x225003 then ((garderoberef16_None.f).bind fun bt245 => (garderoberef17_Return.l1 k (wrap64 (x9 + 1)) x224000 x224001 x224002 x225000 x225001 x225002 x225003 x236000 (x236001.set (x9 : Int).toNat (⟨bt245.1, (⟨bt245.2.1, bt245.2.2.1⟩ : S32), bt245.2.2.2⟩ : S56)) x236002)) else (garderoberef17_Return.l1 k (wrap64 (x9 + 1)) x224000 x224001 x224002 x225000 x225001 x225002 x225003 x236000 x236001 x236002)) else (garderoberef17_Return.l1 k (wrap64 (x9 + 1)) x224000 x224001 x224002 x225000 x225001 x225002 x225003 x236000 x236001 x236002)) else (none)) else (if 0 ≤ x225003 then (if x225003 ≤ (x236002.length : Int) then (if x225003 < (x224002.length : Int) then (some (x236000, x236001, (x236002.take (x225003 : Int).toNat), rd x224002 x225003, 0)) else (none)) else (none)) else (none))
end
def garderoberef17_Return.f (k : Nat) (l0_0 : List (S56)) (l0_1 : List (S56)) (l0_2 : List Int) (a1_0 : Int) (a1_1 : Int) (a1_2 : Int) (a1_3 : Int) : Option ((List (S56)) × (List (S56)) × List Int × Int × Int) := if a1_0 = 5 then (if a1_3 < 0 then (garderoberef17_Return.j0 k true l0_0 l0_1 l0_2 a1_0 a1_1 a1_2 a1_3) else (garderoberef17_Return.j0 k (decide (a1_3 ≥ (l0_2.length : Int))) l0_0 l0_1 l0_2 a1_0 a1_1 a1_2 a1_3)) else (garderoberef17_Return.j0 k true l0_0 l0_1 l0_2 a1_0 a1_1 a1_2 a1_3)
theorem garderoberef17_Return.mono_l : ∀ k, (∀ y0 y1 y2 y3 y4 y5 y6 y7, LeO (garderoberef17_Return.j0 k y0 y1 y2 y3 y4 y5 y6 y7) (garderoberef17_Return.j0 (k + 1) y0 y1 y2 y3 y4 y5 y6 y7)) ∧ (∀ y0 y1 y2 y3 y4 y5 y6 y7 y8 y9 y10, LeO (garderoberef17_Return.l0 k y0 y1 y2 y3 y4 y5 y6 y7 y8 y9 y10) (garderoberef17_Return.l0 (k + 1) y0 y1 y2 y3 y4 y5 y6 y7 y8 y9 y10)) ∧ (∀ y0 y1 y2 y3 y4 y5 y6 y7 y8 y9 y10, LeO (garderoberef17_Return.l1 k y0 y1 y2 y3 y4 y5 y6 y7 y8 y9 y10) (garderoberef17_Return.l1 (k + 1) y0 y1 y2 y3 y4 y5 y6 y7 y8 y9 y10))
 | 0 => ⟨fun _ _ _ _ _ _ _ _ r h => by simp [garderoberef17_Return.j0] at h, fun _ _ _ _ _ _ _ _ _ _ _ r h => by simp [garderoberef17_Return.l0] at h, fun _ _ _ _ _ _ _ _ _ _ _ r h => by simp [garderoberef17_Return.l1] at h⟩
 | k + 1 => by
  obtain ⟨ih0, ih1, ih2⟩ := garderoberef17_Return.mono_l k
  refine ⟨?_, ?_, ?_⟩
  ·intro y0 y1 y2 y3 y4 y5 y6 y7
   unfold garderoberef17_Return.j0
   repeat' first
   | (with_reducible exact ih0 _ _ _ _ _ _ _ _)
   | (with_reducible exact ih1 _ _ _ _ _ _ _ _ _ _ _)
   | (with_reducible exact ih2 _ _ _ _ _ _ _ _ _ _ _)
   | (with_reducible exact LeO.refl _)
   | (with_reducible exact LeO.none _)
   | (with_reducible refine LeO.ite ?_ ?_)
   | (with_reducible refine LeO.bind ?_ (fun _ => ?_))
   | exact ih0 _ _ _ _ _ _ _ _
   | exact ih1 _ _ _ _ _ _ _ _ _ _ _
   | exact ih2 _ _ _ _ _ _ _ _ _ _ _
   | exact LeO.none _
   | refine LeO.ite ?_ ?_
   | refine LeO.bind ?_ (fun _ => ?_)
  ·intro y0 y1 y2 y3 y4 y5 y6 y7 y8 y9 y10
   unfold garderoberef17_Return.l0
   repeat' first
   | (with_reducible exact ih0 _ _ _ _ _ _ _ _)
   | (with_reducible exact ih1 _ _ _ _ _ _ _ _ _ _ _)
   | (with_reducible exact ih2 _ _ _ _ _ _ _ _ _ _ _)
   | (with_reducible exact LeO.refl _)
   | (with_reducible exact LeO.none _)
   | (with_reducible refine LeO.ite ?_ ?_)
   | (with_reducible refine LeO.bind ?_ (fun _ => ?_))
   | exact ih0 _ _ _ _ _ _ _ _
   | exact ih1 _ _ _ _ _ _ _ _ _ _ _
   | exact ih2 _ _ _ _ _ _ _ _ _ _ _
   | exact LeO.none _
   | refine LeO.ite ?_ ?_
   | refine LeO.bind ?_ (fun _ => ?_)
  ·intro y0 y1 y2 y3 y4 y5 y6 y7 y8 y9 y10
   unfold garderoberef17_Return.l1
   repeat' first
   | (with_reducible exact ih0 _ _ _ _ _ _ _ _)
   | (with_reducible exact ih1 _ _ _ _ _ _ _ _ _ _ _)
   | (with_reducible exact ih2 _ _ _ _ _ _ _ _ _ _ _)
   | (with_reducible exact LeO.refl _)
   | (with_reducible exact LeO.none _)
   | (with_reducible refine LeO.ite ?_ ?_)
   | (with_reducible refine LeO.bind ?_ (fun _ => ?_))
   | exact ih0 _ _ _ _ _ _ _ _
   | exact ih1 _ _ _ _ _ _ _ _ _ _ _
   | exact ih2 _ _ _ _ _ _ _ _ _ _ _
   | exact LeO.none _
   | refine LeO.ite ?_ ?_
   | refine LeO.bind ?_ (fun _ => ?_)
theorem garderoberef17_Return.mono : ∀ a0 a1 a2 a3 a4 a5 a6 k, LeO (garderoberef17_Return.f k a0 a1 a2 a3 a4 a5 a6) (garderoberef17_Return.f (k + 1) a0 a1 a2 a3 a4 a5 a6) := by
 intro a0 a1 a2 a3 a4 a5 a6 k
 obtain ⟨ih0, ih1, ih2⟩ := garderoberef17_Return.mono_l k
 unfold garderoberef17_Return.f
 repeat' first
   | (with_reducible exact ih0 _ _ _ _ _ _ _ _)
   | (with_reducible exact ih1 _ _ _ _ _ _ _ _ _ _ _)
   | (with_reducible exact ih2 _ _ _ _ _ _ _ _ _ _ _)
   | (with_reducible exact LeO.refl _)
   | (with_reducible exact LeO.none _)
   | (with_reducible refine LeO.ite ?_ ?_)
   | (with_reducible refine LeO.bind ?_ (fun _ => ?_))
   | exact ih0 _ _ _ _ _ _ _ _
   | exact ih1 _ _ _ _ _ _ _ _ _ _ _
   | exact ih2 _ _ _ _ _ _ _ _ _ _ _
   | exact LeO.none _
   | refine LeO.ite ?_ ?_
   | refine LeO.bind ?_ (fun _ => ?_)
def garderoberef17_Return.T7 : Bool × List (List Nat × List Nat) := (true, [([], []), ([0], [0]), ([], []), ([1, 2], [1, 2]), ([3], [3]), ([4], [4]), ([5], [5]), ([6], [6]), ([7], [7]), ([8, 7], [7, 8]), ([7], [7]), ([9, 10, 7], [7, 9, 10]), ([11, 7], [7, 11]), ([12, 7], [7, 12]), ([7], [7]), ([14, 7], [7, 14]), ([13, 15, 7], [7, 13, 15]), ([7, 16], [7, 16])])
def garderoberef17_Return.B7 : List Nat := [0, 1, 0, 7, 15, 31, 63, 127, 255, 511, 255, 2047, 4095, 8191, 255, 16639, 65535, 131071]
theorem garderoberef17_Return.tab7 : rtab .any (opsOf Try.f31 7) = garderoberef17_Return.T7 := by kernel_rfl
theorem garderoberef17_Return.bits7 : waitsOk garderoberef17_Return.T7.2 garderoberef17_Return.B7 = true := by kernel_rfl
def garderoberef17_Return.T12 : Bool × List (List Nat × List Nat) := (true, [([], []), ([0], [0]), ([], []), ([1, 2], [1, 2]), ([3], [3]), ([4], [4]), ([5], [5]), ([6], [6]), ([7], [7]), ([8, 7], [7, 8]), ([7], [7]), ([9, 10, 7], [7, 9, 10]), ([11, 7], [7, 11]), ([12, 7], [7, 12]), ([7], [7]), ([14, 7], [7, 14]), ([13, 15, 7], [7, 13, 15]), ([7, 16], [7, 16])])
def garderoberef17_Return.B12 : List Nat := [0, 1, 0, 7, 15, 31, 63, 127, 255, 511, 255, 2047, 4095, 8191, 255, 16639, 65535, 131071]
theorem garderoberef17_Return.tab12 : rtab .any (opsOf Try.f31 12) = garderoberef17_Return.T12 := by kernel_rfl
theorem garderoberef17_Return.bits12 : waitsOk garderoberef17_Return.T12.2 garderoberef17_Return.B12 = true := by kernel_rfl
def garderoberef17_Return.T15 : Bool × List (List Nat × List Nat) := (true, [([], []), ([], []), ([1], [1]), ([], []), ([3], [3]), ([2, 4], [2, 4]), ([5], [5]), ([0, 0], [0]), ([6, 7, 0, 1, 2, 3, 4, 5, 6, 7], [6]), ([8, 0, 1, 2, 3, 4, 5, 6, 7, 8], [])])
def garderoberef17_Return.B15 : List Nat := [0, 0, 2, 0, 8, 30, 62, 1, 255, 511]
theorem garderoberef17_Return.tab15 : rtab .any (opsOf Try.f31 15) = garderoberef17_Return.T15 := by kernel_rfl
theorem garderoberef17_Return.bits15 : waitsOk garderoberef17_Return.T15.2 garderoberef17_Return.B15 = true := by kernel_rfl
set_option maxHeartbeats 8000000 in
set_option maxRecDepth 100000 in
theorem garderoberef17_Return.calls (k : Nat) (A0_0 : Option Addr) (c0_0 : Nat) (l0_0 : List (S56)) (A0_1 : Option Addr) (c0_1 : Nat) (l0_1 : List (S56)) (A0_2 : Option Addr) (c0_2 : Nat) (l0_2 : List Int) (a1_0 : Int) (a1_1 : Int) (a1_2 : Int) (a1_3 : Int) (r1 : List (S56)) (r2 : List (S56)) (r3 : List Int) (r4 : Int) (r5 : Int) (w : World) (hr0_0 : Kd.C k56 w A0_0 l0_0.length l0_0) (hc0_0 : l0_0.length ≤ c0_0) (hr0_1 : Kd.C k56 w A0_1 l0_1.length l0_1) (hc0_1 : l0_1.length ≤ c0_1) (hr0_2 : Kd.C (Kd.int .i64) w A0_2 l0_2.length l0_2) (hc0_2 : l0_2.length ≤ c0_2) (h : garderoberef17_Return.f k l0_0 l0_1 l0_2 a1_0 a1_1 a1_2 a1_3 = some (r1, r2, r3, r4, r5)) :
  Calls Try.prog 31 #[.agg #[.slice A0_0 l0_0.length c0_0, .slice A0_1 l0_1.length c0_1, .slice A0_2 l0_2.length c0_2], .agg #[.int .u8 a1_0, .int .u8 a1_1, .int .u16 a1_2, .int .i64 a1_3]] w fun e w' => ∃ v0_ v1_ v2_ : Value, e = .returned (.tuple #[.agg #[v0_, v1_, v2_], .int .i64 r4, .int .i64 r5]) ∧ Kd.R k56 56 w' w.heap.size (fun k_ => some k_ ≠ (v1_ : Value).ownBlock) v0_ r1 ∧ Kd.R k56 56 w' w.heap.size (fun k_ => some k_ ≠ (v0_ : Value).ownBlock) v1_ r2 ∧ Kd.R (Kd.int .i64) 3 w' w.heap.size (fun _ => True) v2_ r3 ∧ Below w.heap.size w w' := by
 have hu53 := Try.underlying53
 have hu56 := Try.underlying56
 have HR0_0 := Aside0.mk hr0_0
 have HC0_0 := Aside0.mk hc0_0
 clear hr0_0 hc0_0
 have HR0_1 := Aside0.mk hr0_1
 have HC0_1 := Aside0.mk hc0_1
 clear hr0_1 hc0_1
 have HR0_2 := Aside0.mk hr0_2
 have HC0_2 := Aside0.mk hc0_2
 clear hr0_2 hc0_2
 have HB := Aside0.mk (Below.refl w.heap.size w)
 have H : (if a1_0 = 5 then (if a1_3 < 0 then (garderoberef17_Return.j0 k true l0_0 l0_1 l0_2 a1_0 a1_1 a1_2 a1_3) else (garderoberef17_Return.j0 k (decide (a1_3 ≥ (l0_2.length : Int))) l0_0 l0_1 l0_2 a1_0 a1_1 a1_2 a1_3)) else (garderoberef17_Return.j0 k true l0_0 l0_1 l0_2 a1_0 a1_1 a1_2 a1_3)) = some (r1, r2, r3, r4, r5) := h
 clear h
 have HC3 := Aside0.mk H
 clear H
 go_enter Try.func31, Try.ntmps31
 go_upto_region 1 with (first | ((with_reducible refine gate_dst (N := 2) rfl ?_); (try (refine gate_guard (by rfl) ?_; dsimp only)); refine box_event ?hg (N := 2) ?hd (cs := #[.slice A0_0 l0_0.length c0_0, .slice A0_1 l0_1.length c0_1, .slice A0_2 l0_2.length c0_2]) (t := 53) ?hr ?_; (case hd => rfl); (case hg => rfl); (case hr => first | (go_simp; done) | (go_simp; rfl)); intro gb223 hg w4 hbox hb; have n0_ := Aside0.mk (below_step (qW HB.out) hb); have n1_ := Aside0.mk (hbox); have n2_ := Aside0.mk ((by rw [hg]; exact (below_size (qW HB.out)) : w.heap.size ≤ gb223)); have n3_ := Aside0.mk ((by rw [hg]; exact (below_size (qW HB.out)) : w.heap.size ≤ gb223)); clear HB; have HB := n0_; have BK223 := n1_; have GW223 := n2_; have GE223 := n3_; clear n0_ n1_ n2_ n3_; clear hb hbox hg) | ((with_reducible refine gate_dst (N := 3) rfl ?_); (try (refine gate_guard (by rfl) ?_; dsimp only)); refine box_event ?hg (N := 3) ?hd (cs := #[.int .u8 a1_0, .int .u8 a1_1, .int .u16 a1_2, .int .i64 a1_3]) (t := 56) ?hr ?_; (case hd => rfl); (case hg => rfl); (case hr => first | (go_simp; done) | (go_simp; rfl)); intro gb224 hg w5 hbox hb; have n0_ := Aside0.mk (blk_below (qb BK223.out) hb); have n1_ := Aside0.mk (below_step (qW HB.out) hb); have n2_ := Aside0.mk (hbox); have n3_ := Aside0.mk ((by rw [hg]; exact (below_size (qW HB.out)) : w.heap.size ≤ gb224)); have n4_ := Aside0.mk ((by rw [hg]; exact (below_size (qW HB.out)) : w.heap.size ≤ gb224)); have n5_ := Aside0.mk ((by rw [hg]; exact Nat.ne_of_lt (blk_lt (qb BK223.out)) : gb223 ≠ gb224)); have n6_ := Aside0.mk ((by rw [hg]; exact Nat.ne_of_gt (blk_lt (qb BK223.out)) : gb224 ≠ gb223)); clear BK223 HB; have BK223 := n0_; have HB := n1_; have BK224 := n2_; have GW224 := n3_; have GE224 := n4_; have NB223_224 := n5_; have NB224_223 := n6_; clear n0_ n1_ n2_ n3_ n4_ n5_ n6_; clear hb hbox hg) | ((with_reducible refine gate_dst (N := 4) rfl ?_); (try (refine gate_guard (by rfl) ?_; dsimp only)); refine box_event ?hg (N := 4) ?hd (cs := #[.slice none 0 0, .slice none 0 0, .slice none 0 0]) (t := 53) ?hr ?_; (case hd => rfl); (case hg => rfl); (case hr => first | (go_simp; done) | (go_simp; rfl)); intro gb225 hg w6 hbox hb; have n0_ := Aside0.mk (blk_below (qb BK223.out) hb); have n1_ := Aside0.mk (blk_below (qb BK224.out) hb); have n2_ := Aside0.mk (below_step (qW HB.out) hb); have n3_ := Aside0.mk (hbox); have n4_ := Aside0.mk ((by rw [hg]; exact (below_size (qW HB.out)) : w.heap.size ≤ gb225)); have n5_ := Aside0.mk ((by rw [hg]; exact (below_size (qW HB.out)) : w.heap.size ≤ gb225)); have n6_ := Aside0.mk ((by rw [hg]; exact Nat.ne_of_lt (blk_lt (qb BK223.out)) : gb223 ≠ gb225)); have n7_ := Aside0.mk ((by rw [hg]; exact Nat.ne_of_gt (blk_lt (qb BK223.out)) : gb225 ≠ gb223)); have n8_ := Aside0.mk ((by rw [hg]; exact Nat.ne_of_lt (blk_lt (qb BK224.out)) : gb224 ≠ gb225)); have n9_ := Aside0.mk ((by rw [hg]; exact Nat.ne_of_gt (blk_lt (qb BK224.out)) : gb225 ≠ gb224)); clear BK223 BK224 HB; have BK223 := n0_; have BK224 := n1_; have HB := n2_; have BK225 := n3_; have GW225 := n4_; have GE225 := n5_; have NB223_225 := n6_; have NB225_223 := n7_; have NB224_225 := n8_; have NB225_224 := n9_; clear n0_ n1_ n2_ n3_ n4_ n5_ n6_ n7_ n8_ n9_; clear hb hbox hg))
 (try simp only [Act.put, List.setIfInBounds_toArray, List.set_cons_zero, List.set_cons_succ])
 go_cut [25] (fun v25 wc => ∃ (kq : Nat) (x25_2 : Bool), v25 = .bool x25_2 ∧ Aside0 (garderoberef17_Return.j0 kq x25_2 l0_0 l0_1 l0_2 a1_0 a1_1 a1_2 a1_3 = some (r1, r2, r3, r4, r5)) ∧ Aside0 (kq ≤ k) ∧ Aside0 (wc.heap[gb223]? = some (.cells #[(.slice A0_0 l0_0.length c0_0), (.slice A0_1 l0_1.length c0_1), (.slice A0_2 l0_2.length c0_2)] 53 (0, 0))) ∧ Aside0 (wc.heap[gb224]? = some (.cells #[.int .u8 a1_0, .int .u8 a1_1, .int .u16 a1_2, .int .i64 a1_3] 56 (0, 0))) ∧ Aside0 (wc.heap[gb225]? = some (.cells #[(.slice none 0 0), (.slice none 0 0), (.slice none 0 0)] 53 (0, 0))) ∧ Aside0 (Below w.heap.size w wc))
 case first =>
  have H := HC3.out
  clear HC3
  by_cases c7 : a1_0 = 5
  ·rw [if_pos c7] at H
   have c7b0 : (a1_0 == 5) = true := beq_iff_eq.mpr c7
   have c7b1 : (a1_0 != 5) = false := bne_eq_false_iff_eq.mpr c7
   clear c7
   (first | rw [c7b0] | (simp only [i64_w, i32_w]; rw [c7b0]) | skip)
   by_cases c8 : a1_3 < 0
   ·rw [if_pos c8] at H
    have c8b0 : decide (a1_3 < 0) = true := decide_eq_true c8
    clear c8
    have H' := Aside0.mk H
    clear H
    have hnb9 := NB224_223.out
    have hnc9 := NB223_224.out
    have hnb10 := NB224_225.out
    have hnc10 := NB225_224.out
    have hcz11_0 : w6.cell? ⟨gb224, 0, none⟩ = some (.int .u8 a1_0) := (blk_cell BK224.out 0).trans rfl
    have hcz11_1 : w6.cell? ⟨gb224, 1, none⟩ = some (.int .u8 a1_1) := (blk_cell BK224.out 1).trans rfl
    have hcz11_2 : w6.cell? ⟨gb224, 2, none⟩ = some (.int .u16 a1_2) := (blk_cell BK224.out 2).trans rfl
    have hcz11_3 : w6.cell? ⟨gb224, 3, none⟩ = some (.int .i64 a1_3) := (blk_cell BK224.out 3).trans rfl
    have hfz11_0 := blk_frozen BK224.out 0
    have hfz11_1 := blk_frozen BK224.out 1
    have hfz11_2 := blk_frozen BK224.out 2
    have hfz11_3 := blk_frozen BK224.out 3
    go_wp2
    go_meet
    case rel => exact ⟨_, (true), (by first | rfl | (simp; done) | (simp [*]; done)), H', ⟨by first | omega | exact Nat.le_refl _⟩, ⟨qf BK223.out⟩, ⟨qf BK224.out⟩, ⟨qf BK225.out⟩, ⟨qW HB.out⟩⟩
   ·rw [if_neg c8] at H
    have c8b0 : decide (a1_3 < 0) = false := decide_eq_false c8
    clear c8
    have H' := Aside0.mk H
    clear H
    have hnb12 := NB224_223.out
    have hnc12 := NB223_224.out
    have hnb13 := NB224_225.out
    have hnc13 := NB225_224.out
    have hcz14_0 : w6.cell? ⟨gb224, 0, none⟩ = some (.int .u8 a1_0) := (blk_cell BK224.out 0).trans rfl
    have hcz14_1 : w6.cell? ⟨gb224, 1, none⟩ = some (.int .u8 a1_1) := (blk_cell BK224.out 1).trans rfl
    have hcz14_2 : w6.cell? ⟨gb224, 2, none⟩ = some (.int .u16 a1_2) := (blk_cell BK224.out 2).trans rfl
    have hcz14_3 : w6.cell? ⟨gb224, 3, none⟩ = some (.int .i64 a1_3) := (blk_cell BK224.out 3).trans rfl
    have hfz14_0 := blk_frozen BK224.out 0
    have hfz14_1 := blk_frozen BK224.out 1
    have hfz14_2 := blk_frozen BK224.out 2
    have hfz14_3 := blk_frozen BK224.out 3
    have hnb15 := NB223_225.out
    have hnc15 := NB225_223.out
    have hcz16_0 : w6.cell? ⟨gb223, 0, none⟩ = some (.slice A0_0 l0_0.length c0_0) := (blk_cell BK223.out 0).trans rfl
    have hcz16_1 : w6.cell? ⟨gb223, 1, none⟩ = some (.slice A0_1 l0_1.length c0_1) := (blk_cell BK223.out 1).trans rfl
    have hcz16_2 : w6.cell? ⟨gb223, 2, none⟩ = some (.slice A0_2 l0_2.length c0_2) := (blk_cell BK223.out 2).trans rfl
    have hfz16_0 := blk_frozen BK223.out 0
    have hfz16_1 := blk_frozen BK223.out 1
    have hfz16_2 := blk_frozen BK223.out 2
    go_wp2
    go_meet
    case rel => exact ⟨_, (decide (a1_3 ≥ (l0_2.length : Int))), (by first | rfl | (simp; done) | (simp [*]; done)), H', ⟨by first | omega | exact Nat.le_refl _⟩, ⟨qf BK223.out⟩, ⟨qf BK224.out⟩, ⟨qf BK225.out⟩, ⟨qW HB.out⟩⟩
  ·rw [if_neg c7] at H
   have c7b0 : (a1_0 == 5) = false := beq_eq_false_iff_ne.mpr c7
   have c7b1 : (a1_0 != 5) = true := bne_iff_ne.mpr c7
   (first | rw [c7b0] | (simp only [i64_w, i32_w]; rw [c7b0]) | skip)
   have H' := Aside0.mk H
   clear H
   have hnb17 := NB224_223.out
   have hnc17 := NB223_224.out
   have hnb18 := NB224_225.out
   have hnc18 := NB225_224.out
   have hcz19_0 : w6.cell? ⟨gb224, 0, none⟩ = some (.int .u8 a1_0) := (blk_cell BK224.out 0).trans rfl
   have hcz19_1 : w6.cell? ⟨gb224, 1, none⟩ = some (.int .u8 a1_1) := (blk_cell BK224.out 1).trans rfl
   have hcz19_2 : w6.cell? ⟨gb224, 2, none⟩ = some (.int .u16 a1_2) := (blk_cell BK224.out 2).trans rfl
   have hcz19_3 : w6.cell? ⟨gb224, 3, none⟩ = some (.int .i64 a1_3) := (blk_cell BK224.out 3).trans rfl
   have hfz19_0 := blk_frozen BK224.out 0
   have hfz19_1 := blk_frozen BK224.out 1
   have hfz19_2 := blk_frozen BK224.out 2
   have hfz19_3 := blk_frozen BK224.out 3
   go_wp2
   go_meet
   case rel => exact ⟨_, (true), (by first | rfl | (simp; done) | (simp [*]; done)), H', ⟨by first | omega | exact Nat.le_refl _⟩, ⟨qf BK223.out⟩, ⟨qf BK224.out⟩, ⟨qf BK225.out⟩, ⟨qW HB.out⟩⟩
 case rest =>
  clear HC3
  try clear c1
  try clear p2
  try clear c3
  try clear c7
  try clear c7b0
  try clear c7b1
  try clear c8
  try clear c8b0
  try clear c9
  try clear c10
  try clear c12
  try clear c13
  try clear c15
  try clear c17
  try clear c18
  try clear hcz11_0
  try clear hcz11_1
  try clear hcz11_2
  try clear hcz11_3
  try clear hcz14_0
  try clear hcz14_1
  try clear hcz14_2
  try clear hcz14_3
  try clear hcz16_0
  try clear hcz16_1
  try clear hcz16_2
  try clear hcz19_0
  try clear hcz19_1
  try clear hcz19_2
  try clear hcz19_3
  try clear hfz11_0
  try clear hfz11_1
  try clear hfz11_2
  try clear hfz11_3
  try clear hfz14_0
  try clear hfz14_1
  try clear hfz14_2
  try clear hfz14_3
  try clear hfz16_0
  try clear hfz16_1
  try clear hfz16_2
  try clear hfz19_0
  try clear hfz19_1
  try clear hfz19_2
  try clear hfz19_3
  obtain ⟨kq, x25_2, rfl, HA, HJ2, BK223, BK224, BK225, HB⟩ := hcut
  cases kq with
  | zero => exact absurd HA.out (by simp [garderoberef17_Return.j0])
  | succ kj2 =>
   have H := HA.out
   clear HA
   simp only [garderoberef17_Return.j0] at H
   by_cases c20 : x25_2 = true
   ·subst c20
    have H1 : (some (([] : List (S56)), ([] : List (S56)), ([] : List Int), 0, 9)) = some (r1, r2, r3, r4, r5) := by rw [if_pos rfl] at H; exact H
    clear H
    have H := H1
    clear H1
    simp only [Option.some.injEq, Prod.mk.injEq] at H
    obtain ⟨rfl, rfl, rfl, rfl, rfl⟩ := H
    have hnb21 := NB225_223.out
    have hnc21 := NB223_225.out
    have hnb22 := NB225_224.out
    have hnc22 := NB224_225.out
    have hcz23_0 : wc.cell? ⟨gb225, 0, none⟩ = some (.slice none 0 0) := (blk_cell BK225.out 0).trans rfl
    have hcz23_1 : wc.cell? ⟨gb225, 1, none⟩ = some (.slice none 0 0) := (blk_cell BK225.out 1).trans rfl
    have hcz23_2 : wc.cell? ⟨gb225, 2, none⟩ = some (.slice none 0 0) := (blk_cell BK225.out 2).trans rfl
    have hfz23_0 := blk_frozen BK225.out 0
    have hfz23_1 := blk_frozen BK225.out 1
    have hfz23_2 := blk_frozen BK225.out 2
    go_wp2
    refine bodyPost_ret (results_ctt rfl _ _ gb225 53 #[.slice none 0 0, .slice none 0 0, .slice none 0 0] (0, 0) _ rfl (by (with_reducible repeat (first | refine blk_drewN ?_ _ | refine blk_drew ?_ | refine blk_alloc ?_ _)); refine blk_put (cs := #[.slice none 0 0, .slice none 0 0, .slice none 0 0]) ?_ 2 _ rfl; (with_reducible repeat (first | refine blk_drewN ?_ _ | refine blk_drew ?_ | refine blk_alloc ?_ _)); refine blk_put (cs := #[.slice none 0 0, .slice none 0 0, .slice none 0 0]) ?_ 1 _ rfl; (with_reducible repeat (first | refine blk_drewN ?_ _ | refine blk_drew ?_ | refine blk_alloc ?_ _)); refine blk_put (cs := #[.slice none 0 0, .slice none 0 0, .slice none 0 0]) ?_ 0 _ rfl; (with_reducible repeat (first | refine blk_drewN ?_ _ | refine blk_drew ?_ | refine blk_alloc ?_ _)); exact BK225.out) Try.underlying53 rfl (by kernel_rfl)) rfl ?_
    exact ⟨_, _, _, by first | rfl | (simp [errW_none, errW_some] <;> rfl) | (simp [*, errW_none, errW_some] <;> rfl), by first | exact Kd.R_nil _ _ _ _ _ | exact Kd.N_nil _ _ _ _ _ | exact Kd.V_nil _ _ _ _ _ | exact Kd.Q_nil _ _ _ _ _ | exact Kd.S_nil _ _ _ _ _, by first | exact Kd.R_nil _ _ _ _ _ | exact Kd.N_nil _ _ _ _ _ | exact Kd.V_nil _ _ _ _ _ | exact Kd.Q_nil _ _ _ _ _ | exact Kd.S_nil _ _ _ _ _, by first | exact Kd.R_nil _ _ _ _ _ | exact Kd.N_nil _ _ _ _ _ | exact Kd.V_nil _ _ _ _ _ | exact Kd.Q_nil _ _ _ _ _ | exact Kd.S_nil _ _ _ _ _, by repeat (first | (with_reducible first | exact HB.out | apply below_alloc | apply pw_below_drewN | apply below_drew1 | refine below_set ?_ GE223.out | refine below_set ?_ GE224.out | refine below_set ?_ GE225.out) | exact HB.out)⟩
   ·replace c20 := Bool.eq_false_iff.mpr c20
    subst c20
    have H1 : ((garderoberef17_Copy.f l0_0 l0_1 l0_2).bind fun bt226 => (garderoberef17_Return.l0 kj2 0 l0_0 l0_1 l0_2 a1_0 a1_1 a1_2 a1_3 bt226.1 bt226.2.1 bt226.2.2)) = some (r1, r2, r3, r4, r5) := by rw [if_neg (show ¬ (false = true) by decide)] at H; exact H
    clear H
    have H := H1
    clear H1
    replace H := Option.bind_eq_some_iff.mp H
    obtain ⟨⟨t226, t229, t232⟩, A240, H⟩ := H
    replace H : (garderoberef17_Return.l0 kj2 0 l0_0 l0_1 l0_2 a1_0 a1_1 a1_2 a1_3 t226 t229 t232) = some (r1, r2, r3, r4, r5) := H
    have A24 := Aside0.mk A240
    clear A240
    have H' := Aside0.mk H
    clear H
    have hnb25 := NB223_224.out
    have hnc25 := NB224_223.out
    have hnb26 := NB223_225.out
    have hnc26 := NB225_223.out
    have hcz27_0 : wc.cell? ⟨gb223, 0, none⟩ = some (.slice A0_0 l0_0.length c0_0) := (blk_cell BK223.out 0).trans rfl
    have hcz27_1 : wc.cell? ⟨gb223, 1, none⟩ = some (.slice A0_1 l0_1.length c0_1) := (blk_cell BK223.out 1).trans rfl
    have hcz27_2 : wc.cell? ⟨gb223, 2, none⟩ = some (.slice A0_2 l0_2.length c0_2) := (blk_cell BK223.out 2).trans rfl
    have hfz27_0 := blk_frozen BK223.out 0
    have hfz27_1 := blk_frozen BK223.out 1
    have hfz27_2 := blk_frozen BK223.out 2
    go_wp2_with (first | ((with_reducible refine gate_callee (f := 19) rfl ?_); refine goesL_ (some 28) rfl rfl Try.func19 (by kernel_rfl) rfl #[.agg #[.slice A0_0 l0_0.length c0_0, .slice A0_1 l0_1.length c0_1, .slice A0_2 l0_2.length c0_2]] rfl (by (try simp only [List.map_toArray, List.map_cons, List.map_nil]); first | done | rfl | (simp only [List.length_drop, List.length_take]; rfl)) ?_; (with_reducible refine (garderoberef17_Copy.calls _ _ l0_0 _ _ l0_1 _ _ l0_2 t226 t229 t232 _ ?side1 ?side2 ?side3 ?side4 ?side5 ?side6 A24.out).mono ?_); (case side1 => exact qC (Kd.C_below HR0_0.out HB.out)); (case side2 => exact HC0_0.out); (case side3 => exact qC (Kd.C_below HR0_1.out HB.out)); (case side4 => exact HC0_1.out); (case side5 => exact qC (Kd.C_below HR0_2.out HB.out)); (case side6 => exact HC0_2.out); rintro e w28 ⟨v227, v230, v233, rfl, ho0, ho1, ho2, hb⟩; refine ⟨_, rfl, ?_⟩; have n0_ := Aside0.mk (Kd.R_lower (Kd.R_newB ho0 (qb BK224.out)) (below_size (qW HB.out))); have n1_ := Aside0.mk (Kd.R_lower (Kd.R_newB ho1 (qb BK224.out)) (below_size (qW HB.out))); have n2_ := Aside0.mk (Kd.R_lower ho2 (below_size (qW HB.out))); have n3_ := Aside0.mk (blk_below (qb BK223.out) hb); have n4_ := Aside0.mk (blk_below (qb BK224.out) hb); have n5_ := Aside0.mk (blk_below (qb BK225.out) hb); have n6_ := Aside0.mk (below_step (qW HB.out) hb); clear BK223 BK224 BK225 HB; have HO228 := n0_; have HO231 := n1_; have HO234 := n2_; have BK223 := n3_; have BK224 := n4_; have BK225 := n5_; have HB := n6_; clear n0_ n1_ n2_ n3_ n4_ n5_ n6_; (try clear hb); (try clear hb2); (try clear hk); (try clear hi); (try clear ho0); (try clear ho1); (try clear ho2)) | ((with_reducible refine gate_dst (N := 7) rfl ?_); (try (refine gate_guard (by rfl) ?_; dsimp only)); refine box_event ?hg (N := 7) ?hd (cs := #[.slice none 0 0, .slice none 0 0, .slice none 0 0]) (t := 53) ?hr ?_; (case hd => rfl); (case hg => rfl); (case hr => first | (go_simp; done) | (go_simp; rfl)); intro gb235 hg w29 hbox hb; have n0_ := Aside0.mk (Kd.R_below (qR HO228.out) hb); have n1_ := Aside0.mk (Kd.R_below (qR HO231.out) hb); have n2_ := Aside0.mk (Kd.R_below (qR HO234.out) hb); have n3_ := Aside0.mk (blk_below (qb BK223.out) hb); have n4_ := Aside0.mk (blk_below (qb BK224.out) hb); have n5_ := Aside0.mk (blk_below (qb BK225.out) hb); have n6_ := Aside0.mk (below_step (qW HB.out) hb); have n7_ := Aside0.mk (hbox); have n8_ := Aside0.mk ((by rw [hg]; exact (below_size (qW HB.out)) : w.heap.size ≤ gb235)); have n9_ := Aside0.mk ((by rw [hg]; exact (below_size (qW HB.out)) : w.heap.size ≤ gb235)); have n10_ := Aside0.mk ((by rw [hg]; exact Nat.ne_of_lt (blk_lt (qb BK223.out)) : gb223 ≠ gb235)); have n11_ := Aside0.mk ((by rw [hg]; exact Nat.ne_of_gt (blk_lt (qb BK223.out)) : gb235 ≠ gb223)); have n12_ := Aside0.mk ((by rw [hg]; exact Nat.ne_of_lt (blk_lt (qb BK224.out)) : gb224 ≠ gb235)); have n13_ := Aside0.mk ((by rw [hg]; exact Nat.ne_of_gt (blk_lt (qb BK224.out)) : gb235 ≠ gb224)); have n14_ := Aside0.mk ((by rw [hg]; exact Nat.ne_of_lt (blk_lt (qb BK225.out)) : gb225 ≠ gb235)); have n15_ := Aside0.mk ((by rw [hg]; exact Nat.ne_of_gt (blk_lt (qb BK225.out)) : gb235 ≠ gb225)); clear HO228 HO231 HO234 BK223 BK224 BK225 HB; have HO228 := n0_; have HO231 := n1_; have HO234 := n2_; have BK223 := n3_; have BK224 := n4_; have BK225 := n5_; have HB := n6_; have BK235 := n7_; have GW235 := n8_; have GE235 := n9_; have NB223_235 := n10_; have NB235_223 := n11_; have NB224_235 := n12_; have NB235_224 := n13_; have NB225_235 := n14_; have NB235_225 := n15_; clear n0_ n1_ n2_ n3_ n4_ n5_ n6_ n7_ n8_ n9_ n10_ n11_ n12_ n13_ n14_ n15_; clear hb hbox hg; obtain ⟨Ao30, co30, eo30⟩ := Kd.R_slice HO228.out; subst eo30; have hnb31 := NB235_223.out; have hnc31 := NB223_235.out; have hnb32 := NB235_224.out; have hnc32 := NB224_235.out; have hnb33 := NB235_225.out; have hnc33 := NB225_235.out; have hcz34_0 : w29.cell? ⟨gb235, 0, none⟩ = some (.slice none 0 0) := (blk_cell BK235.out 0).trans rfl; have hcz34_1 : w29.cell? ⟨gb235, 1, none⟩ = some (.slice none 0 0) := (blk_cell BK235.out 1).trans rfl; have hcz34_2 : w29.cell? ⟨gb235, 2, none⟩ = some (.slice none 0 0) := (blk_cell BK235.out 2).trans rfl; have hfz34_0 := blk_frozen BK235.out 0; have hfz34_1 := blk_frozen BK235.out 1; have hfz34_2 := blk_frozen BK235.out 2; obtain ⟨Ao35, co35, eo35⟩ := Kd.R_slice HO231.out; subst eo35; obtain ⟨Ao36, co36, eo36⟩ := Kd.R_slice HO234.out; subst eo36))
    go_loopg [8] kj2 (fun kq v8 w' => ∃ (x8_2 : Int) (x225000_2 : Int) (x225001_2 : Int) (x225002_2 : Int) (x225003_2 : Int) (x236000_2 : List (S56)) (x236001_2 : List (S56)) (u236000 : Value) (u236001 : Value), v8 = .int .i64 x8_2 ∧ Aside0 (garderoberef17_Return.l0 kq x8_2 l0_0 l0_1 l0_2 x225000_2 x225001_2 x225002_2 x225003_2 x236000_2 x236001_2 t232 = some (r1, r2, r3, r4, r5)) ∧ Aside0 (kq ≤ kj2) ∧ Aside0 (Kd.R k56 56 w' w.heap.size (fun k_ => some k_ ≠ (u236001 : Value).ownBlock ∧ k_ ≠ gb224) u236000 x236000_2) ∧ Aside0 (Kd.R k56 56 w' w.heap.size (fun k_ => some k_ ≠ (u236000 : Value).ownBlock ∧ k_ ≠ gb224) u236001 x236001_2) ∧ Aside0 (Kd.R (Kd.int .i64) 3 w' w.heap.size (fun _ => True) (.slice Ao36 t232.length co36) t232) ∧ Aside0 (w'.heap[gb223]? = some (.cells #[(.slice A0_0 l0_0.length c0_0), (.slice A0_1 l0_1.length c0_1), (.slice A0_2 l0_2.length c0_2)] 53 (0, 0))) ∧ Aside0 (w'.heap[gb224]? = some (.cells #[.int .u8 x225000_2, .int .u8 x225001_2, .int .u16 x225002_2, .int .i64 x225003_2] 56 (0, 0))) ∧ Aside0 (w'.heap[gb225]? = some (.cells #[(.slice none 0 0), (.slice none 0 0), (.slice none 0 0)] 53 (0, 0))) ∧ Aside0 (w'.heap[gb235]? = some (.cells #[u236000, u236001, (.slice Ao36 t232.length co36)] 53 (0, 0))) ∧ Aside0 (Below w.heap.size w w'))
    case atStart => exact ⟨(0), (a1_0), (a1_1), (a1_2), (a1_3), (t226), (t229), (.slice Ao30 t226.length co30), (.slice Ao35 t229.length co35), (by first | rfl | (simp; done) | (simp [*]; done)), H', ⟨Nat.le_refl _⟩, ⟨by (with_reducible repeat (first | apply Kd.R_alloc | apply Kd.R_drewN | apply Kd.R_drew)); exact Kd.R_mono (Kd.R_far (p := ⟨gb235, 2, none⟩) (Kd.R_far (p := ⟨gb235, 1, none⟩) (Kd.R_far (p := ⟨gb235, 0, none⟩) (Kd.R_types HO228.out BK235.out (by decide)) (fun _ hk => hk.2) (.slice Ao30 t226.length co30)) (fun _ hk => hk.2) (.slice Ao35 t229.length co35)) (fun _ hk => hk.2) (.slice Ao36 t232.length co36)) (fun _ hk => ⟨hk.1.1, hk.1.2⟩)⟩, ⟨by (with_reducible repeat (first | apply Kd.R_alloc | apply Kd.R_drewN | apply Kd.R_drew)); exact Kd.R_mono (Kd.R_far (p := ⟨gb235, 2, none⟩) (Kd.R_far (p := ⟨gb235, 1, none⟩) (Kd.R_far (p := ⟨gb235, 0, none⟩) (Kd.R_types HO231.out BK235.out (by decide)) (fun _ hk => hk.2) (.slice Ao30 t226.length co30)) (fun _ hk => hk.2) (.slice Ao35 t229.length co35)) (fun _ hk => hk.2) (.slice Ao36 t232.length co36)) (fun _ hk => ⟨hk.1.1, hk.1.2⟩)⟩, ⟨by (with_reducible repeat (first | apply Kd.R_alloc | apply Kd.R_drewN | apply Kd.R_drew)); exact Kd.R_mono (Kd.R_far (p := ⟨gb235, 2, none⟩) (Kd.R_far (p := ⟨gb235, 1, none⟩) (Kd.R_far (p := ⟨gb235, 0, none⟩) (Kd.R_types HO234.out BK235.out (by decide)) (fun _ hk => hk.2) (.slice Ao30 t226.length co30)) (fun _ hk => hk.2) (.slice Ao35 t229.length co35)) (fun _ hk => hk.2) (.slice Ao36 t232.length co36)) (fun _ hk => trivial)⟩, ⟨qf BK223.out⟩, ⟨qf BK224.out⟩, ⟨qf BK225.out⟩, ⟨by (with_reducible repeat (first | refine blk_drewN ?_ _ | refine blk_drew ?_ | refine blk_alloc ?_ _)); refine blk_put (cs := #[.slice Ao30 t226.length co30, .slice Ao35 t229.length co35, .slice none 0 0]) ?_ 2 _ rfl; (with_reducible repeat (first | refine blk_drewN ?_ _ | refine blk_drew ?_ | refine blk_alloc ?_ _)); refine blk_put (cs := #[.slice Ao30 t226.length co30, .slice none 0 0, .slice none 0 0]) ?_ 1 _ rfl; (with_reducible repeat (first | refine blk_drewN ?_ _ | refine blk_drew ?_ | refine blk_alloc ?_ _)); refine blk_put (cs := #[.slice none 0 0, .slice none 0 0, .slice none 0 0]) ?_ 0 _ rfl; (with_reducible repeat (first | refine blk_drewN ?_ _ | refine blk_drew ?_ | refine blk_alloc ?_ _)); exact BK235.out⟩, ⟨qW HB.out⟩⟩
    case round =>
     clear H'
     try clear c1
     try clear c2
     try clear p2
     try clear c3
     try clear c7
     try clear c7b0
     try clear c7b1
     try clear c8
     try clear c8b0
     try clear c9
     try clear c10
     try clear c12
     try clear c13
     try clear c15
     try clear c17
     try clear c18
     try clear c19
     try clear c20
     try clear c21
     try clear c22
     try clear c25
     try clear c26
     try clear c31
     try clear c32
     try clear c33
     try clear hcz11_0
     try clear hcz11_1
     try clear hcz11_2
     try clear hcz11_3
     try clear hcz14_0
     try clear hcz14_1
     try clear hcz14_2
     try clear hcz14_3
     try clear hcz16_0
     try clear hcz16_1
     try clear hcz16_2
     try clear hcz19_0
     try clear hcz19_1
     try clear hcz19_2
     try clear hcz19_3
     try clear hcz23_0
     try clear hcz23_1
     try clear hcz23_2
     try clear hcz27_0
     try clear hcz27_1
     try clear hcz27_2
     try clear hcz34_0
     try clear hcz34_1
     try clear hcz34_2
     try clear hfz11_0
     try clear hfz11_1
     try clear hfz11_2
     try clear hfz11_3
     try clear hfz14_0
     try clear hfz14_1
     try clear hfz14_2
     try clear hfz14_3
     try clear hfz16_0
     try clear hfz16_1
     try clear hfz16_2
     try clear hfz19_0
     try clear hfz19_1
     try clear hfz19_2
     try clear hfz19_3
     try clear hfz23_0
     try clear hfz23_1
     try clear hfz23_2
     try clear hfz27_0
     try clear hfz27_1
     try clear hfz27_2
     try clear hfz34_0
     try clear hfz34_1
     try clear hfz34_2
     try clear p2
     obtain ⟨x8_2, x225000_2, x225001_2, x225002_2, x225003_2, x236000_2, x236001_2, u236000, u236001, rfl, HA, HK2, HO_236000, HO_236001, HO_236002, BK223, BK224, BK225, BK235, HB⟩ := hrel
     cases gk with
     | zero => exact absurd HA.out (by simp [garderoberef17_Return.l0])
     | succ k2 =>
      have H := HA.out
      clear HA
      simp only [garderoberef17_Return.l0] at H
      by_cases c37 : x8_2 < (x236000_2.length : Int)
      ·rw [if_pos c37] at H
       have c37b0 : decide (x8_2 < (x236000_2.length : Int)) = true := decide_eq_true c37
       clear c37
       by_cases c38 : 0 ≤ x8_2
       ·rw [if_pos c38] at H
        have c38b0 : decide (0 ≤ x8_2) = true := decide_eq_true c38
        clear c38
        by_cases c39 : ((rd_T56 x236000_2 x8_2).f0) = 5
        ·rw [if_pos c39] at H
         have c39b0 : (((rd_T56 x236000_2 x8_2).f0) == 5) = true := beq_iff_eq.mpr c39
         have c39b1 : (((rd_T56 x236000_2 x8_2).f0) != 5) = false := bne_eq_false_iff_eq.mpr c39
         clear c39
         by_cases c40 : ((rd_T56 x236000_2 x8_2).f2) ≥ x225003_2
         ·rw [if_pos c40] at H
          have c40b0 : decide (x225003_2 ≤ ((rd_T56 x236000_2 x8_2).f2)) = true := decide_eq_true c40
          clear c40
          replace H := Option.bind_eq_some_iff.mp H
          obtain ⟨⟨t238, t239, t240, t241⟩, A410, H⟩ := H
          replace H : (garderoberef17_Return.l0 k2 (wrap64 (x8_2 + 1)) l0_0 l0_1 l0_2 x225000_2 x225001_2 x225002_2 x225003_2 (x236000_2.set (x8_2 : Int).toNat (⟨t238, (⟨t239, t240⟩ : S32), t241⟩ : S56)) x236001_2 t232) = some (r1, r2, r3, r4, r5) := H
          have A41 := Aside0.mk A410
          clear A410
          obtain ⟨y242, hy242⟩ : ∃ y_ : List (S56), y_ = (x236000_2.set (x8_2 : Int).toNat (⟨t238, (⟨t239, t240⟩ : S32), t241⟩ : S56)) := ⟨_, rfl⟩
          replace H : (garderoberef17_Return.l0 k2 (wrap64 (x8_2 + 1)) l0_0 l0_1 l0_2 x225000_2 x225001_2 x225002_2 x225003_2 y242 x236001_2 t232) = some (r1, r2, r3, r4, r5) := by first | (rw [hy242]; with_reducible exact H) | (have H2_ := (Option.bind_some _ _).symm.trans H; rw [hy242]; with_reducible exact H2_) | (have H2_ := (Option.bind_some _ _).symm.trans H; with_reducible exact H2_) | with_reducible exact H | (rw [hy242]; exact H) | exact H
          have Ny242 := Aside0.mk hy242
          clear hy242
          have H' := Aside0.mk H
          clear H
          have hnb43 := NB235_223.out
          have hnc43 := NB223_235.out
          have hnb44 := NB235_224.out
          have hnc44 := NB224_235.out
          have hnb45 := NB235_225.out
          have hnc45 := NB225_235.out
          have hcz46_0 : wr.cell? ⟨gb235, 0, none⟩ = some (u236000) := (blk_cell BK235.out 0).trans rfl
          have hcz46_1 : wr.cell? ⟨gb235, 1, none⟩ = some (u236001) := (blk_cell BK235.out 1).trans rfl
          have hcz46_2 : wr.cell? ⟨gb235, 2, none⟩ = some (.slice Ao36 t232.length co36) := (blk_cell BK235.out 2).trans rfl
          have hfz46_0 := blk_frozen BK235.out 0
          have hfz46_1 := blk_frozen BK235.out 1
          have hfz46_2 := blk_frozen BK235.out 2
          obtain ⟨Ao47, co47, eo47⟩ := Kd.R_slice HO_236000.out
          subst eo47
          try go_wp2
          have n0_ := Aside0.mk (Kd.R_drew HO_236000.out)
          have n1_ := Aside0.mk (Kd.R_drew HO_236001.out)
          have n2_ := Aside0.mk (Kd.R_drew HO_236002.out)
          have n3_ := Aside0.mk (blk_drew BK223.out)
          have n4_ := Aside0.mk (blk_drew BK224.out)
          have n5_ := Aside0.mk (blk_drew BK225.out)
          have n6_ := Aside0.mk (blk_drew BK235.out)
          have n7_ := Aside0.mk (below_drew1 HB.out)
          clear HO_236000
          clear HO_236001
          clear HO_236002
          clear BK223
          clear BK224
          clear BK225
          clear BK235
          clear HB
          have HO_236000 := n0_
          have HO_236001 := n1_
          have HO_236002 := n2_
          have BK223 := n3_
          have BK224 := n4_
          have BK225 := n5_
          have BK235 := n6_
          have HB := n7_
          clear n0_ n1_ n2_ n3_ n4_ n5_ n6_ n7_
          have p236 : 0 ≤ (x8_2 : Int) := of_decide_eq_true (by first | (with_reducible assumption) | assumption)
          have q236 : x8_2 < (x236000_2.length : Int) := of_decide_eq_true (by first | (with_reducible assumption) | assumption)
          obtain ⟨ad236, e236, hx236_0, hx236_1, hx236_2, hx236_3⟩ := at_T56 (Kd.R_reads' HO_236000.out).2.2 x8_2 p236 q236
          cases e236
          replace p236 := eq_true p236
          replace q236 := eq_true q236
          have p237 : 0 ≤ (x8_2 : Int) := of_decide_eq_true (by first | (with_reducible assumption) | assumption)
          have q237 : x8_2 < (x236000_2.length : Int) := of_decide_eq_true (by first | (with_reducible assumption) | assumption)
          obtain ⟨ad237, e237, hx237_0, hx237_1, hx237_2, hx237_3⟩ := at_T56 (Kd.R_reads' HO_236000.out).2.2 x8_2 p237 q237
          obtain rfl : ad236 = ad237 := (by injection e237)
          replace p237 := eq_true p237
          replace q237 := eq_true q237
          refine start_ (n := 18) (S := fun w' => w'.cell? ⟨gb235, 0, none⟩ = some (.slice (some ad236) x236000_2.length co47) ∧ w'.cell? ⟨gb235, 1, none⟩ = some (u236001) ∧ w'.cell? ⟨gb235, 2, none⟩ = some (.slice Ao36 t232.length co36) ∧ w'.cell? ⟨gb224, 0, none⟩ = some (.int .u8 x225000_2) ∧ w'.cell? ⟨gb224, 1, none⟩ = some (.int .u8 x225001_2) ∧ w'.cell? ⟨gb224, 2, none⟩ = some (.int .u16 x225002_2) ∧ w'.cell? ⟨gb224, 3, none⟩ = some (.int .i64 x225003_2) ∧ w'.cell? (ad236.add ((x8_2).toNat * 4)) = some (.int .u8 ((rd_T56 x236000_2 x8_2).f0)) ∧ w'.cell? ⟨(ad236.add ((x8_2).toNat * 4)).block, (ad236.add ((x8_2).toNat * 4)).off + 1, none⟩ = some (.int .u8 ((rd_T56 x236000_2 x8_2).f1.f0)) ∧ w'.cell? ⟨(ad236.add ((x8_2).toNat * 4)).block, (ad236.add ((x8_2).toNat * 4)).off + 2, none⟩ = some (.int .u16 ((rd_T56 x236000_2 x8_2).f1.f1)) ∧ w'.cell? ⟨(ad236.add ((x8_2).toNat * 4)).block, (ad236.add ((x8_2).toNat * 4)).off + 3, none⟩ = some (.int .i64 ((rd_T56 x236000_2 x8_2).f2)) ∧ w'.cell? (ad236.add ((x8_2).toNat * 4)) = some (.int .u8 ((rd_T56 x236000_2 x8_2).f0)) ∧ w'.cell? ⟨(ad236.add ((x8_2).toNat * 4)).block, (ad236.add ((x8_2).toNat * 4)).off + 1, none⟩ = some (.int .u8 ((rd_T56 x236000_2 x8_2).f1.f0)) ∧ w'.cell? ⟨(ad236.add ((x8_2).toNat * 4)).block, (ad236.add ((x8_2).toNat * 4)).off + 2, none⟩ = some (.int .u16 ((rd_T56 x236000_2 x8_2).f1.f1)) ∧ w'.cell? ⟨(ad236.add ((x8_2).toNat * 4)).block, (ad236.add ((x8_2).toNat * 4)).off + 3, none⟩ = some (.int .i64 ((rd_T56 x236000_2 x8_2).f2))) (ds := []) #[false, false, false, false, false, false, false, false, false, false, false, false, false, false, false, false, false, false] (by kernel_rfl) rfl rfl ⟨(blk_cell BK235.out 0).trans rfl, (blk_cell BK235.out 1).trans rfl, (blk_cell BK235.out 2).trans rfl, (blk_cell BK224.out 0).trans rfl, (blk_cell BK224.out 1).trans rfl, (blk_cell BK224.out 2).trans rfl, (blk_cell BK224.out 3).trans rfl, hx236_0, hx236_1, hx236_2, hx236_3, hx237_0, hx237_1, hx237_2, hx237_3⟩ (fun hHeld => ?_); refine with_tabW garderoberef17_Return.tab7 garderoberef17_Return.bits7 (fun HT_ HW_ => ?_)
          generalize wr.drew = w48 at HO_236000 HO_236001 HO_236002 BK223 BK224 BK225 BK235 HB hx236_0 hx236_1 hx236_2 hx236_3 hx237_0 hx237_1 hx237_2 hx237_3 hHeld ⊢
          refine pure_ (i := 0) (N := some 36) (v := ?_) (a' := ?_) #[true, false, false, false, false, false, false, false, false, false, false, false, false, false, false, false, false, false] rfl rfl (any_of HT_.out (by kernel_rfl)) (fun _ _ _ h => h) (Or.inl ⟨by rfl, ?_⟩) ?_ ?_
          rotate_left
          ·intro w'
           go_simp
           with_reducible rfl
          rotate_left
          ·simp only [Act.put, List.setIfInBounds_toArray, List.set_cons_zero, List.set_cons_succ, i64_w, i32_w]
           rfl
          refine pure_ (i := 2) (N := some 38) (v := ?_) (a' := ?_) #[true, false, true, false, false, false, false, false, false, false, false, false, false, false, false, false, false, false] rfl rfl (any_of HT_.out (by kernel_rfl)) (fun _ _ _ h => h) (Or.inl ⟨by rfl, ?_⟩) ?_ ?_
          rotate_left
          ·intro w'
           go_simp
           with_reducible rfl
          rotate_left
          ·simp only [Act.put, List.setIfInBounds_toArray, List.set_cons_zero, List.set_cons_succ, i64_w, i32_w]
           rfl
          refine take_ (i := 1) (N := some 37) (v := ?_) (a' := ?_) #[true, true, true, false, false, false, false, false, false, false, false, false, false, false, false, false, false, false] rfl rfl (take_ofW HT_.out HW_.out (by kernel_rfl)) (fun _ _ _ h => h) (Or.inl ⟨by rfl, ?_⟩) hHeld ?_ ?_
          rotate_left
          ·rintro w' ⟨s0, s1, s2, s3, s4, s5, s6, s7, s8, s9, s10, s11, s12, s13, s14⟩
           (try simp only [Int.toNat_natCast] at s0 s1 s2 s3 s4 s5 s6 s7 s8 s9 s10 s11 s12 s13 s14)
           go_simp
           with_reducible rfl
          rotate_left
          ·simp only [Act.put, List.setIfInBounds_toArray, List.set_cons_zero, List.set_cons_succ, i64_w, i32_w]
           rfl
          refine pure_ (i := 3) (N := some 39) (v := ?_) (a' := ?_) #[true, true, true, true, false, false, false, false, false, false, false, false, false, false, false, false, false, false] rfl rfl (any_of HT_.out (by kernel_rfl)) (fun _ _ _ h => h) (Or.inl ⟨by rfl, ?_⟩) ?_ ?_
          rotate_left
          ·intro w'
           go_simp
           with_reducible rfl
          rotate_left
          ·simp only [Act.put, List.setIfInBounds_toArray, List.set_cons_zero, List.set_cons_succ, i64_w, i32_w]
           rfl
          refine pure_ (i := 4) (N := some 40) (v := ?_) (a' := ?_) #[true, true, true, true, true, false, false, false, false, false, false, false, false, false, false, false, false, false] rfl rfl (any_of HT_.out (by kernel_rfl)) (fun _ _ _ h => h) (Or.inl ⟨by rfl, ?_⟩) ?_ ?_
          rotate_left
          ·intro w'
           go_simp
           with_reducible rfl
          rotate_left
          ·simp only [Act.put, List.setIfInBounds_toArray, List.set_cons_zero, List.set_cons_succ, i64_w, i32_w]
           rfl
          refine take_ (i := 5) (N := some 41) (v := ?_) (a' := ?_) #[true, true, true, true, true, true, false, false, false, false, false, false, false, false, false, false, false, false] rfl rfl (take_ofW HT_.out HW_.out (by kernel_rfl)) (fun _ _ _ h => h) (Or.inl ⟨by rfl, ?_⟩) hHeld ?_ ?_
          rotate_left
          ·rintro w' ⟨s0, s1, s2, s3, s4, s5, s6, s7, s8, s9, s10, s11, s12, s13, s14⟩
           (try simp only [Int.toNat_natCast] at s0 s1 s2 s3 s4 s5 s6 s7 s8 s9 s10 s11 s12 s13 s14)
           go_simp
           with_reducible rfl
          rotate_left
          ·simp only [Act.put, List.setIfInBounds_toArray, List.set_cons_zero, List.set_cons_succ, i64_w, i32_w]
           rfl
          refine pure_ (i := 6) (N := some 42) (v := ?_) (a' := ?_) #[true, true, true, true, true, true, true, false, false, false, false, false, false, false, false, false, false, false] rfl rfl (any_of HT_.out (by kernel_rfl)) (fun _ _ _ h => h) (Or.inl ⟨by rfl, ?_⟩) ?_ ?_
          rotate_left
          ·intro w'
           go_simp
           with_reducible rfl
          rotate_left
          ·simp only [Act.put, List.setIfInBounds_toArray, List.set_cons_zero, List.set_cons_succ, i64_w, i32_w]
           rfl
          refine pure_ (i := 7) (N := some 43) (v := ?_) (a' := ?_) #[true, true, true, true, true, true, true, true, false, false, false, false, false, false, false, false, false, false] rfl rfl (any_of HT_.out (by kernel_rfl)) (fun _ _ _ h => h) (Or.inl ⟨by rfl, ?_⟩) ?_ ?_
          rotate_left
          ·intro w'
           go_simp
           with_reducible rfl
          rotate_left
          ·simp only [Act.put, List.setIfInBounds_toArray, List.set_cons_zero, List.set_cons_succ, i64_w, i32_w]
           rfl
          refine pure_ (i := 8) (N := some 44) (v := ?_) (a' := ?_) #[true, true, true, true, true, true, true, true, true, false, false, false, false, false, false, false, false, false] rfl rfl (any_of HT_.out (by kernel_rfl)) (fun _ _ _ h => h) (Or.inl ⟨by rfl, ?_⟩) ?_ ?_
          rotate_left
          ·intro w'
           go_simp
           with_reducible rfl
          rotate_left
          ·simp only [Act.put, List.setIfInBounds_toArray, List.set_cons_zero, List.set_cons_succ, i64_w, i32_w]
           rfl
          refine pure_ (i := 10) (N := some 46) (v := ?_) (a' := ?_) #[true, true, true, true, true, true, true, true, true, false, true, false, false, false, false, false, false, false] rfl rfl (any_of HT_.out (by kernel_rfl)) (fun _ _ _ h => h) (Or.inl ⟨by rfl, ?_⟩) ?_ ?_
          rotate_left
          ·intro w'
           go_simp
           with_reducible rfl
          rotate_left
          ·simp only [Act.put, List.setIfInBounds_toArray, List.set_cons_zero, List.set_cons_succ, i64_w, i32_w]
           rfl
          refine pure_ (i := 14) (N := some 50) (v := ?_) (a' := ?_) #[true, true, true, true, true, true, true, true, true, false, true, false, false, false, true, false, false, false] rfl rfl (any_of HT_.out (by kernel_rfl)) (fun _ _ _ h => h) (Or.inl ⟨by rfl, ?_⟩) ?_ ?_
          rotate_left
          ·intro w'
           go_simp
           with_reducible rfl
          rotate_left
          ·simp only [Act.put, List.setIfInBounds_toArray, List.set_cons_zero, List.set_cons_succ, i64_w, i32_w]
           rfl
          refine take_ (i := 9) (N := some 45) (v := ?_) (a' := ?_) #[true, true, true, true, true, true, true, true, true, true, true, false, false, false, true, false, false, false] rfl rfl (take_ofW HT_.out HW_.out (by kernel_rfl)) (fun _ _ _ h => h) (Or.inl ⟨by rfl, ?_⟩) hHeld ?_ ?_
          rotate_left
          ·rintro w' ⟨s0, s1, s2, s3, s4, s5, s6, s7, s8, s9, s10, s11, s12, s13, s14⟩
           (try simp only [Int.toNat_natCast] at s0 s1 s2 s3 s4 s5 s6 s7 s8 s9 s10 s11 s12 s13 s14)
           go_simp
           with_reducible rfl
          rotate_left
          ·simp only [Act.put, List.setIfInBounds_toArray, List.set_cons_zero, List.set_cons_succ, i64_w, i32_w]
           rfl
          refine pure_ (i := 11) (N := some 47) (v := ?_) (a' := ?_) #[true, true, true, true, true, true, true, true, true, true, true, true, false, false, true, false, false, false] rfl rfl (any_of HT_.out (by kernel_rfl)) (fun _ _ _ h => h) (Or.inl ⟨by rfl, ?_⟩) ?_ ?_
          rotate_left
          ·intro w'
           go_simp
           with_reducible rfl
          rotate_left
          ·simp only [Act.put, List.setIfInBounds_toArray, List.set_cons_zero, List.set_cons_succ, i64_w, i32_w]
           rfl
          refine pure_ (i := 12) (N := some 48) (v := ?_) (a' := ?_) #[true, true, true, true, true, true, true, true, true, true, true, true, true, false, true, false, false, false] rfl rfl (any_of HT_.out (by kernel_rfl)) (fun _ _ _ h => h) (Or.inl ⟨by rfl, ?_⟩) ?_ ?_
          rotate_left
          ·intro w'
           go_simp
           with_reducible rfl
          rotate_left
          ·simp only [Act.put, List.setIfInBounds_toArray, List.set_cons_zero, List.set_cons_succ, i64_w, i32_w]
           rfl
          refine take_ (i := 13) (N := some 49) (v := ?_) (a' := ?_) #[true, true, true, true, true, true, true, true, true, true, true, true, true, true, true, false, false, false] rfl rfl (take_ofW HT_.out HW_.out (by kernel_rfl)) (fun _ _ _ h => h) (Or.inl ⟨by rfl, ?_⟩) hHeld ?_ ?_
          rotate_left
          ·rintro w' ⟨s0, s1, s2, s3, s4, s5, s6, s7, s8, s9, s10, s11, s12, s13, s14⟩
           (try simp only [Int.toNat_natCast] at s0 s1 s2 s3 s4 s5 s6 s7 s8 s9 s10 s11 s12 s13 s14)
           go_simp
           with_reducible rfl
          rotate_left
          ·simp only [Act.put, List.setIfInBounds_toArray, List.set_cons_zero, List.set_cons_succ, i64_w, i32_w]
           rfl
          refine take_ (i := 15) (N := some 51) (v := ?_) (a' := ?_) #[true, true, true, true, true, true, true, true, true, true, true, true, true, true, true, true, false, false] rfl rfl (take_ofW HT_.out HW_.out (by kernel_rfl)) (fun _ _ _ h => h) (Or.inl ⟨by rfl, ?_⟩) hHeld ?_ ?_
          rotate_left
          ·rintro w' ⟨s0, s1, s2, s3, s4, s5, s6, s7, s8, s9, s10, s11, s12, s13, s14⟩
           (try simp only [Int.toNat_natCast] at s0 s1 s2 s3 s4 s5 s6 s7 s8 s9 s10 s11 s12 s13 s14)
           go_simp
           with_reducible rfl
          rotate_left
          ·simp only [Act.put, List.setIfInBounds_toArray, List.set_cons_zero, List.set_cons_succ, i64_w, i32_w]
           rfl
          refine pure_ (i := 16) (N := some 52) (v := ?_) (a' := ?_) #[true, true, true, true, true, true, true, true, true, true, true, true, true, true, true, true, true, false] rfl rfl (any_of HT_.out (by kernel_rfl)) (fun _ _ _ h => h) (Or.inl ⟨by rfl, ?_⟩) ?_ ?_
          rotate_left
          ·intro w'
           go_simp
           with_reducible rfl
          rotate_left
          ·simp only [Act.put, List.setIfInBounds_toArray, List.set_cons_zero, List.set_cons_succ, i64_w, i32_w]
           rfl
          refine pure_ (i := 17) (N := some 53) (v := ?_) (a' := ?_) #[true, true, true, true, true, true, true, true, true, true, true, true, true, true, true, true, true, true] rfl rfl (any_of HT_.out (by kernel_rfl)) (fun _ _ _ h => h) (Or.inl ⟨by rfl, ?_⟩) ?_ ?_
          rotate_left
          ·intro w'
           go_simp
           with_reducible rfl
          rotate_left
          ·simp only [Act.put, List.setIfInBounds_toArray, List.set_cons_zero, List.set_cons_succ, i64_w, i32_w]
           rfl
          refine done_ (done_of HT_.out (by kernel_rfl)) ?_
          try go_wp2
          have n0_ := Aside0.mk (Kd.R_drew HO_236000.out)
          have n1_ := Aside0.mk (Kd.R_drew HO_236001.out)
          have n2_ := Aside0.mk (Kd.R_drew HO_236002.out)
          have n3_ := Aside0.mk (blk_drew BK223.out)
          have n4_ := Aside0.mk (blk_drew BK224.out)
          have n5_ := Aside0.mk (blk_drew BK225.out)
          have n6_ := Aside0.mk (blk_drew BK235.out)
          have n7_ := Aside0.mk (below_drew1 HB.out)
          clear HO_236000
          clear HO_236001
          clear HO_236002
          clear BK223
          clear BK224
          clear BK225
          clear BK235
          clear HB
          have HO_236000 := n0_
          have HO_236001 := n1_
          have HO_236002 := n2_
          have BK223 := n3_
          have BK224 := n4_
          have BK225 := n5_
          have BK235 := n6_
          have HB := n7_
          clear n0_ n1_ n2_ n3_ n4_ n5_ n6_ n7_
          refine start_ (n := 6) (S := fun w' => w'.cell? ⟨gb235, 0, none⟩ = some (.slice (some ad236) x236000_2.length co47) ∧ w'.cell? ⟨gb235, 1, none⟩ = some (u236001) ∧ w'.cell? ⟨gb235, 2, none⟩ = some (.slice Ao36 t232.length co36)) (ds := [5]) #[false, false, false, false, false, false] (by kernel_rfl) rfl rfl ⟨(blk_cell BK235.out 0).trans rfl, (blk_cell BK235.out 1).trans rfl, (blk_cell BK235.out 2).trans rfl⟩ (fun hHeld => ?_)
          generalize w48.drew = w49 at HO_236000 HO_236001 HO_236002 BK223 BK224 BK225 BK235 HB hHeld ⊢
          refine pure_ (i := 0) (N := some 54) (v := ?_) (a' := ?_) #[true, false, false, false, false, false] rfl rfl (by kernel_rfl) (fun _ _ _ h => h) (Or.inl ⟨by rfl, ?_⟩) ?_ ?_
          rotate_left
          ·intro w'
           go_simp
           with_reducible rfl
          rotate_left
          ·simp only [Act.put, List.setIfInBounds_toArray, List.set_cons_zero, List.set_cons_succ, i64_w, i32_w]
           rfl
          refine pure_ (i := 2) (N := some 56) (v := ?_) (a' := ?_) #[true, false, true, false, false, false] rfl rfl (by kernel_rfl) (fun _ _ _ h => h) (Or.inl ⟨by rfl, ?_⟩) ?_ ?_
          rotate_left
          ·intro w'
           go_simp
           with_reducible rfl
          rotate_left
          ·simp only [Act.put, List.setIfInBounds_toArray, List.set_cons_zero, List.set_cons_succ, i64_w, i32_w]
           rfl
          refine take_ (i := 1) (N := some 55) (v := ?_) (a' := ?_) #[true, true, true, false, false, false] rfl rfl (by kernel_rfl) (fun _ _ _ h => h) (Or.inl ⟨by rfl, ?_⟩) hHeld ?_ ?_
          rotate_left
          ·rintro w' ⟨s0, s1, s2⟩
           (try simp only [Int.toNat_natCast] at s0 s1 s2)
           go_simp
           with_reducible rfl
          rotate_left
          ·simp only [Act.put, List.setIfInBounds_toArray, List.set_cons_zero, List.set_cons_succ, i64_w, i32_w]
           rfl
          refine one_ (i := 3) (N := some 57) #[true, true, true, true, false, false] rfl rfl (by kernel_rfl) (by decide) (fun K hK => ?_)
          refine goes_ Try.func32 (by kernel_rfl) rfl #[] (by rfl) rfl rfl (by (try simp only [List.map_toArray, List.map_cons, List.map_nil]); first | done | rfl | (simp only [List.length_drop, List.length_take]; rfl)) ?_
          with_reducible refine (garderoberef16_None.calls  t238 t239 t240 t241 _ A41.out).mono ?_
          rintro e w50 ⟨rfl, hb⟩
          refine ⟨_, rfl, ?_⟩
          have n0_ := Aside0.mk (Kd.R_below (qR HO_236000.out) hb)
          have n1_ := Aside0.mk (Kd.R_below (qR HO_236001.out) hb)
          have n2_ := Aside0.mk (Kd.R_below (qR HO_236002.out) hb)
          have n3_ := Aside0.mk (blk_below (qb BK223.out) hb)
          have n4_ := Aside0.mk (blk_below (qb BK224.out) hb)
          have n5_ := Aside0.mk (blk_below (qb BK225.out) hb)
          have n6_ := Aside0.mk (blk_below (qb BK235.out) hb)
          have n7_ := Aside0.mk (below_step (qW HB.out) hb)
          clear HO_236000
          clear HO_236001
          clear HO_236002
          clear BK223
          clear BK224
          clear BK225
          clear BK235
          clear HB
          have HO_236000 := n0_
          have HO_236001 := n1_
          have HO_236002 := n2_
          have BK223 := n3_
          have BK224 := n4_
          have BK225 := n5_
          have BK235 := n6_
          have HB := n7_
          clear n0_ n1_ n2_ n3_ n4_ n5_ n6_ n7_
          (try clear hb)
          (try clear hb2)
          (try clear hk)
          (try clear hi)
          have p42 : 0 ≤ (x8_2 : Int) := of_decide_eq_true (by first | (with_reducible assumption) | assumption)
          have q42 : (x8_2 : Int) < ((x236000_2.length : Int) : Int) := of_decide_eq_true (by first | (with_reducible assumption) | assumption)
          obtain ⟨go42, co42, eo42, gb42, gl42, cl42, HG42⟩ := Kd.R_form HO_236000.out (by omega)
          (first | cases eo42 | (injection eo42 with ea_ en_ ec_; (first | subst ea_ | (injection ea_ with ea_; subst ea_)); subst ec_; clear en_))
          have GB42 := Aside0.mk gb42
          have GG42 := Aside0.mk HG42
          clear gb42 gl42 HG42
          (first | simp only [add_plain] at hx236_0 | skip)
          (first | simp only [add_plain] at hx236_1 | skip)
          (first | simp only [add_plain] at hx236_2 | skip)
          (first | simp only [add_plain] at hx236_3 | skip)
          (first | simp only [add_plain] at hx237_0 | skip)
          (first | simp only [add_plain] at hx237_1 | skip)
          (first | simp only [add_plain] at hx237_2 | skip)
          (first | simp only [add_plain] at hx237_3 | skip)
          obtain ⟨ce42, hcl42, hM42, hcc42, hfr42⟩ := Kd.R_elem HO_236000.out z56 (x8_2 : Int) p42 q42
          obtain rfl := k56_openM hM42
          have hx42_0 : World.cell? _ ⟨go42, (x8_2 : Int).toNat * 4, none⟩ = some (.int .u8 ((rd_T56 x236000_2 x8_2).f0)) := hcc42 0 _ rfl
          have hx42_1 : World.cell? _ ⟨go42, (x8_2 : Int).toNat * 4 + 1, none⟩ = some (.int .u8 ((rd_T56 x236000_2 x8_2).f1.f0)) := hcc42 1 _ rfl
          have hx42_2 : World.cell? _ ⟨go42, (x8_2 : Int).toNat * 4 + 2, none⟩ = some (.int .u16 ((rd_T56 x236000_2 x8_2).f1.f1)) := hcc42 2 _ rfl
          have hx42_3 : World.cell? _ ⟨go42, (x8_2 : Int).toNat * 4 + 3, none⟩ = some (.int .i64 ((rd_T56 x236000_2 x8_2).f2)) := hcc42 3 _ rfl
          have hf42_0 : World.frozen? _ ⟨go42, (x8_2 : Int).toNat * 4, none⟩ = false := hfr42 0
          have hf42_1 : World.frozen? _ ⟨go42, (x8_2 : Int).toNat * 4 + 1, none⟩ = false := hfr42 1
          have hf42_2 : World.frozen? _ ⟨go42, (x8_2 : Int).toNat * 4 + 2, none⟩ = false := hfr42 2
          have hf42_3 : World.frozen? _ ⟨go42, (x8_2 : Int).toNat * 4 + 3, none⟩ = false := hfr42 3
          clear hcl42 hcc42 hfr42 hM42
          replace p42 := eq_true p42
          replace q42 := eq_true q42
          obtain ⟨ce51, hcl51, hM51, hcc51, hfr51⟩ := Kd.R_elem HO_236000.out z56 (x8_2 : Int) (of_decide_eq_true (by first | (with_reducible assumption) | assumption)) (by have h_ : (x8_2 : Int) < ((x236000_2.length : Int) : Int) := of_decide_eq_true (by first | (with_reducible assumption) | assumption); first | exact h_ | (have e_ := (Kd.R_reads' HO_236000.out).1; omega) | simpa using h_)
          obtain rfl := k56_openM hM51
          have HP51 := (Kd.R_seg HO_236000.out (x8_2 : Int) (of_decide_eq_true (by first | (with_reducible assumption) | assumption)) (by have h_ : (x8_2 : Int) < ((x236000_2.length : Int) : Int) := of_decide_eq_true (by first | (with_reducible assumption) | assumption); first | exact h_ | (have e_ := (Kd.R_reads' HO_236000.out).1; omega) | simpa using h_) (seg := [.int .u8 t238, .int .u8 t239, .int .u16 t240, .int .i64 t241]) (j := 0) hcl51 hcc51 (show 4 ≤ 4 from by decide) (x' := (⟨t238, (⟨t239, t240⟩ : S32), t241⟩ : S56)) (k56_mkM _ _ _ (⟨t238, (⟨t239, t240⟩ : S32), t241⟩ : S56) ) (fun _ hk => hk)).1
          rw [← Ny242.out] at HP51
          have HQ51 := Aside0.mk HP51
          clear hcl51 hcc51 hfr51 hM51 HP51
          refine hK.out _ _ ⟨(blk_cell BK235.out 0).trans rfl, (blk_cell BK235.out 1).trans rfl, (blk_cell BK235.out 2).trans rfl⟩ (fun hHeld => ?_)
          clear hK K
          refine norm_ (a' := ?_) ?_ ?_
          rotate_left
          ·show Act.put _ (some 57) _ = _
           simp only [Act.put, List.setIfInBounds_toArray, List.set_cons_zero, List.set_cons_succ, i64_w, i32_w]
           rfl
          refine pure_ (i := 4) (N := some 58) (v := ?_) (a' := ?_) #[true, true, true, true, true, false] rfl rfl (by kernel_rfl) (fun _ _ _ h => h) (Or.inl ⟨by rfl, ?_⟩) ?_ ?_
          rotate_left
          ·intro w'
           go_simp
           with_reducible rfl
          rotate_left
          ·simp only [Act.put, List.setIfInBounds_toArray, List.set_cons_zero, List.set_cons_succ, i64_w, i32_w]
           rfl
          refine last_ (i := 5) (N := none) #[true, true, true, true, true, true] rfl rfl (by kernel_rfl) (by decide) (fun K hK => ?_)
          refine skip_ (w1 := ?_) (by rfl) rfl ?_ ?_
          rotate_left
          ·go_simp
           rfl
          refine hK.out _ _ ?_
          clear hK K
          refine done_ (by kernel_rfl) ?_
          try go_wp2
          go_roundg k2
          case measure => have := HJ2.out; have := HK2.out; omega
          case rel => exact ⟨(wrap64 (x8_2 + 1)), (x225000_2), (x225001_2), (x225002_2), (x225003_2), (y242), (x236001_2), (.slice (some ⟨go42, 0, none⟩) x236000_2.length co47), (u236001), (by first | rfl | (simp; done) | (simp [*]; done)), H', ⟨by have := HJ2.out; have := HK2.out; omega⟩, ⟨by (with_reducible repeat (first | apply Kd.R_alloc | apply Kd.R_drewN | apply Kd.R_drew)); exact HQ51.out⟩, ⟨by (with_reducible repeat (first | apply Kd.R_alloc | apply Kd.R_drewN | apply Kd.R_drew)); exact Kd.R_mono (Kd.R_far (p := ⟨go42, (x8_2 : Int).toNat * 4 + 3, none⟩) (Kd.R_far (p := ⟨go42, (x8_2 : Int).toNat * 4 + 2, none⟩) (Kd.R_far (p := ⟨go42, (x8_2 : Int).toNat * 4 + 1, none⟩) (Kd.R_far (p := ⟨go42, (x8_2 : Int).toNat * 4, none⟩) (Kd.R_mono HO_236001.out (fun k_ hk => (⟨hk, fun e_ => hk.1 (by rw [e_]; rfl)⟩ : _ ∧ k_ ≠ go42))) (fun _ hk => hk.2) (.int .u8 t238)) (fun _ hk => hk.2) (.int .u8 t239)) (fun _ hk => hk.2) (.int .u16 t240)) (fun _ hk => hk.2) (.int .i64 t241)) (fun _ hk => ⟨hk.1.1, hk.1.2⟩)⟩, ⟨by (with_reducible repeat (first | apply Kd.R_alloc | apply Kd.R_drewN | apply Kd.R_drew)); exact Kd.R_mono (Kd.R_far (p := ⟨go42, (x8_2 : Int).toNat * 4 + 3, none⟩) (Kd.R_far (p := ⟨go42, (x8_2 : Int).toNat * 4 + 2, none⟩) (Kd.R_far (p := ⟨go42, (x8_2 : Int).toNat * 4 + 1, none⟩) (Kd.R_far (p := ⟨go42, (x8_2 : Int).toNat * 4, none⟩) (Kd.R_types HO_236002.out GG42.out (by decide)) (fun _ hk => hk.2) (.int .u8 t238)) (fun _ hk => hk.2) (.int .u8 t239)) (fun _ hk => hk.2) (.int .u16 t240)) (fun _ hk => hk.2) (.int .i64 t241)) (fun _ hk => trivial)⟩, ⟨by (with_reducible repeat (first | refine blk_drewN ?_ _ | refine blk_drew ?_ | refine blk_alloc ?_ _)); refine blk_far ?_ (by have h_ := Kd.R_ne HO_236000.out BK223.out (by decide); intro e_; exact h_ (by rw [e_]; rfl)) _; (with_reducible repeat (first | refine blk_drewN ?_ _ | refine blk_drew ?_ | refine blk_alloc ?_ _)); refine blk_far ?_ (by have h_ := Kd.R_ne HO_236000.out BK223.out (by decide); intro e_; exact h_ (by rw [e_]; rfl)) _; (with_reducible repeat (first | refine blk_drewN ?_ _ | refine blk_drew ?_ | refine blk_alloc ?_ _)); refine blk_far ?_ (by have h_ := Kd.R_ne HO_236000.out BK223.out (by decide); intro e_; exact h_ (by rw [e_]; rfl)) _; (with_reducible repeat (first | refine blk_drewN ?_ _ | refine blk_drew ?_ | refine blk_alloc ?_ _)); refine blk_far ?_ (by have h_ := Kd.R_ne HO_236000.out BK223.out (by decide); intro e_; exact h_ (by rw [e_]; rfl)) _; (with_reducible repeat (first | refine blk_drewN ?_ _ | refine blk_drew ?_ | refine blk_alloc ?_ _)); exact BK223.out⟩, ⟨by (with_reducible repeat (first | refine blk_drewN ?_ _ | refine blk_drew ?_ | refine blk_alloc ?_ _)); refine blk_far ?_ (by have h_ := Kd.R_away HO_236000.out (fun _ hk => hk.2); intro e_; exact h_ (by rw [e_]; rfl)) _; (with_reducible repeat (first | refine blk_drewN ?_ _ | refine blk_drew ?_ | refine blk_alloc ?_ _)); refine blk_far ?_ (by have h_ := Kd.R_away HO_236000.out (fun _ hk => hk.2); intro e_; exact h_ (by rw [e_]; rfl)) _; (with_reducible repeat (first | refine blk_drewN ?_ _ | refine blk_drew ?_ | refine blk_alloc ?_ _)); refine blk_far ?_ (by have h_ := Kd.R_away HO_236000.out (fun _ hk => hk.2); intro e_; exact h_ (by rw [e_]; rfl)) _; (with_reducible repeat (first | refine blk_drewN ?_ _ | refine blk_drew ?_ | refine blk_alloc ?_ _)); refine blk_far ?_ (by have h_ := Kd.R_away HO_236000.out (fun _ hk => hk.2); intro e_; exact h_ (by rw [e_]; rfl)) _; (with_reducible repeat (first | refine blk_drewN ?_ _ | refine blk_drew ?_ | refine blk_alloc ?_ _)); exact BK224.out⟩, ⟨by (with_reducible repeat (first | refine blk_drewN ?_ _ | refine blk_drew ?_ | refine blk_alloc ?_ _)); refine blk_far ?_ (by have h_ := Kd.R_ne HO_236000.out BK225.out (by decide); intro e_; exact h_ (by rw [e_]; rfl)) _; (with_reducible repeat (first | refine blk_drewN ?_ _ | refine blk_drew ?_ | refine blk_alloc ?_ _)); refine blk_far ?_ (by have h_ := Kd.R_ne HO_236000.out BK225.out (by decide); intro e_; exact h_ (by rw [e_]; rfl)) _; (with_reducible repeat (first | refine blk_drewN ?_ _ | refine blk_drew ?_ | refine blk_alloc ?_ _)); refine blk_far ?_ (by have h_ := Kd.R_ne HO_236000.out BK225.out (by decide); intro e_; exact h_ (by rw [e_]; rfl)) _; (with_reducible repeat (first | refine blk_drewN ?_ _ | refine blk_drew ?_ | refine blk_alloc ?_ _)); refine blk_far ?_ (by have h_ := Kd.R_ne HO_236000.out BK225.out (by decide); intro e_; exact h_ (by rw [e_]; rfl)) _; (with_reducible repeat (first | refine blk_drewN ?_ _ | refine blk_drew ?_ | refine blk_alloc ?_ _)); exact BK225.out⟩, ⟨by (with_reducible repeat (first | refine blk_drewN ?_ _ | refine blk_drew ?_ | refine blk_alloc ?_ _)); refine blk_far ?_ (by have h_ := Kd.R_ne HO_236000.out BK235.out (by decide); intro e_; exact h_ (by rw [e_]; rfl)) _; (with_reducible repeat (first | refine blk_drewN ?_ _ | refine blk_drew ?_ | refine blk_alloc ?_ _)); refine blk_far ?_ (by have h_ := Kd.R_ne HO_236000.out BK235.out (by decide); intro e_; exact h_ (by rw [e_]; rfl)) _; (with_reducible repeat (first | refine blk_drewN ?_ _ | refine blk_drew ?_ | refine blk_alloc ?_ _)); refine blk_far ?_ (by have h_ := Kd.R_ne HO_236000.out BK235.out (by decide); intro e_; exact h_ (by rw [e_]; rfl)) _; (with_reducible repeat (first | refine blk_drewN ?_ _ | refine blk_drew ?_ | refine blk_alloc ?_ _)); refine blk_far ?_ (by have h_ := Kd.R_ne HO_236000.out BK235.out (by decide); intro e_; exact h_ (by rw [e_]; rfl)) _; (with_reducible repeat (first | refine blk_drewN ?_ _ | refine blk_drew ?_ | refine blk_alloc ?_ _)); exact BK235.out⟩, ⟨by repeat (first | (with_reducible first | exact HB.out | apply below_alloc | apply pw_below_drewN | apply below_drew1 | refine below_set ?_ GB42.out | refine below_set ?_ GB42.out | refine below_set ?_ GB42.out | refine below_set ?_ GB42.out | refine below_set ?_ GE223.out | refine below_set ?_ GE224.out | refine below_set ?_ GE225.out | refine below_set ?_ GE235.out) | exact HB.out)⟩⟩
         ·rw [if_neg c40] at H
          have c40b0 : decide (x225003_2 ≤ ((rd_T56 x236000_2 x8_2).f2)) = false := decide_eq_false c40
          clear c40
          have H' := Aside0.mk H
          clear H
          have hnb52 := NB235_223.out
          have hnc52 := NB223_235.out
          have hnb53 := NB235_224.out
          have hnc53 := NB224_235.out
          have hnb54 := NB235_225.out
          have hnc54 := NB225_235.out
          have hcz55_0 : wr.cell? ⟨gb235, 0, none⟩ = some (u236000) := (blk_cell BK235.out 0).trans rfl
          have hcz55_1 : wr.cell? ⟨gb235, 1, none⟩ = some (u236001) := (blk_cell BK235.out 1).trans rfl
          have hcz55_2 : wr.cell? ⟨gb235, 2, none⟩ = some (.slice Ao36 t232.length co36) := (blk_cell BK235.out 2).trans rfl
          have hfz55_0 := blk_frozen BK235.out 0
          have hfz55_1 := blk_frozen BK235.out 1
          have hfz55_2 := blk_frozen BK235.out 2
          obtain ⟨Ao56, co56, eo56⟩ := Kd.R_slice HO_236000.out
          subst eo56
          try go_wp2
          have n0_ := Aside0.mk (Kd.R_drew HO_236000.out)
          have n1_ := Aside0.mk (Kd.R_drew HO_236001.out)
          have n2_ := Aside0.mk (Kd.R_drew HO_236002.out)
          have n3_ := Aside0.mk (blk_drew BK223.out)
          have n4_ := Aside0.mk (blk_drew BK224.out)
          have n5_ := Aside0.mk (blk_drew BK225.out)
          have n6_ := Aside0.mk (blk_drew BK235.out)
          have n7_ := Aside0.mk (below_drew1 HB.out)
          clear HO_236000
          clear HO_236001
          clear HO_236002
          clear BK223
          clear BK224
          clear BK225
          clear BK235
          clear HB
          have HO_236000 := n0_
          have HO_236001 := n1_
          have HO_236002 := n2_
          have BK223 := n3_
          have BK224 := n4_
          have BK225 := n5_
          have BK235 := n6_
          have HB := n7_
          clear n0_ n1_ n2_ n3_ n4_ n5_ n6_ n7_
          have p236 : 0 ≤ (x8_2 : Int) := of_decide_eq_true (by first | (with_reducible assumption) | assumption)
          have q236 : x8_2 < (x236000_2.length : Int) := of_decide_eq_true (by first | (with_reducible assumption) | assumption)
          obtain ⟨ad236, e236, hx236_0, hx236_1, hx236_2, hx236_3⟩ := at_T56 (Kd.R_reads' HO_236000.out).2.2 x8_2 p236 q236
          cases e236
          replace p236 := eq_true p236
          replace q236 := eq_true q236
          have p237 : 0 ≤ (x8_2 : Int) := of_decide_eq_true (by first | (with_reducible assumption) | assumption)
          have q237 : x8_2 < (x236000_2.length : Int) := of_decide_eq_true (by first | (with_reducible assumption) | assumption)
          obtain ⟨ad237, e237, hx237_0, hx237_1, hx237_2, hx237_3⟩ := at_T56 (Kd.R_reads' HO_236000.out).2.2 x8_2 p237 q237
          obtain rfl : ad236 = ad237 := (by injection e237)
          replace p237 := eq_true p237
          replace q237 := eq_true q237
          refine start_ (n := 18) (S := fun w' => w'.cell? ⟨gb235, 0, none⟩ = some (.slice (some ad236) x236000_2.length co56) ∧ w'.cell? ⟨gb235, 1, none⟩ = some (u236001) ∧ w'.cell? ⟨gb235, 2, none⟩ = some (.slice Ao36 t232.length co36) ∧ w'.cell? ⟨gb224, 0, none⟩ = some (.int .u8 x225000_2) ∧ w'.cell? ⟨gb224, 1, none⟩ = some (.int .u8 x225001_2) ∧ w'.cell? ⟨gb224, 2, none⟩ = some (.int .u16 x225002_2) ∧ w'.cell? ⟨gb224, 3, none⟩ = some (.int .i64 x225003_2) ∧ w'.cell? (ad236.add ((x8_2).toNat * 4)) = some (.int .u8 ((rd_T56 x236000_2 x8_2).f0)) ∧ w'.cell? ⟨(ad236.add ((x8_2).toNat * 4)).block, (ad236.add ((x8_2).toNat * 4)).off + 1, none⟩ = some (.int .u8 ((rd_T56 x236000_2 x8_2).f1.f0)) ∧ w'.cell? ⟨(ad236.add ((x8_2).toNat * 4)).block, (ad236.add ((x8_2).toNat * 4)).off + 2, none⟩ = some (.int .u16 ((rd_T56 x236000_2 x8_2).f1.f1)) ∧ w'.cell? ⟨(ad236.add ((x8_2).toNat * 4)).block, (ad236.add ((x8_2).toNat * 4)).off + 3, none⟩ = some (.int .i64 ((rd_T56 x236000_2 x8_2).f2)) ∧ w'.cell? (ad236.add ((x8_2).toNat * 4)) = some (.int .u8 ((rd_T56 x236000_2 x8_2).f0)) ∧ w'.cell? ⟨(ad236.add ((x8_2).toNat * 4)).block, (ad236.add ((x8_2).toNat * 4)).off + 1, none⟩ = some (.int .u8 ((rd_T56 x236000_2 x8_2).f1.f0)) ∧ w'.cell? ⟨(ad236.add ((x8_2).toNat * 4)).block, (ad236.add ((x8_2).toNat * 4)).off + 2, none⟩ = some (.int .u16 ((rd_T56 x236000_2 x8_2).f1.f1)) ∧ w'.cell? ⟨(ad236.add ((x8_2).toNat * 4)).block, (ad236.add ((x8_2).toNat * 4)).off + 3, none⟩ = some (.int .i64 ((rd_T56 x236000_2 x8_2).f2))) (ds := []) #[false, false, false, false, false, false, false, false, false, false, false, false, false, false, false, false, false, false] (by kernel_rfl) rfl rfl ⟨(blk_cell BK235.out 0).trans rfl, (blk_cell BK235.out 1).trans rfl, (blk_cell BK235.out 2).trans rfl, (blk_cell BK224.out 0).trans rfl, (blk_cell BK224.out 1).trans rfl, (blk_cell BK224.out 2).trans rfl, (blk_cell BK224.out 3).trans rfl, hx236_0, hx236_1, hx236_2, hx236_3, hx237_0, hx237_1, hx237_2, hx237_3⟩ (fun hHeld => ?_); refine with_tabW garderoberef17_Return.tab7 garderoberef17_Return.bits7 (fun HT_ HW_ => ?_)
          generalize wr.drew = w57 at HO_236000 HO_236001 HO_236002 BK223 BK224 BK225 BK235 HB hx236_0 hx236_1 hx236_2 hx236_3 hx237_0 hx237_1 hx237_2 hx237_3 hHeld ⊢
          refine pure_ (i := 0) (N := some 36) (v := ?_) (a' := ?_) #[true, false, false, false, false, false, false, false, false, false, false, false, false, false, false, false, false, false] rfl rfl (any_of HT_.out (by kernel_rfl)) (fun _ _ _ h => h) (Or.inl ⟨by rfl, ?_⟩) ?_ ?_
          rotate_left
          ·intro w'
           go_simp
           with_reducible rfl
          rotate_left
          ·simp only [Act.put, List.setIfInBounds_toArray, List.set_cons_zero, List.set_cons_succ, i64_w, i32_w]
           rfl
          refine pure_ (i := 2) (N := some 38) (v := ?_) (a' := ?_) #[true, false, true, false, false, false, false, false, false, false, false, false, false, false, false, false, false, false] rfl rfl (any_of HT_.out (by kernel_rfl)) (fun _ _ _ h => h) (Or.inl ⟨by rfl, ?_⟩) ?_ ?_
          rotate_left
          ·intro w'
           go_simp
           with_reducible rfl
          rotate_left
          ·simp only [Act.put, List.setIfInBounds_toArray, List.set_cons_zero, List.set_cons_succ, i64_w, i32_w]
           rfl
          refine take_ (i := 1) (N := some 37) (v := ?_) (a' := ?_) #[true, true, true, false, false, false, false, false, false, false, false, false, false, false, false, false, false, false] rfl rfl (take_ofW HT_.out HW_.out (by kernel_rfl)) (fun _ _ _ h => h) (Or.inl ⟨by rfl, ?_⟩) hHeld ?_ ?_
          rotate_left
          ·rintro w' ⟨s0, s1, s2, s3, s4, s5, s6, s7, s8, s9, s10, s11, s12, s13, s14⟩
           (try simp only [Int.toNat_natCast] at s0 s1 s2 s3 s4 s5 s6 s7 s8 s9 s10 s11 s12 s13 s14)
           go_simp
           with_reducible rfl
          rotate_left
          ·simp only [Act.put, List.setIfInBounds_toArray, List.set_cons_zero, List.set_cons_succ, i64_w, i32_w]
           rfl
          refine pure_ (i := 3) (N := some 39) (v := ?_) (a' := ?_) #[true, true, true, true, false, false, false, false, false, false, false, false, false, false, false, false, false, false] rfl rfl (any_of HT_.out (by kernel_rfl)) (fun _ _ _ h => h) (Or.inl ⟨by rfl, ?_⟩) ?_ ?_
          rotate_left
          ·intro w'
           go_simp
           with_reducible rfl
          rotate_left
          ·simp only [Act.put, List.setIfInBounds_toArray, List.set_cons_zero, List.set_cons_succ, i64_w, i32_w]
           rfl
          refine pure_ (i := 4) (N := some 40) (v := ?_) (a' := ?_) #[true, true, true, true, true, false, false, false, false, false, false, false, false, false, false, false, false, false] rfl rfl (any_of HT_.out (by kernel_rfl)) (fun _ _ _ h => h) (Or.inl ⟨by rfl, ?_⟩) ?_ ?_
          rotate_left
          ·intro w'
           go_simp
           with_reducible rfl
          rotate_left
          ·simp only [Act.put, List.setIfInBounds_toArray, List.set_cons_zero, List.set_cons_succ, i64_w, i32_w]
           rfl
          refine take_ (i := 5) (N := some 41) (v := ?_) (a' := ?_) #[true, true, true, true, true, true, false, false, false, false, false, false, false, false, false, false, false, false] rfl rfl (take_ofW HT_.out HW_.out (by kernel_rfl)) (fun _ _ _ h => h) (Or.inl ⟨by rfl, ?_⟩) hHeld ?_ ?_
          rotate_left
          ·rintro w' ⟨s0, s1, s2, s3, s4, s5, s6, s7, s8, s9, s10, s11, s12, s13, s14⟩
           (try simp only [Int.toNat_natCast] at s0 s1 s2 s3 s4 s5 s6 s7 s8 s9 s10 s11 s12 s13 s14)
           go_simp
           with_reducible rfl
          rotate_left
          ·simp only [Act.put, List.setIfInBounds_toArray, List.set_cons_zero, List.set_cons_succ, i64_w, i32_w]
           rfl
          refine pure_ (i := 6) (N := some 42) (v := ?_) (a' := ?_) #[true, true, true, true, true, true, true, false, false, false, false, false, false, false, false, false, false, false] rfl rfl (any_of HT_.out (by kernel_rfl)) (fun _ _ _ h => h) (Or.inl ⟨by rfl, ?_⟩) ?_ ?_
          rotate_left
          ·intro w'
           go_simp
           with_reducible rfl
          rotate_left
          ·simp only [Act.put, List.setIfInBounds_toArray, List.set_cons_zero, List.set_cons_succ, i64_w, i32_w]
           rfl
          refine pure_ (i := 7) (N := some 43) (v := ?_) (a' := ?_) #[true, true, true, true, true, true, true, true, false, false, false, false, false, false, false, false, false, false] rfl rfl (any_of HT_.out (by kernel_rfl)) (fun _ _ _ h => h) (Or.inl ⟨by rfl, ?_⟩) ?_ ?_
          rotate_left
          ·intro w'
           go_simp
           with_reducible rfl
          rotate_left
          ·simp only [Act.put, List.setIfInBounds_toArray, List.set_cons_zero, List.set_cons_succ, i64_w, i32_w]
           rfl
          refine pure_ (i := 8) (N := some 44) (v := ?_) (a' := ?_) #[true, true, true, true, true, true, true, true, true, false, false, false, false, false, false, false, false, false] rfl rfl (any_of HT_.out (by kernel_rfl)) (fun _ _ _ h => h) (Or.inl ⟨by rfl, ?_⟩) ?_ ?_
          rotate_left
          ·intro w'
           go_simp
           with_reducible rfl
          rotate_left
          ·simp only [Act.put, List.setIfInBounds_toArray, List.set_cons_zero, List.set_cons_succ, i64_w, i32_w]
           rfl
          refine pure_ (i := 10) (N := some 46) (v := ?_) (a' := ?_) #[true, true, true, true, true, true, true, true, true, false, true, false, false, false, false, false, false, false] rfl rfl (any_of HT_.out (by kernel_rfl)) (fun _ _ _ h => h) (Or.inl ⟨by rfl, ?_⟩) ?_ ?_
          rotate_left
          ·intro w'
           go_simp
           with_reducible rfl
          rotate_left
          ·simp only [Act.put, List.setIfInBounds_toArray, List.set_cons_zero, List.set_cons_succ, i64_w, i32_w]
           rfl
          refine pure_ (i := 14) (N := some 50) (v := ?_) (a' := ?_) #[true, true, true, true, true, true, true, true, true, false, true, false, false, false, true, false, false, false] rfl rfl (any_of HT_.out (by kernel_rfl)) (fun _ _ _ h => h) (Or.inl ⟨by rfl, ?_⟩) ?_ ?_
          rotate_left
          ·intro w'
           go_simp
           with_reducible rfl
          rotate_left
          ·simp only [Act.put, List.setIfInBounds_toArray, List.set_cons_zero, List.set_cons_succ, i64_w, i32_w]
           rfl
          refine take_ (i := 9) (N := some 45) (v := ?_) (a' := ?_) #[true, true, true, true, true, true, true, true, true, true, true, false, false, false, true, false, false, false] rfl rfl (take_ofW HT_.out HW_.out (by kernel_rfl)) (fun _ _ _ h => h) (Or.inl ⟨by rfl, ?_⟩) hHeld ?_ ?_
          rotate_left
          ·rintro w' ⟨s0, s1, s2, s3, s4, s5, s6, s7, s8, s9, s10, s11, s12, s13, s14⟩
           (try simp only [Int.toNat_natCast] at s0 s1 s2 s3 s4 s5 s6 s7 s8 s9 s10 s11 s12 s13 s14)
           go_simp
           with_reducible rfl
          rotate_left
          ·simp only [Act.put, List.setIfInBounds_toArray, List.set_cons_zero, List.set_cons_succ, i64_w, i32_w]
           rfl
          refine pure_ (i := 11) (N := some 47) (v := ?_) (a' := ?_) #[true, true, true, true, true, true, true, true, true, true, true, true, false, false, true, false, false, false] rfl rfl (any_of HT_.out (by kernel_rfl)) (fun _ _ _ h => h) (Or.inl ⟨by rfl, ?_⟩) ?_ ?_
          rotate_left
          ·intro w'
           go_simp
           with_reducible rfl
          rotate_left
          ·simp only [Act.put, List.setIfInBounds_toArray, List.set_cons_zero, List.set_cons_succ, i64_w, i32_w]
           rfl
          refine pure_ (i := 12) (N := some 48) (v := ?_) (a' := ?_) #[true, true, true, true, true, true, true, true, true, true, true, true, true, false, true, false, false, false] rfl rfl (any_of HT_.out (by kernel_rfl)) (fun _ _ _ h => h) (Or.inl ⟨by rfl, ?_⟩) ?_ ?_
          rotate_left
          ·intro w'
           go_simp
           with_reducible rfl
          rotate_left
          ·simp only [Act.put, List.setIfInBounds_toArray, List.set_cons_zero, List.set_cons_succ, i64_w, i32_w]
           rfl
          refine take_ (i := 13) (N := some 49) (v := ?_) (a' := ?_) #[true, true, true, true, true, true, true, true, true, true, true, true, true, true, true, false, false, false] rfl rfl (take_ofW HT_.out HW_.out (by kernel_rfl)) (fun _ _ _ h => h) (Or.inl ⟨by rfl, ?_⟩) hHeld ?_ ?_
          rotate_left
          ·rintro w' ⟨s0, s1, s2, s3, s4, s5, s6, s7, s8, s9, s10, s11, s12, s13, s14⟩
           (try simp only [Int.toNat_natCast] at s0 s1 s2 s3 s4 s5 s6 s7 s8 s9 s10 s11 s12 s13 s14)
           go_simp
           with_reducible rfl
          rotate_left
          ·simp only [Act.put, List.setIfInBounds_toArray, List.set_cons_zero, List.set_cons_succ, i64_w, i32_w]
           rfl
          refine take_ (i := 15) (N := some 51) (v := ?_) (a' := ?_) #[true, true, true, true, true, true, true, true, true, true, true, true, true, true, true, true, false, false] rfl rfl (take_ofW HT_.out HW_.out (by kernel_rfl)) (fun _ _ _ h => h) (Or.inl ⟨by rfl, ?_⟩) hHeld ?_ ?_
          rotate_left
          ·rintro w' ⟨s0, s1, s2, s3, s4, s5, s6, s7, s8, s9, s10, s11, s12, s13, s14⟩
           (try simp only [Int.toNat_natCast] at s0 s1 s2 s3 s4 s5 s6 s7 s8 s9 s10 s11 s12 s13 s14)
           go_simp
           with_reducible rfl
          rotate_left
          ·simp only [Act.put, List.setIfInBounds_toArray, List.set_cons_zero, List.set_cons_succ, i64_w, i32_w]
           rfl
          refine pure_ (i := 16) (N := some 52) (v := ?_) (a' := ?_) #[true, true, true, true, true, true, true, true, true, true, true, true, true, true, true, true, true, false] rfl rfl (any_of HT_.out (by kernel_rfl)) (fun _ _ _ h => h) (Or.inl ⟨by rfl, ?_⟩) ?_ ?_
          rotate_left
          ·intro w'
           go_simp
           with_reducible rfl
          rotate_left
          ·simp only [Act.put, List.setIfInBounds_toArray, List.set_cons_zero, List.set_cons_succ, i64_w, i32_w]
           rfl
          refine pure_ (i := 17) (N := some 53) (v := ?_) (a' := ?_) #[true, true, true, true, true, true, true, true, true, true, true, true, true, true, true, true, true, true] rfl rfl (any_of HT_.out (by kernel_rfl)) (fun _ _ _ h => h) (Or.inl ⟨by rfl, ?_⟩) ?_ ?_
          rotate_left
          ·intro w'
           go_simp
           with_reducible rfl
          rotate_left
          ·simp only [Act.put, List.setIfInBounds_toArray, List.set_cons_zero, List.set_cons_succ, i64_w, i32_w]
           rfl
          refine done_ (done_of HT_.out (by kernel_rfl)) ?_
          try go_wp2
          go_roundg k2
          case measure => have := HJ2.out; have := HK2.out; omega
          case rel => exact ⟨(wrap64 (x8_2 + 1)), (x225000_2), (x225001_2), (x225002_2), (x225003_2), (x236000_2), (x236001_2), (.slice (some ad236) x236000_2.length co56), (u236001), (by first | rfl | (simp; done) | (simp [*]; done)), H', ⟨by have := HJ2.out; have := HK2.out; omega⟩, ⟨by (with_reducible repeat (first | apply Kd.R_alloc | apply Kd.R_drewN | apply Kd.R_drew)); exact HO_236000.out⟩, ⟨by (with_reducible repeat (first | apply Kd.R_alloc | apply Kd.R_drewN | apply Kd.R_drew)); exact HO_236001.out⟩, ⟨by (with_reducible repeat (first | apply Kd.R_alloc | apply Kd.R_drewN | apply Kd.R_drew)); exact HO_236002.out⟩, ⟨qf BK223.out⟩, ⟨qf BK224.out⟩, ⟨qf BK225.out⟩, ⟨qf BK235.out⟩, ⟨qW HB.out⟩⟩
        ·rw [if_neg c39] at H
         have c39b0 : (((rd_T56 x236000_2 x8_2).f0) == 5) = false := beq_eq_false_iff_ne.mpr c39
         have c39b1 : (((rd_T56 x236000_2 x8_2).f0) != 5) = true := bne_iff_ne.mpr c39
         have H' := Aside0.mk H
         clear H
         have hnb58 := NB235_223.out
         have hnc58 := NB223_235.out
         have hnb59 := NB235_224.out
         have hnc59 := NB224_235.out
         have hnb60 := NB235_225.out
         have hnc60 := NB225_235.out
         have hcz61_0 : wr.cell? ⟨gb235, 0, none⟩ = some (u236000) := (blk_cell BK235.out 0).trans rfl
         have hcz61_1 : wr.cell? ⟨gb235, 1, none⟩ = some (u236001) := (blk_cell BK235.out 1).trans rfl
         have hcz61_2 : wr.cell? ⟨gb235, 2, none⟩ = some (.slice Ao36 t232.length co36) := (blk_cell BK235.out 2).trans rfl
         have hfz61_0 := blk_frozen BK235.out 0
         have hfz61_1 := blk_frozen BK235.out 1
         have hfz61_2 := blk_frozen BK235.out 2
         obtain ⟨Ao62, co62, eo62⟩ := Kd.R_slice HO_236000.out
         subst eo62
         try go_wp2
         have n0_ := Aside0.mk (Kd.R_drew HO_236000.out)
         have n1_ := Aside0.mk (Kd.R_drew HO_236001.out)
         have n2_ := Aside0.mk (Kd.R_drew HO_236002.out)
         have n3_ := Aside0.mk (blk_drew BK223.out)
         have n4_ := Aside0.mk (blk_drew BK224.out)
         have n5_ := Aside0.mk (blk_drew BK225.out)
         have n6_ := Aside0.mk (blk_drew BK235.out)
         have n7_ := Aside0.mk (below_drew1 HB.out)
         clear HO_236000
         clear HO_236001
         clear HO_236002
         clear BK223
         clear BK224
         clear BK225
         clear BK235
         clear HB
         have HO_236000 := n0_
         have HO_236001 := n1_
         have HO_236002 := n2_
         have BK223 := n3_
         have BK224 := n4_
         have BK225 := n5_
         have BK235 := n6_
         have HB := n7_
         clear n0_ n1_ n2_ n3_ n4_ n5_ n6_ n7_
         have p236 : 0 ≤ (x8_2 : Int) := of_decide_eq_true (by first | (with_reducible assumption) | assumption)
         have q236 : x8_2 < (x236000_2.length : Int) := of_decide_eq_true (by first | (with_reducible assumption) | assumption)
         obtain ⟨ad236, e236, hx236_0, hx236_1, hx236_2, hx236_3⟩ := at_T56 (Kd.R_reads' HO_236000.out).2.2 x8_2 p236 q236
         cases e236
         replace p236 := eq_true p236
         replace q236 := eq_true q236
         refine start_ (n := 18) (S := fun w' => w'.cell? ⟨gb235, 0, none⟩ = some (.slice (some ad236) x236000_2.length co62) ∧ w'.cell? ⟨gb235, 1, none⟩ = some (u236001) ∧ w'.cell? ⟨gb235, 2, none⟩ = some (.slice Ao36 t232.length co36) ∧ w'.cell? (ad236.add ((x8_2).toNat * 4)) = some (.int .u8 ((rd_T56 x236000_2 x8_2).f0)) ∧ w'.cell? ⟨(ad236.add ((x8_2).toNat * 4)).block, (ad236.add ((x8_2).toNat * 4)).off + 1, none⟩ = some (.int .u8 ((rd_T56 x236000_2 x8_2).f1.f0)) ∧ w'.cell? ⟨(ad236.add ((x8_2).toNat * 4)).block, (ad236.add ((x8_2).toNat * 4)).off + 2, none⟩ = some (.int .u16 ((rd_T56 x236000_2 x8_2).f1.f1)) ∧ w'.cell? ⟨(ad236.add ((x8_2).toNat * 4)).block, (ad236.add ((x8_2).toNat * 4)).off + 3, none⟩ = some (.int .i64 ((rd_T56 x236000_2 x8_2).f2))) (ds := []) #[false, false, false, false, false, false, false, false, false, false, false, false, false, false, false, false, false, false] (by kernel_rfl) rfl rfl ⟨(blk_cell BK235.out 0).trans rfl, (blk_cell BK235.out 1).trans rfl, (blk_cell BK235.out 2).trans rfl, hx236_0, hx236_1, hx236_2, hx236_3⟩ (fun hHeld => ?_); refine with_tabW garderoberef17_Return.tab7 garderoberef17_Return.bits7 (fun HT_ HW_ => ?_)
         generalize wr.drew = w63 at HO_236000 HO_236001 HO_236002 BK223 BK224 BK225 BK235 HB hx236_0 hx236_1 hx236_2 hx236_3 hHeld ⊢
         refine pure_ (i := 0) (N := some 36) (v := ?_) (a' := ?_) #[true, false, false, false, false, false, false, false, false, false, false, false, false, false, false, false, false, false] rfl rfl (any_of HT_.out (by kernel_rfl)) (fun _ _ _ h => h) (Or.inl ⟨by rfl, ?_⟩) ?_ ?_
         rotate_left
         ·intro w'
          go_simp
          with_reducible rfl
         rotate_left
         ·simp only [Act.put, List.setIfInBounds_toArray, List.set_cons_zero, List.set_cons_succ, i64_w, i32_w]
          rfl
         refine pure_ (i := 2) (N := some 38) (v := ?_) (a' := ?_) #[true, false, true, false, false, false, false, false, false, false, false, false, false, false, false, false, false, false] rfl rfl (any_of HT_.out (by kernel_rfl)) (fun _ _ _ h => h) (Or.inl ⟨by rfl, ?_⟩) ?_ ?_
         rotate_left
         ·intro w'
          go_simp
          with_reducible rfl
         rotate_left
         ·simp only [Act.put, List.setIfInBounds_toArray, List.set_cons_zero, List.set_cons_succ, i64_w, i32_w]
          rfl
         refine take_ (i := 1) (N := some 37) (v := ?_) (a' := ?_) #[true, true, true, false, false, false, false, false, false, false, false, false, false, false, false, false, false, false] rfl rfl (take_ofW HT_.out HW_.out (by kernel_rfl)) (fun _ _ _ h => h) (Or.inl ⟨by rfl, ?_⟩) hHeld ?_ ?_
         rotate_left
         ·rintro w' ⟨s0, s1, s2, s3, s4, s5, s6⟩
          (try simp only [Int.toNat_natCast] at s0 s1 s2 s3 s4 s5 s6)
          go_simp
          with_reducible rfl
         rotate_left
         ·simp only [Act.put, List.setIfInBounds_toArray, List.set_cons_zero, List.set_cons_succ, i64_w, i32_w]
          rfl
         refine pure_ (i := 3) (N := some 39) (v := ?_) (a' := ?_) #[true, true, true, true, false, false, false, false, false, false, false, false, false, false, false, false, false, false] rfl rfl (any_of HT_.out (by kernel_rfl)) (fun _ _ _ h => h) (Or.inl ⟨by rfl, ?_⟩) ?_ ?_
         rotate_left
         ·intro w'
          go_simp
          with_reducible rfl
         rotate_left
         ·simp only [Act.put, List.setIfInBounds_toArray, List.set_cons_zero, List.set_cons_succ, i64_w, i32_w]
          rfl
         refine pure_ (i := 4) (N := some 40) (v := ?_) (a' := ?_) #[true, true, true, true, true, false, false, false, false, false, false, false, false, false, false, false, false, false] rfl rfl (any_of HT_.out (by kernel_rfl)) (fun _ _ _ h => h) (Or.inl ⟨by rfl, ?_⟩) ?_ ?_
         rotate_left
         ·intro w'
          go_simp
          with_reducible rfl
         rotate_left
         ·simp only [Act.put, List.setIfInBounds_toArray, List.set_cons_zero, List.set_cons_succ, i64_w, i32_w]
          rfl
         refine take_ (i := 5) (N := some 41) (v := ?_) (a' := ?_) #[true, true, true, true, true, true, false, false, false, false, false, false, false, false, false, false, false, false] rfl rfl (take_ofW HT_.out HW_.out (by kernel_rfl)) (fun _ _ _ h => h) (Or.inl ⟨by rfl, ?_⟩) hHeld ?_ ?_
         rotate_left
         ·rintro w' ⟨s0, s1, s2, s3, s4, s5, s6⟩
          (try simp only [Int.toNat_natCast] at s0 s1 s2 s3 s4 s5 s6)
          go_simp
          with_reducible rfl
         rotate_left
         ·simp only [Act.put, List.setIfInBounds_toArray, List.set_cons_zero, List.set_cons_succ, i64_w, i32_w]
          rfl
         refine pure_ (i := 6) (N := some 42) (v := ?_) (a' := ?_) #[true, true, true, true, true, true, true, false, false, false, false, false, false, false, false, false, false, false] rfl rfl (any_of HT_.out (by kernel_rfl)) (fun _ _ _ h => h) (Or.inl ⟨by rfl, ?_⟩) ?_ ?_
         rotate_left
         ·intro w'
          go_simp
          with_reducible rfl
         rotate_left
         ·simp only [Act.put, List.setIfInBounds_toArray, List.set_cons_zero, List.set_cons_succ, i64_w, i32_w]
          rfl
         refine pure_ (i := 7) (N := some 43) (v := ?_) (a' := ?_) #[true, true, true, true, true, true, true, true, false, false, false, false, false, false, false, false, false, false] rfl rfl (any_of HT_.out (by kernel_rfl)) (fun _ _ _ h => h) (Or.inl ⟨by rfl, ?_⟩) ?_ ?_
         rotate_left
         ·intro w'
          go_simp
          with_reducible rfl
         rotate_left
         ·simp only [Act.put, List.setIfInBounds_toArray, List.set_cons_zero, List.set_cons_succ, i64_w, i32_w]
          rfl
         refine pure_ (i := 8) (N := some 44) (v := undef) (a' := ?_) #[true, true, true, true, true, true, true, true, true, false, false, false, false, false, false, false, false, false] rfl rfl (any_of HT_.out (by kernel_rfl)) (fun _ _ _ h => h) (Or.inr ⟨by rfl, rfl⟩) ?_ ?_
         rotate_left
         ·simp only [Act.put, List.setIfInBounds_toArray, List.set_cons_zero, List.set_cons_succ, i64_w, i32_w]
          rfl
         refine pure_ (i := 9) (N := some 45) (v := undef) (a' := ?_) #[true, true, true, true, true, true, true, true, true, true, false, false, false, false, false, false, false, false] rfl rfl (any_of HT_.out (by kernel_rfl)) (fun _ _ _ h => h) (Or.inr ⟨by rfl, rfl⟩) ?_ ?_
         rotate_left
         ·simp only [Act.put, List.setIfInBounds_toArray, List.set_cons_zero, List.set_cons_succ, i64_w, i32_w]
          rfl
         refine pure_ (i := 10) (N := some 46) (v := undef) (a' := ?_) #[true, true, true, true, true, true, true, true, true, true, true, false, false, false, false, false, false, false] rfl rfl (any_of HT_.out (by kernel_rfl)) (fun _ _ _ h => h) (Or.inr ⟨by rfl, rfl⟩) ?_ ?_
         rotate_left
         ·simp only [Act.put, List.setIfInBounds_toArray, List.set_cons_zero, List.set_cons_succ, i64_w, i32_w]
          rfl
         refine pure_ (i := 11) (N := some 47) (v := undef) (a' := ?_) #[true, true, true, true, true, true, true, true, true, true, true, true, false, false, false, false, false, false] rfl rfl (any_of HT_.out (by kernel_rfl)) (fun _ _ _ h => h) (Or.inr ⟨by rfl, rfl⟩) ?_ ?_
         rotate_left
         ·simp only [Act.put, List.setIfInBounds_toArray, List.set_cons_zero, List.set_cons_succ, i64_w, i32_w]
          rfl
         refine pure_ (i := 12) (N := some 48) (v := undef) (a' := ?_) #[true, true, true, true, true, true, true, true, true, true, true, true, true, false, false, false, false, false] rfl rfl (any_of HT_.out (by kernel_rfl)) (fun _ _ _ h => h) (Or.inr ⟨by rfl, rfl⟩) ?_ ?_
         rotate_left
         ·simp only [Act.put, List.setIfInBounds_toArray, List.set_cons_zero, List.set_cons_succ, i64_w, i32_w]
          rfl
         refine pure_ (i := 13) (N := some 49) (v := undef) (a' := ?_) #[true, true, true, true, true, true, true, true, true, true, true, true, true, true, false, false, false, false] rfl rfl (any_of HT_.out (by kernel_rfl)) (fun _ _ _ h => h) (Or.inr ⟨by rfl, rfl⟩) ?_ ?_
         rotate_left
         ·simp only [Act.put, List.setIfInBounds_toArray, List.set_cons_zero, List.set_cons_succ, i64_w, i32_w]
          rfl
         refine pure_ (i := 14) (N := some 50) (v := undef) (a' := ?_) #[true, true, true, true, true, true, true, true, true, true, true, true, true, true, true, false, false, false] rfl rfl (any_of HT_.out (by kernel_rfl)) (fun _ _ _ h => h) (Or.inr ⟨by rfl, rfl⟩) ?_ ?_
         rotate_left
         ·simp only [Act.put, List.setIfInBounds_toArray, List.set_cons_zero, List.set_cons_succ, i64_w, i32_w]
          rfl
         refine pure_ (i := 15) (N := some 51) (v := undef) (a' := ?_) #[true, true, true, true, true, true, true, true, true, true, true, true, true, true, true, true, false, false] rfl rfl (any_of HT_.out (by kernel_rfl)) (fun _ _ _ h => h) (Or.inr ⟨by rfl, rfl⟩) ?_ ?_
         rotate_left
         ·simp only [Act.put, List.setIfInBounds_toArray, List.set_cons_zero, List.set_cons_succ, i64_w, i32_w]
          rfl
         refine pure_ (i := 16) (N := some 52) (v := undef) (a' := ?_) #[true, true, true, true, true, true, true, true, true, true, true, true, true, true, true, true, true, false] rfl rfl (any_of HT_.out (by kernel_rfl)) (fun _ _ _ h => h) (Or.inr ⟨by rfl, rfl⟩) ?_ ?_
         rotate_left
         ·simp only [Act.put, List.setIfInBounds_toArray, List.set_cons_zero, List.set_cons_succ, i64_w, i32_w]
          rfl
         refine pure_ (i := 17) (N := some 53) (v := ?_) (a' := ?_) #[true, true, true, true, true, true, true, true, true, true, true, true, true, true, true, true, true, true] rfl rfl (any_of HT_.out (by kernel_rfl)) (fun _ _ _ h => h) (Or.inl ⟨by rfl, ?_⟩) ?_ ?_
         rotate_left
         ·intro w'
          go_simp
          with_reducible rfl
         rotate_left
         ·simp only [Act.put, List.setIfInBounds_toArray, List.set_cons_zero, List.set_cons_succ, i64_w, i32_w]
          rfl
         refine done_ (done_of HT_.out (by kernel_rfl)) ?_
         try go_wp2
         go_roundg k2
         case measure => have := HJ2.out; have := HK2.out; omega
         case rel => exact ⟨(wrap64 (x8_2 + 1)), (x225000_2), (x225001_2), (x225002_2), (x225003_2), (x236000_2), (x236001_2), (.slice (some ad236) x236000_2.length co62), (u236001), (by first | rfl | (simp; done) | (simp [*]; done)), H', ⟨by have := HJ2.out; have := HK2.out; omega⟩, ⟨by (with_reducible repeat (first | apply Kd.R_alloc | apply Kd.R_drewN | apply Kd.R_drew)); exact HO_236000.out⟩, ⟨by (with_reducible repeat (first | apply Kd.R_alloc | apply Kd.R_drewN | apply Kd.R_drew)); exact HO_236001.out⟩, ⟨by (with_reducible repeat (first | apply Kd.R_alloc | apply Kd.R_drewN | apply Kd.R_drew)); exact HO_236002.out⟩, ⟨qf BK223.out⟩, ⟨qf BK224.out⟩, ⟨qf BK225.out⟩, ⟨qf BK235.out⟩, ⟨qW HB.out⟩⟩
       ·rw [if_neg c38] at H
        exact absurd H (by simp)
      ·rw [if_neg c37] at H
       have c37b0 : decide (x8_2 < (x236000_2.length : Int)) = false := decide_eq_false c37
       clear c37
       have H' := Aside0.mk H
       clear H
       have hnb64 := NB235_223.out
       have hnc64 := NB223_235.out
       have hnb65 := NB235_224.out
       have hnc65 := NB224_235.out
       have hnb66 := NB235_225.out
       have hnc66 := NB225_235.out
       have hcz67_0 : wr.cell? ⟨gb235, 0, none⟩ = some (u236000) := (blk_cell BK235.out 0).trans rfl
       have hcz67_1 : wr.cell? ⟨gb235, 1, none⟩ = some (u236001) := (blk_cell BK235.out 1).trans rfl
       have hcz67_2 : wr.cell? ⟨gb235, 2, none⟩ = some (.slice Ao36 t232.length co36) := (blk_cell BK235.out 2).trans rfl
       have hfz67_0 := blk_frozen BK235.out 0
       have hfz67_1 := blk_frozen BK235.out 1
       have hfz67_2 := blk_frozen BK235.out 2
       obtain ⟨Ao68, co68, eo68⟩ := Kd.R_slice HO_236000.out
       subst eo68
       go_wp2
       go_loopg [9] k2 (fun kq v9 w' => ∃ (x9_3 : Int) (x225000_3 : Int) (x225001_3 : Int) (x225002_3 : Int) (x225003_3 : Int) (x236000_3 : List (S56)) (x236001_3 : List (S56)) (u236000 : Value) (u236001 : Value), v9 = .int .i64 x9_3 ∧ Aside0 (garderoberef17_Return.l1 kq x9_3 l0_0 l0_1 l0_2 x225000_3 x225001_3 x225002_3 x225003_3 x236000_3 x236001_3 t232 = some (r1, r2, r3, r4, r5)) ∧ Aside0 (kq ≤ k2) ∧ Aside0 (Kd.R k56 56 w' w.heap.size (fun k_ => some k_ ≠ (u236001 : Value).ownBlock ∧ k_ ≠ gb224) u236000 x236000_3) ∧ Aside0 (Kd.R k56 56 w' w.heap.size (fun k_ => some k_ ≠ (u236000 : Value).ownBlock ∧ k_ ≠ gb224) u236001 x236001_3) ∧ Aside0 (Kd.R (Kd.int .i64) 3 w' w.heap.size (fun _ => True) (.slice Ao36 t232.length co36) t232) ∧ Aside0 (w'.heap[gb223]? = some (.cells #[(.slice A0_0 l0_0.length c0_0), (.slice A0_1 l0_1.length c0_1), (.slice A0_2 l0_2.length c0_2)] 53 (0, 0))) ∧ Aside0 (w'.heap[gb224]? = some (.cells #[.int .u8 x225000_3, .int .u8 x225001_3, .int .u16 x225002_3, .int .i64 x225003_3] 56 (0, 0))) ∧ Aside0 (w'.heap[gb225]? = some (.cells #[(.slice none 0 0), (.slice none 0 0), (.slice none 0 0)] 53 (0, 0))) ∧ Aside0 (w'.heap[gb235]? = some (.cells #[u236000, u236001, (.slice Ao36 t232.length co36)] 53 (0, 0))) ∧ Aside0 (Below w.heap.size w w'))
       case atStart => exact ⟨(0), (x225000_2), (x225001_2), (x225002_2), (x225003_2), (x236000_2), (x236001_2), (.slice Ao68 x236000_2.length co68), (u236001), (by first | rfl | (simp; done) | (simp [*]; done)), H', ⟨Nat.le_refl _⟩, ⟨by (with_reducible repeat (first | apply Kd.R_alloc | apply Kd.R_drewN | apply Kd.R_drew)); exact HO_236000.out⟩, ⟨by (with_reducible repeat (first | apply Kd.R_alloc | apply Kd.R_drewN | apply Kd.R_drew)); exact HO_236001.out⟩, ⟨by (with_reducible repeat (first | apply Kd.R_alloc | apply Kd.R_drewN | apply Kd.R_drew)); exact HO_236002.out⟩, ⟨qf BK223.out⟩, ⟨qf BK224.out⟩, ⟨qf BK225.out⟩, ⟨qf BK235.out⟩, ⟨qW HB.out⟩⟩
       case round =>
        clear H'
        try clear p2
        try clear q2
        try clear hx2
        try clear c3
        try clear c4
        try clear p4
        try clear q4
        try clear hx4
        try clear hf4
        try clear c5
        try clear c6
        try clear p6
        try clear p23
        try clear q23
        try clear hx23
        try clear c32
        try clear c37
        try clear c37b0
        try clear c38
        try clear c39
        try clear c39b0
        try clear c39b1
        try clear c40
        try clear c40b0
        try clear c42
        try clear p42
        try clear q42
        try clear hx42
        try clear hf42
        try clear c51
        try clear c52
        try clear c53
        try clear c54
        try clear c58
        try clear c59
        try clear c60
        try clear c64
        try clear p64
        try clear c65
        try clear c66
        try clear hcz55_0
        try clear hcz55_1
        try clear hcz55_2
        try clear hcz61_0
        try clear hcz61_1
        try clear hcz61_2
        try clear hcz67_0
        try clear hcz67_1
        try clear hcz67_2
        try clear hfz55_0
        try clear hfz55_1
        try clear hfz55_2
        try clear hfz61_0
        try clear hfz61_1
        try clear hfz61_2
        try clear hfz67_0
        try clear hfz67_1
        try clear hfz67_2
        try clear hx236_0
        try clear hx236_1
        try clear hx236_2
        try clear hx236_3
        try clear hx237_0
        try clear hx237_1
        try clear hx237_2
        try clear hx237_3
        try clear hx42_0
        try clear hx42_1
        try clear hx42_2
        try clear hx42_3
        try clear p236
        try clear p237
        try clear p42
        try clear q236
        try clear q237
        try clear q42
        obtain ⟨x9_3, x225000_3, x225001_3, x225002_3, x225003_3, x236000_3, x236001_3, u236000, u236001, rfl, HA, HK3, HO_236000, HO_236001, HO_236002, BK223, BK224, BK225, BK235, HB⟩ := hrel
        cases gk with
        | zero => exact absurd HA.out (by simp [garderoberef17_Return.l1])
        | succ k3 =>
         have H := HA.out
         clear HA
         simp only [garderoberef17_Return.l1] at H
         by_cases c69 : x9_3 < (x236001_3.length : Int)
         ·rw [if_pos c69] at H
          have c69b0 : decide (x9_3 < (x236001_3.length : Int)) = true := decide_eq_true c69
          clear c69
          by_cases c70 : 0 ≤ x9_3
          ·rw [if_pos c70] at H
           have c70b0 : decide (0 ≤ x9_3) = true := decide_eq_true c70
           clear c70
           by_cases c71 : ((rd_T56 x236001_3 x9_3).f0) = 5
           ·rw [if_pos c71] at H
            have c71b0 : (((rd_T56 x236001_3 x9_3).f0) == 5) = true := beq_iff_eq.mpr c71
            have c71b1 : (((rd_T56 x236001_3 x9_3).f0) != 5) = false := bne_eq_false_iff_eq.mpr c71
            clear c71
            by_cases c72 : ((rd_T56 x236001_3 x9_3).f2) ≥ x225003_3
            ·rw [if_pos c72] at H
             have c72b0 : decide (x225003_3 ≤ ((rd_T56 x236001_3 x9_3).f2)) = true := decide_eq_true c72
             clear c72
             replace H := Option.bind_eq_some_iff.mp H
             obtain ⟨⟨t245, t246, t247, t248⟩, A730, H⟩ := H
             replace H : (garderoberef17_Return.l1 k3 (wrap64 (x9_3 + 1)) l0_0 l0_1 l0_2 x225000_3 x225001_3 x225002_3 x225003_3 x236000_3 (x236001_3.set (x9_3 : Int).toNat (⟨t245, (⟨t246, t247⟩ : S32), t248⟩ : S56)) t232) = some (r1, r2, r3, r4, r5) := H
             have A73 := Aside0.mk A730
             clear A730
             obtain ⟨y249, hy249⟩ : ∃ y_ : List (S56), y_ = (x236001_3.set (x9_3 : Int).toNat (⟨t245, (⟨t246, t247⟩ : S32), t248⟩ : S56)) := ⟨_, rfl⟩
             replace H : (garderoberef17_Return.l1 k3 (wrap64 (x9_3 + 1)) l0_0 l0_1 l0_2 x225000_3 x225001_3 x225002_3 x225003_3 x236000_3 y249 t232) = some (r1, r2, r3, r4, r5) := by first | (rw [hy249]; with_reducible exact H) | (have H2_ := (Option.bind_some _ _).symm.trans H; rw [hy249]; with_reducible exact H2_) | (have H2_ := (Option.bind_some _ _).symm.trans H; with_reducible exact H2_) | with_reducible exact H | (rw [hy249]; exact H) | exact H
             have Ny249 := Aside0.mk hy249
             clear hy249
             have H' := Aside0.mk H
             clear H
             have hnb75 := NB235_223.out
             have hnc75 := NB223_235.out
             have hnb76 := NB235_224.out
             have hnc76 := NB224_235.out
             have hnb77 := NB235_225.out
             have hnc77 := NB225_235.out
             have hcz78_0 : wr.cell? ⟨gb235, 0, none⟩ = some (u236000) := (blk_cell BK235.out 0).trans rfl
             have hcz78_1 : wr.cell? ⟨gb235, 1, none⟩ = some (u236001) := (blk_cell BK235.out 1).trans rfl
             have hcz78_2 : wr.cell? ⟨gb235, 2, none⟩ = some (.slice Ao36 t232.length co36) := (blk_cell BK235.out 2).trans rfl
             have hfz78_0 := blk_frozen BK235.out 0
             have hfz78_1 := blk_frozen BK235.out 1
             have hfz78_2 := blk_frozen BK235.out 2
             obtain ⟨Ao79, co79, eo79⟩ := Kd.R_slice HO_236001.out
             subst eo79
             try go_wp2
             have n0_ := Aside0.mk (Kd.R_drew HO_236000.out)
             have n1_ := Aside0.mk (Kd.R_drew HO_236001.out)
             have n2_ := Aside0.mk (Kd.R_drew HO_236002.out)
             have n3_ := Aside0.mk (blk_drew BK223.out)
             have n4_ := Aside0.mk (blk_drew BK224.out)
             have n5_ := Aside0.mk (blk_drew BK225.out)
             have n6_ := Aside0.mk (blk_drew BK235.out)
             have n7_ := Aside0.mk (below_drew1 HB.out)
             clear HO_236000
             clear HO_236001
             clear HO_236002
             clear BK223
             clear BK224
             clear BK225
             clear BK235
             clear HB
             have HO_236000 := n0_
             have HO_236001 := n1_
             have HO_236002 := n2_
             have BK223 := n3_
             have BK224 := n4_
             have BK225 := n5_
             have BK235 := n6_
             have HB := n7_
             clear n0_ n1_ n2_ n3_ n4_ n5_ n6_ n7_
             have p243 : 0 ≤ (x9_3 : Int) := of_decide_eq_true (by first | (with_reducible assumption) | assumption)
             have q243 : x9_3 < (x236001_3.length : Int) := of_decide_eq_true (by first | (with_reducible assumption) | assumption)
             obtain ⟨ad243, e243, hx243_0, hx243_1, hx243_2, hx243_3⟩ := at_T56 (Kd.R_reads' HO_236001.out).2.2 x9_3 p243 q243
             cases e243
             replace p243 := eq_true p243
             replace q243 := eq_true q243
             have p244 : 0 ≤ (x9_3 : Int) := of_decide_eq_true (by first | (with_reducible assumption) | assumption)
             have q244 : x9_3 < (x236001_3.length : Int) := of_decide_eq_true (by first | (with_reducible assumption) | assumption)
             obtain ⟨ad244, e244, hx244_0, hx244_1, hx244_2, hx244_3⟩ := at_T56 (Kd.R_reads' HO_236001.out).2.2 x9_3 p244 q244
             obtain rfl : ad243 = ad244 := (by injection e244)
             replace p244 := eq_true p244
             replace q244 := eq_true q244
             refine start_ (n := 18) (S := fun w' => w'.cell? ⟨gb235, 0, none⟩ = some (u236000) ∧ w'.cell? ⟨gb235, 1, none⟩ = some (.slice (some ad243) x236001_3.length co79) ∧ w'.cell? ⟨gb235, 2, none⟩ = some (.slice Ao36 t232.length co36) ∧ w'.cell? ⟨gb224, 0, none⟩ = some (.int .u8 x225000_3) ∧ w'.cell? ⟨gb224, 1, none⟩ = some (.int .u8 x225001_3) ∧ w'.cell? ⟨gb224, 2, none⟩ = some (.int .u16 x225002_3) ∧ w'.cell? ⟨gb224, 3, none⟩ = some (.int .i64 x225003_3) ∧ w'.cell? (ad243.add ((x9_3).toNat * 4)) = some (.int .u8 ((rd_T56 x236001_3 x9_3).f0)) ∧ w'.cell? ⟨(ad243.add ((x9_3).toNat * 4)).block, (ad243.add ((x9_3).toNat * 4)).off + 1, none⟩ = some (.int .u8 ((rd_T56 x236001_3 x9_3).f1.f0)) ∧ w'.cell? ⟨(ad243.add ((x9_3).toNat * 4)).block, (ad243.add ((x9_3).toNat * 4)).off + 2, none⟩ = some (.int .u16 ((rd_T56 x236001_3 x9_3).f1.f1)) ∧ w'.cell? ⟨(ad243.add ((x9_3).toNat * 4)).block, (ad243.add ((x9_3).toNat * 4)).off + 3, none⟩ = some (.int .i64 ((rd_T56 x236001_3 x9_3).f2)) ∧ w'.cell? (ad243.add ((x9_3).toNat * 4)) = some (.int .u8 ((rd_T56 x236001_3 x9_3).f0)) ∧ w'.cell? ⟨(ad243.add ((x9_3).toNat * 4)).block, (ad243.add ((x9_3).toNat * 4)).off + 1, none⟩ = some (.int .u8 ((rd_T56 x236001_3 x9_3).f1.f0)) ∧ w'.cell? ⟨(ad243.add ((x9_3).toNat * 4)).block, (ad243.add ((x9_3).toNat * 4)).off + 2, none⟩ = some (.int .u16 ((rd_T56 x236001_3 x9_3).f1.f1)) ∧ w'.cell? ⟨(ad243.add ((x9_3).toNat * 4)).block, (ad243.add ((x9_3).toNat * 4)).off + 3, none⟩ = some (.int .i64 ((rd_T56 x236001_3 x9_3).f2))) (ds := []) #[false, false, false, false, false, false, false, false, false, false, false, false, false, false, false, false, false, false] (by kernel_rfl) rfl rfl ⟨(blk_cell BK235.out 0).trans rfl, (blk_cell BK235.out 1).trans rfl, (blk_cell BK235.out 2).trans rfl, (blk_cell BK224.out 0).trans rfl, (blk_cell BK224.out 1).trans rfl, (blk_cell BK224.out 2).trans rfl, (blk_cell BK224.out 3).trans rfl, hx243_0, hx243_1, hx243_2, hx243_3, hx244_0, hx244_1, hx244_2, hx244_3⟩ (fun hHeld => ?_); refine with_tabW garderoberef17_Return.tab12 garderoberef17_Return.bits12 (fun HT_ HW_ => ?_)
             generalize wr.drew = w80 at HO_236000 HO_236001 HO_236002 BK223 BK224 BK225 BK235 HB hx243_0 hx243_1 hx243_2 hx243_3 hx244_0 hx244_1 hx244_2 hx244_3 hHeld ⊢
             refine pure_ (i := 0) (N := some 66) (v := ?_) (a' := ?_) #[true, false, false, false, false, false, false, false, false, false, false, false, false, false, false, false, false, false] rfl rfl (any_of HT_.out (by kernel_rfl)) (fun _ _ _ h => h) (Or.inl ⟨by rfl, ?_⟩) ?_ ?_
             rotate_left
             ·intro w'
              go_simp
              with_reducible rfl
             rotate_left
             ·simp only [Act.put, List.setIfInBounds_toArray, List.set_cons_zero, List.set_cons_succ, i64_w, i32_w]
              rfl
             refine pure_ (i := 2) (N := some 68) (v := ?_) (a' := ?_) #[true, false, true, false, false, false, false, false, false, false, false, false, false, false, false, false, false, false] rfl rfl (any_of HT_.out (by kernel_rfl)) (fun _ _ _ h => h) (Or.inl ⟨by rfl, ?_⟩) ?_ ?_
             rotate_left
             ·intro w'
              go_simp
              with_reducible rfl
             rotate_left
             ·simp only [Act.put, List.setIfInBounds_toArray, List.set_cons_zero, List.set_cons_succ, i64_w, i32_w]
              rfl
             refine take_ (i := 1) (N := some 67) (v := ?_) (a' := ?_) #[true, true, true, false, false, false, false, false, false, false, false, false, false, false, false, false, false, false] rfl rfl (take_ofW HT_.out HW_.out (by kernel_rfl)) (fun _ _ _ h => h) (Or.inl ⟨by rfl, ?_⟩) hHeld ?_ ?_
             rotate_left
             ·rintro w' ⟨s0, s1, s2, s3, s4, s5, s6, s7, s8, s9, s10, s11, s12, s13, s14⟩
              (try simp only [Int.toNat_natCast] at s0 s1 s2 s3 s4 s5 s6 s7 s8 s9 s10 s11 s12 s13 s14)
              go_simp
              with_reducible rfl
             rotate_left
             ·simp only [Act.put, List.setIfInBounds_toArray, List.set_cons_zero, List.set_cons_succ, i64_w, i32_w]
              rfl
             refine pure_ (i := 3) (N := some 69) (v := ?_) (a' := ?_) #[true, true, true, true, false, false, false, false, false, false, false, false, false, false, false, false, false, false] rfl rfl (any_of HT_.out (by kernel_rfl)) (fun _ _ _ h => h) (Or.inl ⟨by rfl, ?_⟩) ?_ ?_
             rotate_left
             ·intro w'
              go_simp
              with_reducible rfl
             rotate_left
             ·simp only [Act.put, List.setIfInBounds_toArray, List.set_cons_zero, List.set_cons_succ, i64_w, i32_w]
              rfl
             refine pure_ (i := 4) (N := some 70) (v := ?_) (a' := ?_) #[true, true, true, true, true, false, false, false, false, false, false, false, false, false, false, false, false, false] rfl rfl (any_of HT_.out (by kernel_rfl)) (fun _ _ _ h => h) (Or.inl ⟨by rfl, ?_⟩) ?_ ?_
             rotate_left
             ·intro w'
              go_simp
              with_reducible rfl
             rotate_left
             ·simp only [Act.put, List.setIfInBounds_toArray, List.set_cons_zero, List.set_cons_succ, i64_w, i32_w]
              rfl
             refine take_ (i := 5) (N := some 71) (v := ?_) (a' := ?_) #[true, true, true, true, true, true, false, false, false, false, false, false, false, false, false, false, false, false] rfl rfl (take_ofW HT_.out HW_.out (by kernel_rfl)) (fun _ _ _ h => h) (Or.inl ⟨by rfl, ?_⟩) hHeld ?_ ?_
             rotate_left
             ·rintro w' ⟨s0, s1, s2, s3, s4, s5, s6, s7, s8, s9, s10, s11, s12, s13, s14⟩
              (try simp only [Int.toNat_natCast] at s0 s1 s2 s3 s4 s5 s6 s7 s8 s9 s10 s11 s12 s13 s14)
              go_simp
              with_reducible rfl
             rotate_left
             ·simp only [Act.put, List.setIfInBounds_toArray, List.set_cons_zero, List.set_cons_succ, i64_w, i32_w]
              rfl
             refine pure_ (i := 6) (N := some 72) (v := ?_) (a' := ?_) #[true, true, true, true, true, true, true, false, false, false, false, false, false, false, false, false, false, false] rfl rfl (any_of HT_.out (by kernel_rfl)) (fun _ _ _ h => h) (Or.inl ⟨by rfl, ?_⟩) ?_ ?_
             rotate_left
             ·intro w'
              go_simp
              with_reducible rfl
             rotate_left
             ·simp only [Act.put, List.setIfInBounds_toArray, List.set_cons_zero, List.set_cons_succ, i64_w, i32_w]
              rfl
             refine pure_ (i := 7) (N := some 73) (v := ?_) (a' := ?_) #[true, true, true, true, true, true, true, true, false, false, false, false, false, false, false, false, false, false] rfl rfl (any_of HT_.out (by kernel_rfl)) (fun _ _ _ h => h) (Or.inl ⟨by rfl, ?_⟩) ?_ ?_
             rotate_left
             ·intro w'
              go_simp
              with_reducible rfl
             rotate_left
             ·simp only [Act.put, List.setIfInBounds_toArray, List.set_cons_zero, List.set_cons_succ, i64_w, i32_w]
              rfl
             refine pure_ (i := 8) (N := some 74) (v := ?_) (a' := ?_) #[true, true, true, true, true, true, true, true, true, false, false, false, false, false, false, false, false, false] rfl rfl (any_of HT_.out (by kernel_rfl)) (fun _ _ _ h => h) (Or.inl ⟨by rfl, ?_⟩) ?_ ?_
             rotate_left
             ·intro w'
              go_simp
              with_reducible rfl
             rotate_left
             ·simp only [Act.put, List.setIfInBounds_toArray, List.set_cons_zero, List.set_cons_succ, i64_w, i32_w]
              rfl
             refine pure_ (i := 10) (N := some 76) (v := ?_) (a' := ?_) #[true, true, true, true, true, true, true, true, true, false, true, false, false, false, false, false, false, false] rfl rfl (any_of HT_.out (by kernel_rfl)) (fun _ _ _ h => h) (Or.inl ⟨by rfl, ?_⟩) ?_ ?_
             rotate_left
             ·intro w'
              go_simp
              with_reducible rfl
             rotate_left
             ·simp only [Act.put, List.setIfInBounds_toArray, List.set_cons_zero, List.set_cons_succ, i64_w, i32_w]
              rfl
             refine pure_ (i := 14) (N := some 80) (v := ?_) (a' := ?_) #[true, true, true, true, true, true, true, true, true, false, true, false, false, false, true, false, false, false] rfl rfl (any_of HT_.out (by kernel_rfl)) (fun _ _ _ h => h) (Or.inl ⟨by rfl, ?_⟩) ?_ ?_
             rotate_left
             ·intro w'
              go_simp
              with_reducible rfl
             rotate_left
             ·simp only [Act.put, List.setIfInBounds_toArray, List.set_cons_zero, List.set_cons_succ, i64_w, i32_w]
              rfl
             refine take_ (i := 9) (N := some 75) (v := ?_) (a' := ?_) #[true, true, true, true, true, true, true, true, true, true, true, false, false, false, true, false, false, false] rfl rfl (take_ofW HT_.out HW_.out (by kernel_rfl)) (fun _ _ _ h => h) (Or.inl ⟨by rfl, ?_⟩) hHeld ?_ ?_
             rotate_left
             ·rintro w' ⟨s0, s1, s2, s3, s4, s5, s6, s7, s8, s9, s10, s11, s12, s13, s14⟩
              (try simp only [Int.toNat_natCast] at s0 s1 s2 s3 s4 s5 s6 s7 s8 s9 s10 s11 s12 s13 s14)
              go_simp
              with_reducible rfl
             rotate_left
             ·simp only [Act.put, List.setIfInBounds_toArray, List.set_cons_zero, List.set_cons_succ, i64_w, i32_w]
              rfl
             refine pure_ (i := 11) (N := some 77) (v := ?_) (a' := ?_) #[true, true, true, true, true, true, true, true, true, true, true, true, false, false, true, false, false, false] rfl rfl (any_of HT_.out (by kernel_rfl)) (fun _ _ _ h => h) (Or.inl ⟨by rfl, ?_⟩) ?_ ?_
             rotate_left
             ·intro w'
              go_simp
              with_reducible rfl
             rotate_left
             ·simp only [Act.put, List.setIfInBounds_toArray, List.set_cons_zero, List.set_cons_succ, i64_w, i32_w]
              rfl
             refine pure_ (i := 12) (N := some 78) (v := ?_) (a' := ?_) #[true, true, true, true, true, true, true, true, true, true, true, true, true, false, true, false, false, false] rfl rfl (any_of HT_.out (by kernel_rfl)) (fun _ _ _ h => h) (Or.inl ⟨by rfl, ?_⟩) ?_ ?_
             rotate_left
             ·intro w'
              go_simp
              with_reducible rfl
             rotate_left
             ·simp only [Act.put, List.setIfInBounds_toArray, List.set_cons_zero, List.set_cons_succ, i64_w, i32_w]
              rfl
             refine take_ (i := 13) (N := some 79) (v := ?_) (a' := ?_) #[true, true, true, true, true, true, true, true, true, true, true, true, true, true, true, false, false, false] rfl rfl (take_ofW HT_.out HW_.out (by kernel_rfl)) (fun _ _ _ h => h) (Or.inl ⟨by rfl, ?_⟩) hHeld ?_ ?_
             rotate_left
             ·rintro w' ⟨s0, s1, s2, s3, s4, s5, s6, s7, s8, s9, s10, s11, s12, s13, s14⟩
              (try simp only [Int.toNat_natCast] at s0 s1 s2 s3 s4 s5 s6 s7 s8 s9 s10 s11 s12 s13 s14)
              go_simp
              with_reducible rfl
             rotate_left
             ·simp only [Act.put, List.setIfInBounds_toArray, List.set_cons_zero, List.set_cons_succ, i64_w, i32_w]
              rfl
             refine take_ (i := 15) (N := some 81) (v := ?_) (a' := ?_) #[true, true, true, true, true, true, true, true, true, true, true, true, true, true, true, true, false, false] rfl rfl (take_ofW HT_.out HW_.out (by kernel_rfl)) (fun _ _ _ h => h) (Or.inl ⟨by rfl, ?_⟩) hHeld ?_ ?_
             rotate_left
             ·rintro w' ⟨s0, s1, s2, s3, s4, s5, s6, s7, s8, s9, s10, s11, s12, s13, s14⟩
              (try simp only [Int.toNat_natCast] at s0 s1 s2 s3 s4 s5 s6 s7 s8 s9 s10 s11 s12 s13 s14)
              go_simp
              with_reducible rfl
             rotate_left
             ·simp only [Act.put, List.setIfInBounds_toArray, List.set_cons_zero, List.set_cons_succ, i64_w, i32_w]
              rfl
             refine pure_ (i := 16) (N := some 82) (v := ?_) (a' := ?_) #[true, true, true, true, true, true, true, true, true, true, true, true, true, true, true, true, true, false] rfl rfl (any_of HT_.out (by kernel_rfl)) (fun _ _ _ h => h) (Or.inl ⟨by rfl, ?_⟩) ?_ ?_
             rotate_left
             ·intro w'
              go_simp
              with_reducible rfl
             rotate_left
             ·simp only [Act.put, List.setIfInBounds_toArray, List.set_cons_zero, List.set_cons_succ, i64_w, i32_w]
              rfl
             refine pure_ (i := 17) (N := some 83) (v := ?_) (a' := ?_) #[true, true, true, true, true, true, true, true, true, true, true, true, true, true, true, true, true, true] rfl rfl (any_of HT_.out (by kernel_rfl)) (fun _ _ _ h => h) (Or.inl ⟨by rfl, ?_⟩) ?_ ?_
             rotate_left
             ·intro w'
              go_simp
              with_reducible rfl
             rotate_left
             ·simp only [Act.put, List.setIfInBounds_toArray, List.set_cons_zero, List.set_cons_succ, i64_w, i32_w]
              rfl
             refine done_ (done_of HT_.out (by kernel_rfl)) ?_
             try go_wp2
             have n0_ := Aside0.mk (Kd.R_drew HO_236000.out)
             have n1_ := Aside0.mk (Kd.R_drew HO_236001.out)
             have n2_ := Aside0.mk (Kd.R_drew HO_236002.out)
             have n3_ := Aside0.mk (blk_drew BK223.out)
             have n4_ := Aside0.mk (blk_drew BK224.out)
             have n5_ := Aside0.mk (blk_drew BK225.out)
             have n6_ := Aside0.mk (blk_drew BK235.out)
             have n7_ := Aside0.mk (below_drew1 HB.out)
             clear HO_236000
             clear HO_236001
             clear HO_236002
             clear BK223
             clear BK224
             clear BK225
             clear BK235
             clear HB
             have HO_236000 := n0_
             have HO_236001 := n1_
             have HO_236002 := n2_
             have BK223 := n3_
             have BK224 := n4_
             have BK225 := n5_
             have BK235 := n6_
             have HB := n7_
             clear n0_ n1_ n2_ n3_ n4_ n5_ n6_ n7_
             refine start_ (n := 6) (S := fun w' => w'.cell? ⟨gb235, 0, none⟩ = some (u236000) ∧ w'.cell? ⟨gb235, 1, none⟩ = some (.slice (some ad243) x236001_3.length co79) ∧ w'.cell? ⟨gb235, 2, none⟩ = some (.slice Ao36 t232.length co36)) (ds := [5]) #[false, false, false, false, false, false] (by kernel_rfl) rfl rfl ⟨(blk_cell BK235.out 0).trans rfl, (blk_cell BK235.out 1).trans rfl, (blk_cell BK235.out 2).trans rfl⟩ (fun hHeld => ?_)
             generalize w80.drew = w81 at HO_236000 HO_236001 HO_236002 BK223 BK224 BK225 BK235 HB hHeld ⊢
             refine pure_ (i := 0) (N := some 84) (v := ?_) (a' := ?_) #[true, false, false, false, false, false] rfl rfl (by kernel_rfl) (fun _ _ _ h => h) (Or.inl ⟨by rfl, ?_⟩) ?_ ?_
             rotate_left
             ·intro w'
              go_simp
              with_reducible rfl
             rotate_left
             ·simp only [Act.put, List.setIfInBounds_toArray, List.set_cons_zero, List.set_cons_succ, i64_w, i32_w]
              rfl
             refine pure_ (i := 2) (N := some 86) (v := ?_) (a' := ?_) #[true, false, true, false, false, false] rfl rfl (by kernel_rfl) (fun _ _ _ h => h) (Or.inl ⟨by rfl, ?_⟩) ?_ ?_
             rotate_left
             ·intro w'
              go_simp
              with_reducible rfl
             rotate_left
             ·simp only [Act.put, List.setIfInBounds_toArray, List.set_cons_zero, List.set_cons_succ, i64_w, i32_w]
              rfl
             refine take_ (i := 1) (N := some 85) (v := ?_) (a' := ?_) #[true, true, true, false, false, false] rfl rfl (by kernel_rfl) (fun _ _ _ h => h) (Or.inl ⟨by rfl, ?_⟩) hHeld ?_ ?_
             rotate_left
             ·rintro w' ⟨s0, s1, s2⟩
              (try simp only [Int.toNat_natCast] at s0 s1 s2)
              go_simp
              with_reducible rfl
             rotate_left
             ·simp only [Act.put, List.setIfInBounds_toArray, List.set_cons_zero, List.set_cons_succ, i64_w, i32_w]
              rfl
             refine one_ (i := 3) (N := some 87) #[true, true, true, true, false, false] rfl rfl (by kernel_rfl) (by decide) (fun K hK => ?_)
             refine goes_ Try.func32 (by kernel_rfl) rfl #[] (by rfl) rfl rfl (by (try simp only [List.map_toArray, List.map_cons, List.map_nil]); first | done | rfl | (simp only [List.length_drop, List.length_take]; rfl)) ?_
             with_reducible refine (garderoberef16_None.calls  t245 t246 t247 t248 _ A73.out).mono ?_
             rintro e w82 ⟨rfl, hb⟩
             refine ⟨_, rfl, ?_⟩
             have n0_ := Aside0.mk (Kd.R_below (qR HO_236000.out) hb)
             have n1_ := Aside0.mk (Kd.R_below (qR HO_236001.out) hb)
             have n2_ := Aside0.mk (Kd.R_below (qR HO_236002.out) hb)
             have n3_ := Aside0.mk (blk_below (qb BK223.out) hb)
             have n4_ := Aside0.mk (blk_below (qb BK224.out) hb)
             have n5_ := Aside0.mk (blk_below (qb BK225.out) hb)
             have n6_ := Aside0.mk (blk_below (qb BK235.out) hb)
             have n7_ := Aside0.mk (below_step (qW HB.out) hb)
             clear HO_236000
             clear HO_236001
             clear HO_236002
             clear BK223
             clear BK224
             clear BK225
             clear BK235
             clear HB
             have HO_236000 := n0_
             have HO_236001 := n1_
             have HO_236002 := n2_
             have BK223 := n3_
             have BK224 := n4_
             have BK225 := n5_
             have BK235 := n6_
             have HB := n7_
             clear n0_ n1_ n2_ n3_ n4_ n5_ n6_ n7_
             (try clear hb)
             (try clear hb2)
             (try clear hk)
             (try clear hi)
             have p74 : 0 ≤ (x9_3 : Int) := of_decide_eq_true (by first | (with_reducible assumption) | assumption)
             have q74 : (x9_3 : Int) < ((x236001_3.length : Int) : Int) := of_decide_eq_true (by first | (with_reducible assumption) | assumption)
             obtain ⟨go74, co74, eo74, gb74, gl74, cl74, HG74⟩ := Kd.R_form HO_236001.out (by omega)
             (first | cases eo74 | (injection eo74 with ea_ en_ ec_; (first | subst ea_ | (injection ea_ with ea_; subst ea_)); subst ec_; clear en_))
             have GB74 := Aside0.mk gb74
             have GG74 := Aside0.mk HG74
             clear gb74 gl74 HG74
             (first | simp only [add_plain] at hx243_0 | skip)
             (first | simp only [add_plain] at hx243_1 | skip)
             (first | simp only [add_plain] at hx243_2 | skip)
             (first | simp only [add_plain] at hx243_3 | skip)
             (first | simp only [add_plain] at hx244_0 | skip)
             (first | simp only [add_plain] at hx244_1 | skip)
             (first | simp only [add_plain] at hx244_2 | skip)
             (first | simp only [add_plain] at hx244_3 | skip)
             obtain ⟨ce74, hcl74, hM74, hcc74, hfr74⟩ := Kd.R_elem HO_236001.out z56 (x9_3 : Int) p74 q74
             obtain rfl := k56_openM hM74
             have hx74_0 : World.cell? _ ⟨go74, (x9_3 : Int).toNat * 4, none⟩ = some (.int .u8 ((rd_T56 x236001_3 x9_3).f0)) := hcc74 0 _ rfl
             have hx74_1 : World.cell? _ ⟨go74, (x9_3 : Int).toNat * 4 + 1, none⟩ = some (.int .u8 ((rd_T56 x236001_3 x9_3).f1.f0)) := hcc74 1 _ rfl
             have hx74_2 : World.cell? _ ⟨go74, (x9_3 : Int).toNat * 4 + 2, none⟩ = some (.int .u16 ((rd_T56 x236001_3 x9_3).f1.f1)) := hcc74 2 _ rfl
             have hx74_3 : World.cell? _ ⟨go74, (x9_3 : Int).toNat * 4 + 3, none⟩ = some (.int .i64 ((rd_T56 x236001_3 x9_3).f2)) := hcc74 3 _ rfl
             have hf74_0 : World.frozen? _ ⟨go74, (x9_3 : Int).toNat * 4, none⟩ = false := hfr74 0
             have hf74_1 : World.frozen? _ ⟨go74, (x9_3 : Int).toNat * 4 + 1, none⟩ = false := hfr74 1
             have hf74_2 : World.frozen? _ ⟨go74, (x9_3 : Int).toNat * 4 + 2, none⟩ = false := hfr74 2
             have hf74_3 : World.frozen? _ ⟨go74, (x9_3 : Int).toNat * 4 + 3, none⟩ = false := hfr74 3
             clear hcl74 hcc74 hfr74 hM74
             replace p74 := eq_true p74
             replace q74 := eq_true q74
             obtain ⟨ce83, hcl83, hM83, hcc83, hfr83⟩ := Kd.R_elem HO_236001.out z56 (x9_3 : Int) (of_decide_eq_true (by first | (with_reducible assumption) | assumption)) (by have h_ : (x9_3 : Int) < ((x236001_3.length : Int) : Int) := of_decide_eq_true (by first | (with_reducible assumption) | assumption); first | exact h_ | (have e_ := (Kd.R_reads' HO_236001.out).1; omega) | simpa using h_)
             obtain rfl := k56_openM hM83
             have HP83 := (Kd.R_seg HO_236001.out (x9_3 : Int) (of_decide_eq_true (by first | (with_reducible assumption) | assumption)) (by have h_ : (x9_3 : Int) < ((x236001_3.length : Int) : Int) := of_decide_eq_true (by first | (with_reducible assumption) | assumption); first | exact h_ | (have e_ := (Kd.R_reads' HO_236001.out).1; omega) | simpa using h_) (seg := [.int .u8 t245, .int .u8 t246, .int .u16 t247, .int .i64 t248]) (j := 0) hcl83 hcc83 (show 4 ≤ 4 from by decide) (x' := (⟨t245, (⟨t246, t247⟩ : S32), t248⟩ : S56)) (k56_mkM _ _ _ (⟨t245, (⟨t246, t247⟩ : S32), t248⟩ : S56) ) (fun _ hk => hk)).1
             rw [← Ny249.out] at HP83
             have HQ83 := Aside0.mk HP83
             clear hcl83 hcc83 hfr83 hM83 HP83
             refine hK.out _ _ ⟨(blk_cell BK235.out 0).trans rfl, (blk_cell BK235.out 1).trans rfl, (blk_cell BK235.out 2).trans rfl⟩ (fun hHeld => ?_)
             clear hK K
             refine norm_ (a' := ?_) ?_ ?_
             rotate_left
             ·show Act.put _ (some 87) _ = _
              simp only [Act.put, List.setIfInBounds_toArray, List.set_cons_zero, List.set_cons_succ, i64_w, i32_w]
              rfl
             refine pure_ (i := 4) (N := some 88) (v := ?_) (a' := ?_) #[true, true, true, true, true, false] rfl rfl (by kernel_rfl) (fun _ _ _ h => h) (Or.inl ⟨by rfl, ?_⟩) ?_ ?_
             rotate_left
             ·intro w'
              go_simp
              with_reducible rfl
             rotate_left
             ·simp only [Act.put, List.setIfInBounds_toArray, List.set_cons_zero, List.set_cons_succ, i64_w, i32_w]
              rfl
             refine last_ (i := 5) (N := none) #[true, true, true, true, true, true] rfl rfl (by kernel_rfl) (by decide) (fun K hK => ?_)
             refine skip_ (w1 := ?_) (by rfl) rfl ?_ ?_
             rotate_left
             ·go_simp
              rfl
             refine hK.out _ _ ?_
             clear hK K
             refine done_ (by kernel_rfl) ?_
             try go_wp2
             go_roundg k3
             case measure => have := HJ2.out; have := HK2.out; have := HK3.out; omega
             case rel => exact ⟨(wrap64 (x9_3 + 1)), (x225000_3), (x225001_3), (x225002_3), (x225003_3), (x236000_3), (y249), (u236000), (.slice (some ⟨go74, 0, none⟩) x236001_3.length co79), (by first | rfl | (simp; done) | (simp [*]; done)), H', ⟨by have := HJ2.out; have := HK2.out; have := HK3.out; omega⟩, ⟨by (with_reducible repeat (first | apply Kd.R_alloc | apply Kd.R_drewN | apply Kd.R_drew)); exact Kd.R_mono (Kd.R_far (p := ⟨go74, (x9_3 : Int).toNat * 4 + 3, none⟩) (Kd.R_far (p := ⟨go74, (x9_3 : Int).toNat * 4 + 2, none⟩) (Kd.R_far (p := ⟨go74, (x9_3 : Int).toNat * 4 + 1, none⟩) (Kd.R_far (p := ⟨go74, (x9_3 : Int).toNat * 4, none⟩) (Kd.R_mono HO_236000.out (fun k_ hk => (⟨hk, fun e_ => hk.1 (by rw [e_]; rfl)⟩ : _ ∧ k_ ≠ go74))) (fun _ hk => hk.2) (.int .u8 t245)) (fun _ hk => hk.2) (.int .u8 t246)) (fun _ hk => hk.2) (.int .u16 t247)) (fun _ hk => hk.2) (.int .i64 t248)) (fun _ hk => ⟨hk.1.1, hk.1.2⟩)⟩, ⟨by (with_reducible repeat (first | apply Kd.R_alloc | apply Kd.R_drewN | apply Kd.R_drew)); exact HQ83.out⟩, ⟨by (with_reducible repeat (first | apply Kd.R_alloc | apply Kd.R_drewN | apply Kd.R_drew)); exact Kd.R_mono (Kd.R_far (p := ⟨go74, (x9_3 : Int).toNat * 4 + 3, none⟩) (Kd.R_far (p := ⟨go74, (x9_3 : Int).toNat * 4 + 2, none⟩) (Kd.R_far (p := ⟨go74, (x9_3 : Int).toNat * 4 + 1, none⟩) (Kd.R_far (p := ⟨go74, (x9_3 : Int).toNat * 4, none⟩) (Kd.R_types HO_236002.out GG74.out (by decide)) (fun _ hk => hk.2) (.int .u8 t245)) (fun _ hk => hk.2) (.int .u8 t246)) (fun _ hk => hk.2) (.int .u16 t247)) (fun _ hk => hk.2) (.int .i64 t248)) (fun _ hk => trivial)⟩, ⟨by (with_reducible repeat (first | refine blk_drewN ?_ _ | refine blk_drew ?_ | refine blk_alloc ?_ _)); refine blk_far ?_ (by have h_ := Kd.R_ne HO_236001.out BK223.out (by decide); intro e_; exact h_ (by rw [e_]; rfl)) _; (with_reducible repeat (first | refine blk_drewN ?_ _ | refine blk_drew ?_ | refine blk_alloc ?_ _)); refine blk_far ?_ (by have h_ := Kd.R_ne HO_236001.out BK223.out (by decide); intro e_; exact h_ (by rw [e_]; rfl)) _; (with_reducible repeat (first | refine blk_drewN ?_ _ | refine blk_drew ?_ | refine blk_alloc ?_ _)); refine blk_far ?_ (by have h_ := Kd.R_ne HO_236001.out BK223.out (by decide); intro e_; exact h_ (by rw [e_]; rfl)) _; (with_reducible repeat (first | refine blk_drewN ?_ _ | refine blk_drew ?_ | refine blk_alloc ?_ _)); refine blk_far ?_ (by have h_ := Kd.R_ne HO_236001.out BK223.out (by decide); intro e_; exact h_ (by rw [e_]; rfl)) _; (with_reducible repeat (first | refine blk_drewN ?_ _ | refine blk_drew ?_ | refine blk_alloc ?_ _)); exact BK223.out⟩, ⟨by (with_reducible repeat (first | refine blk_drewN ?_ _ | refine blk_drew ?_ | refine blk_alloc ?_ _)); refine blk_far ?_ (by have h_ := Kd.R_away HO_236001.out (fun _ hk => hk.2); intro e_; exact h_ (by rw [e_]; rfl)) _; (with_reducible repeat (first | refine blk_drewN ?_ _ | refine blk_drew ?_ | refine blk_alloc ?_ _)); refine blk_far ?_ (by have h_ := Kd.R_away HO_236001.out (fun _ hk => hk.2); intro e_; exact h_ (by rw [e_]; rfl)) _; (with_reducible repeat (first | refine blk_drewN ?_ _ | refine blk_drew ?_ | refine blk_alloc ?_ _)); refine blk_far ?_ (by have h_ := Kd.R_away HO_236001.out (fun _ hk => hk.2); intro e_; exact h_ (by rw [e_]; rfl)) _; (with_reducible repeat (first | refine blk_drewN ?_ _ | refine blk_drew ?_ | refine blk_alloc ?_ _)); refine blk_far ?_ (by have h_ := Kd.R_away HO_236001.out (fun _ hk => hk.2); intro e_; exact h_ (by rw [e_]; rfl)) _; (with_reducible repeat (first | refine blk_drewN ?_ _ | refine blk_drew ?_ | refine blk_alloc ?_ _)); exact BK224.out⟩, ⟨by (with_reducible repeat (first | refine blk_drewN ?_ _ | refine blk_drew ?_ | refine blk_alloc ?_ _)); refine blk_far ?_ (by have h_ := Kd.R_ne HO_236001.out BK225.out (by decide); intro e_; exact h_ (by rw [e_]; rfl)) _; (with_reducible repeat (first | refine blk_drewN ?_ _ | refine blk_drew ?_ | refine blk_alloc ?_ _)); refine blk_far ?_ (by have h_ := Kd.R_ne HO_236001.out BK225.out (by decide); intro e_; exact h_ (by rw [e_]; rfl)) _; (with_reducible repeat (first | refine blk_drewN ?_ _ | refine blk_drew ?_ | refine blk_alloc ?_ _)); refine blk_far ?_ (by have h_ := Kd.R_ne HO_236001.out BK225.out (by decide); intro e_; exact h_ (by rw [e_]; rfl)) _; (with_reducible repeat (first | refine blk_drewN ?_ _ | refine blk_drew ?_ | refine blk_alloc ?_ _)); refine blk_far ?_ (by have h_ := Kd.R_ne HO_236001.out BK225.out (by decide); intro e_; exact h_ (by rw [e_]; rfl)) _; (with_reducible repeat (first | refine blk_drewN ?_ _ | refine blk_drew ?_ | refine blk_alloc ?_ _)); exact BK225.out⟩, ⟨by (with_reducible repeat (first | refine blk_drewN ?_ _ | refine blk_drew ?_ | refine blk_alloc ?_ _)); refine blk_far ?_ (by have h_ := Kd.R_ne HO_236001.out BK235.out (by decide); intro e_; exact h_ (by rw [e_]; rfl)) _; (with_reducible repeat (first | refine blk_drewN ?_ _ | refine blk_drew ?_ | refine blk_alloc ?_ _)); refine blk_far ?_ (by have h_ := Kd.R_ne HO_236001.out BK235.out (by decide); intro e_; exact h_ (by rw [e_]; rfl)) _; (with_reducible repeat (first | refine blk_drewN ?_ _ | refine blk_drew ?_ | refine blk_alloc ?_ _)); refine blk_far ?_ (by have h_ := Kd.R_ne HO_236001.out BK235.out (by decide); intro e_; exact h_ (by rw [e_]; rfl)) _; (with_reducible repeat (first | refine blk_drewN ?_ _ | refine blk_drew ?_ | refine blk_alloc ?_ _)); refine blk_far ?_ (by have h_ := Kd.R_ne HO_236001.out BK235.out (by decide); intro e_; exact h_ (by rw [e_]; rfl)) _; (with_reducible repeat (first | refine blk_drewN ?_ _ | refine blk_drew ?_ | refine blk_alloc ?_ _)); exact BK235.out⟩, ⟨by repeat (first | (with_reducible first | exact HB.out | apply below_alloc | apply pw_below_drewN | apply below_drew1 | refine below_set ?_ GB74.out | refine below_set ?_ GB74.out | refine below_set ?_ GB74.out | refine below_set ?_ GB74.out | refine below_set ?_ GE223.out | refine below_set ?_ GE224.out | refine below_set ?_ GE225.out | refine below_set ?_ GE235.out) | exact HB.out)⟩⟩
            ·rw [if_neg c72] at H
             have c72b0 : decide (x225003_3 ≤ ((rd_T56 x236001_3 x9_3).f2)) = false := decide_eq_false c72
             clear c72
             have H' := Aside0.mk H
             clear H
             have hnb84 := NB235_223.out
             have hnc84 := NB223_235.out
             have hnb85 := NB235_224.out
             have hnc85 := NB224_235.out
             have hnb86 := NB235_225.out
             have hnc86 := NB225_235.out
             have hcz87_0 : wr.cell? ⟨gb235, 0, none⟩ = some (u236000) := (blk_cell BK235.out 0).trans rfl
             have hcz87_1 : wr.cell? ⟨gb235, 1, none⟩ = some (u236001) := (blk_cell BK235.out 1).trans rfl
             have hcz87_2 : wr.cell? ⟨gb235, 2, none⟩ = some (.slice Ao36 t232.length co36) := (blk_cell BK235.out 2).trans rfl
             have hfz87_0 := blk_frozen BK235.out 0
             have hfz87_1 := blk_frozen BK235.out 1
             have hfz87_2 := blk_frozen BK235.out 2
             obtain ⟨Ao88, co88, eo88⟩ := Kd.R_slice HO_236001.out
             subst eo88
             try go_wp2
             have n0_ := Aside0.mk (Kd.R_drew HO_236000.out)
             have n1_ := Aside0.mk (Kd.R_drew HO_236001.out)
             have n2_ := Aside0.mk (Kd.R_drew HO_236002.out)
             have n3_ := Aside0.mk (blk_drew BK223.out)
             have n4_ := Aside0.mk (blk_drew BK224.out)
             have n5_ := Aside0.mk (blk_drew BK225.out)
             have n6_ := Aside0.mk (blk_drew BK235.out)
             have n7_ := Aside0.mk (below_drew1 HB.out)
             clear HO_236000
             clear HO_236001
             clear HO_236002
             clear BK223
             clear BK224
             clear BK225
             clear BK235
             clear HB
             have HO_236000 := n0_
             have HO_236001 := n1_
             have HO_236002 := n2_
             have BK223 := n3_
             have BK224 := n4_
             have BK225 := n5_
             have BK235 := n6_
             have HB := n7_
             clear n0_ n1_ n2_ n3_ n4_ n5_ n6_ n7_
             have p243 : 0 ≤ (x9_3 : Int) := of_decide_eq_true (by first | (with_reducible assumption) | assumption)
             have q243 : x9_3 < (x236001_3.length : Int) := of_decide_eq_true (by first | (with_reducible assumption) | assumption)
             obtain ⟨ad243, e243, hx243_0, hx243_1, hx243_2, hx243_3⟩ := at_T56 (Kd.R_reads' HO_236001.out).2.2 x9_3 p243 q243
             cases e243
             replace p243 := eq_true p243
             replace q243 := eq_true q243
             have p244 : 0 ≤ (x9_3 : Int) := of_decide_eq_true (by first | (with_reducible assumption) | assumption)
             have q244 : x9_3 < (x236001_3.length : Int) := of_decide_eq_true (by first | (with_reducible assumption) | assumption)
             obtain ⟨ad244, e244, hx244_0, hx244_1, hx244_2, hx244_3⟩ := at_T56 (Kd.R_reads' HO_236001.out).2.2 x9_3 p244 q244
             obtain rfl : ad243 = ad244 := (by injection e244)
             replace p244 := eq_true p244
             replace q244 := eq_true q244
             refine start_ (n := 18) (S := fun w' => w'.cell? ⟨gb235, 0, none⟩ = some (u236000) ∧ w'.cell? ⟨gb235, 1, none⟩ = some (.slice (some ad243) x236001_3.length co88) ∧ w'.cell? ⟨gb235, 2, none⟩ = some (.slice Ao36 t232.length co36) ∧ w'.cell? ⟨gb224, 0, none⟩ = some (.int .u8 x225000_3) ∧ w'.cell? ⟨gb224, 1, none⟩ = some (.int .u8 x225001_3) ∧ w'.cell? ⟨gb224, 2, none⟩ = some (.int .u16 x225002_3) ∧ w'.cell? ⟨gb224, 3, none⟩ = some (.int .i64 x225003_3) ∧ w'.cell? (ad243.add ((x9_3).toNat * 4)) = some (.int .u8 ((rd_T56 x236001_3 x9_3).f0)) ∧ w'.cell? ⟨(ad243.add ((x9_3).toNat * 4)).block, (ad243.add ((x9_3).toNat * 4)).off + 1, none⟩ = some (.int .u8 ((rd_T56 x236001_3 x9_3).f1.f0)) ∧ w'.cell? ⟨(ad243.add ((x9_3).toNat * 4)).block, (ad243.add ((x9_3).toNat * 4)).off + 2, none⟩ = some (.int .u16 ((rd_T56 x236001_3 x9_3).f1.f1)) ∧ w'.cell? ⟨(ad243.add ((x9_3).toNat * 4)).block, (ad243.add ((x9_3).toNat * 4)).off + 3, none⟩ = some (.int .i64 ((rd_T56 x236001_3 x9_3).f2)) ∧ w'.cell? (ad243.add ((x9_3).toNat * 4)) = some (.int .u8 ((rd_T56 x236001_3 x9_3).f0)) ∧ w'.cell? ⟨(ad243.add ((x9_3).toNat * 4)).block, (ad243.add ((x9_3).toNat * 4)).off + 1, none⟩ = some (.int .u8 ((rd_T56 x236001_3 x9_3).f1.f0)) ∧ w'.cell? ⟨(ad243.add ((x9_3).toNat * 4)).block, (ad243.add ((x9_3).toNat * 4)).off + 2, none⟩ = some (.int .u16 ((rd_T56 x236001_3 x9_3).f1.f1)) ∧ w'.cell? ⟨(ad243.add ((x9_3).toNat * 4)).block, (ad243.add ((x9_3).toNat * 4)).off + 3, none⟩ = some (.int .i64 ((rd_T56 x236001_3 x9_3).f2))) (ds := []) #[false, false, false, false, false, false, false, false, false, false, false, false, false, false, false, false, false, false] (by kernel_rfl) rfl rfl ⟨(blk_cell BK235.out 0).trans rfl, (blk_cell BK235.out 1).trans rfl, (blk_cell BK235.out 2).trans rfl, (blk_cell BK224.out 0).trans rfl, (blk_cell BK224.out 1).trans rfl, (blk_cell BK224.out 2).trans rfl, (blk_cell BK224.out 3).trans rfl, hx243_0, hx243_1, hx243_2, hx243_3, hx244_0, hx244_1, hx244_2, hx244_3⟩ (fun hHeld => ?_); refine with_tabW garderoberef17_Return.tab12 garderoberef17_Return.bits12 (fun HT_ HW_ => ?_)
             generalize wr.drew = w89 at HO_236000 HO_236001 HO_236002 BK223 BK224 BK225 BK235 HB hx243_0 hx243_1 hx243_2 hx243_3 hx244_0 hx244_1 hx244_2 hx244_3 hHeld ⊢
             refine pure_ (i := 0) (N := some 66) (v := ?_) (a' := ?_) #[true, false, false, false, false, false, false, false, false, false, false, false, false, false, false, false, false, false] rfl rfl (any_of HT_.out (by kernel_rfl)) (fun _ _ _ h => h) (Or.inl ⟨by rfl, ?_⟩) ?_ ?_
             rotate_left
             ·intro w'
              go_simp
              with_reducible rfl
             rotate_left
             ·simp only [Act.put, List.setIfInBounds_toArray, List.set_cons_zero, List.set_cons_succ, i64_w, i32_w]
              rfl
             refine pure_ (i := 2) (N := some 68) (v := ?_) (a' := ?_) #[true, false, true, false, false, false, false, false, false, false, false, false, false, false, false, false, false, false] rfl rfl (any_of HT_.out (by kernel_rfl)) (fun _ _ _ h => h) (Or.inl ⟨by rfl, ?_⟩) ?_ ?_
             rotate_left
             ·intro w'
              go_simp
              with_reducible rfl
             rotate_left
             ·simp only [Act.put, List.setIfInBounds_toArray, List.set_cons_zero, List.set_cons_succ, i64_w, i32_w]
              rfl
             refine take_ (i := 1) (N := some 67) (v := ?_) (a' := ?_) #[true, true, true, false, false, false, false, false, false, false, false, false, false, false, false, false, false, false] rfl rfl (take_ofW HT_.out HW_.out (by kernel_rfl)) (fun _ _ _ h => h) (Or.inl ⟨by rfl, ?_⟩) hHeld ?_ ?_
             rotate_left
             ·rintro w' ⟨s0, s1, s2, s3, s4, s5, s6, s7, s8, s9, s10, s11, s12, s13, s14⟩
              (try simp only [Int.toNat_natCast] at s0 s1 s2 s3 s4 s5 s6 s7 s8 s9 s10 s11 s12 s13 s14)
              go_simp
              with_reducible rfl
             rotate_left
             ·simp only [Act.put, List.setIfInBounds_toArray, List.set_cons_zero, List.set_cons_succ, i64_w, i32_w]
              rfl
             refine pure_ (i := 3) (N := some 69) (v := ?_) (a' := ?_) #[true, true, true, true, false, false, false, false, false, false, false, false, false, false, false, false, false, false] rfl rfl (any_of HT_.out (by kernel_rfl)) (fun _ _ _ h => h) (Or.inl ⟨by rfl, ?_⟩) ?_ ?_
             rotate_left
             ·intro w'
              go_simp
              with_reducible rfl
             rotate_left
             ·simp only [Act.put, List.setIfInBounds_toArray, List.set_cons_zero, List.set_cons_succ, i64_w, i32_w]
              rfl
             refine pure_ (i := 4) (N := some 70) (v := ?_) (a' := ?_) #[true, true, true, true, true, false, false, false, false, false, false, false, false, false, false, false, false, false] rfl rfl (any_of HT_.out (by kernel_rfl)) (fun _ _ _ h => h) (Or.inl ⟨by rfl, ?_⟩) ?_ ?_
             rotate_left
             ·intro w'
              go_simp
              with_reducible rfl
             rotate_left
             ·simp only [Act.put, List.setIfInBounds_toArray, List.set_cons_zero, List.set_cons_succ, i64_w, i32_w]
              rfl
             refine take_ (i := 5) (N := some 71) (v := ?_) (a' := ?_) #[true, true, true, true, true, true, false, false, false, false, false, false, false, false, false, false, false, false] rfl rfl (take_ofW HT_.out HW_.out (by kernel_rfl)) (fun _ _ _ h => h) (Or.inl ⟨by rfl, ?_⟩) hHeld ?_ ?_
             rotate_left
             ·rintro w' ⟨s0, s1, s2, s3, s4, s5, s6, s7, s8, s9, s10, s11, s12, s13, s14⟩
              (try simp only [Int.toNat_natCast] at s0 s1 s2 s3 s4 s5 s6 s7 s8 s9 s10 s11 s12 s13 s14)
              go_simp
              with_reducible rfl
             rotate_left
             ·simp only [Act.put, List.setIfInBounds_toArray, List.set_cons_zero, List.set_cons_succ, i64_w, i32_w]
              rfl
             refine pure_ (i := 6) (N := some 72) (v := ?_) (a' := ?_) #[true, true, true, true, true, true, true, false, false, false, false, false, false, false, false, false, false, false] rfl rfl (any_of HT_.out (by kernel_rfl)) (fun _ _ _ h => h) (Or.inl ⟨by rfl, ?_⟩) ?_ ?_
             rotate_left
             ·intro w'
              go_simp
              with_reducible rfl
             rotate_left
             ·simp only [Act.put, List.setIfInBounds_toArray, List.set_cons_zero, List.set_cons_succ, i64_w, i32_w]
              rfl
             refine pure_ (i := 7) (N := some 73) (v := ?_) (a' := ?_) #[true, true, true, true, true, true, true, true, false, false, false, false, false, false, false, false, false, false] rfl rfl (any_of HT_.out (by kernel_rfl)) (fun _ _ _ h => h) (Or.inl ⟨by rfl, ?_⟩) ?_ ?_
             rotate_left
             ·intro w'
              go_simp
              with_reducible rfl
             rotate_left
             ·simp only [Act.put, List.setIfInBounds_toArray, List.set_cons_zero, List.set_cons_succ, i64_w, i32_w]
              rfl
             refine pure_ (i := 8) (N := some 74) (v := ?_) (a' := ?_) #[true, true, true, true, true, true, true, true, true, false, false, false, false, false, false, false, false, false] rfl rfl (any_of HT_.out (by kernel_rfl)) (fun _ _ _ h => h) (Or.inl ⟨by rfl, ?_⟩) ?_ ?_
             rotate_left
             ·intro w'
              go_simp
              with_reducible rfl
             rotate_left
             ·simp only [Act.put, List.setIfInBounds_toArray, List.set_cons_zero, List.set_cons_succ, i64_w, i32_w]
              rfl
             refine pure_ (i := 10) (N := some 76) (v := ?_) (a' := ?_) #[true, true, true, true, true, true, true, true, true, false, true, false, false, false, false, false, false, false] rfl rfl (any_of HT_.out (by kernel_rfl)) (fun _ _ _ h => h) (Or.inl ⟨by rfl, ?_⟩) ?_ ?_
             rotate_left
             ·intro w'
              go_simp
              with_reducible rfl
             rotate_left
             ·simp only [Act.put, List.setIfInBounds_toArray, List.set_cons_zero, List.set_cons_succ, i64_w, i32_w]
              rfl
             refine pure_ (i := 14) (N := some 80) (v := ?_) (a' := ?_) #[true, true, true, true, true, true, true, true, true, false, true, false, false, false, true, false, false, false] rfl rfl (any_of HT_.out (by kernel_rfl)) (fun _ _ _ h => h) (Or.inl ⟨by rfl, ?_⟩) ?_ ?_
             rotate_left
             ·intro w'
              go_simp
              with_reducible rfl
             rotate_left
             ·simp only [Act.put, List.setIfInBounds_toArray, List.set_cons_zero, List.set_cons_succ, i64_w, i32_w]
              rfl
             refine take_ (i := 9) (N := some 75) (v := ?_) (a' := ?_) #[true, true, true, true, true, true, true, true, true, true, true, false, false, false, true, false, false, false] rfl rfl (take_ofW HT_.out HW_.out (by kernel_rfl)) (fun _ _ _ h => h) (Or.inl ⟨by rfl, ?_⟩) hHeld ?_ ?_
             rotate_left
             ·rintro w' ⟨s0, s1, s2, s3, s4, s5, s6, s7, s8, s9, s10, s11, s12, s13, s14⟩
              (try simp only [Int.toNat_natCast] at s0 s1 s2 s3 s4 s5 s6 s7 s8 s9 s10 s11 s12 s13 s14)
              go_simp
              with_reducible rfl
             rotate_left
             ·simp only [Act.put, List.setIfInBounds_toArray, List.set_cons_zero, List.set_cons_succ, i64_w, i32_w]
              rfl
             refine pure_ (i := 11) (N := some 77) (v := ?_) (a' := ?_) #[true, true, true, true, true, true, true, true, true, true, true, true, false, false, true, false, false, false] rfl rfl (any_of HT_.out (by kernel_rfl)) (fun _ _ _ h => h) (Or.inl ⟨by rfl, ?_⟩) ?_ ?_
             rotate_left
             ·intro w'
              go_simp
              with_reducible rfl
             rotate_left
             ·simp only [Act.put, List.setIfInBounds_toArray, List.set_cons_zero, List.set_cons_succ, i64_w, i32_w]
              rfl
             refine pure_ (i := 12) (N := some 78) (v := ?_) (a' := ?_) #[true, true, true, true, true, true, true, true, true, true, true, true, true, false, true, false, false, false] rfl rfl (any_of HT_.out (by kernel_rfl)) (fun _ _ _ h => h) (Or.inl ⟨by rfl, ?_⟩) ?_ ?_
             rotate_left
             ·intro w'
              go_simp
              with_reducible rfl
             rotate_left
             ·simp only [Act.put, List.setIfInBounds_toArray, List.set_cons_zero, List.set_cons_succ, i64_w, i32_w]
              rfl
             refine take_ (i := 13) (N := some 79) (v := ?_) (a' := ?_) #[true, true, true, true, true, true, true, true, true, true, true, true, true, true, true, false, false, false] rfl rfl (take_ofW HT_.out HW_.out (by kernel_rfl)) (fun _ _ _ h => h) (Or.inl ⟨by rfl, ?_⟩) hHeld ?_ ?_
             rotate_left
             ·rintro w' ⟨s0, s1, s2, s3, s4, s5, s6, s7, s8, s9, s10, s11, s12, s13, s14⟩
              (try simp only [Int.toNat_natCast] at s0 s1 s2 s3 s4 s5 s6 s7 s8 s9 s10 s11 s12 s13 s14)
              go_simp
              with_reducible rfl
             rotate_left
             ·simp only [Act.put, List.setIfInBounds_toArray, List.set_cons_zero, List.set_cons_succ, i64_w, i32_w]
              rfl
             refine take_ (i := 15) (N := some 81) (v := ?_) (a' := ?_) #[true, true, true, true, true, true, true, true, true, true, true, true, true, true, true, true, false, false] rfl rfl (take_ofW HT_.out HW_.out (by kernel_rfl)) (fun _ _ _ h => h) (Or.inl ⟨by rfl, ?_⟩) hHeld ?_ ?_
             rotate_left
             ·rintro w' ⟨s0, s1, s2, s3, s4, s5, s6, s7, s8, s9, s10, s11, s12, s13, s14⟩
              (try simp only [Int.toNat_natCast] at s0 s1 s2 s3 s4 s5 s6 s7 s8 s9 s10 s11 s12 s13 s14)
              go_simp
              with_reducible rfl
             rotate_left
             ·simp only [Act.put, List.setIfInBounds_toArray, List.set_cons_zero, List.set_cons_succ, i64_w, i32_w]
              rfl
             refine pure_ (i := 16) (N := some 82) (v := ?_) (a' := ?_) #[true, true, true, true, true, true, true, true, true, true, true, true, true, true, true, true, true, false] rfl rfl (any_of HT_.out (by kernel_rfl)) (fun _ _ _ h => h) (Or.inl ⟨by rfl, ?_⟩) ?_ ?_
             rotate_left
             ·intro w'
              go_simp
              with_reducible rfl
             rotate_left
             ·simp only [Act.put, List.setIfInBounds_toArray, List.set_cons_zero, List.set_cons_succ, i64_w, i32_w]
              rfl
             refine pure_ (i := 17) (N := some 83) (v := ?_) (a' := ?_) #[true, true, true, true, true, true, true, true, true, true, true, true, true, true, true, true, true, true] rfl rfl (any_of HT_.out (by kernel_rfl)) (fun _ _ _ h => h) (Or.inl ⟨by rfl, ?_⟩) ?_ ?_
             rotate_left
             ·intro w'
              go_simp
              with_reducible rfl
             rotate_left
             ·simp only [Act.put, List.setIfInBounds_toArray, List.set_cons_zero, List.set_cons_succ, i64_w, i32_w]
              rfl
             refine done_ (done_of HT_.out (by kernel_rfl)) ?_
             try go_wp2
             go_roundg k3
             case measure => have := HJ2.out; have := HK2.out; have := HK3.out; omega
             case rel => exact ⟨(wrap64 (x9_3 + 1)), (x225000_3), (x225001_3), (x225002_3), (x225003_3), (x236000_3), (x236001_3), (u236000), (.slice (some ad243) x236001_3.length co88), (by first | rfl | (simp; done) | (simp [*]; done)), H', ⟨by have := HJ2.out; have := HK2.out; have := HK3.out; omega⟩, ⟨by (with_reducible repeat (first | apply Kd.R_alloc | apply Kd.R_drewN | apply Kd.R_drew)); exact HO_236000.out⟩, ⟨by (with_reducible repeat (first | apply Kd.R_alloc | apply Kd.R_drewN | apply Kd.R_drew)); exact HO_236001.out⟩, ⟨by (with_reducible repeat (first | apply Kd.R_alloc | apply Kd.R_drewN | apply Kd.R_drew)); exact HO_236002.out⟩, ⟨qf BK223.out⟩, ⟨qf BK224.out⟩, ⟨qf BK225.out⟩, ⟨qf BK235.out⟩, ⟨qW HB.out⟩⟩
           ·rw [if_neg c71] at H
            have c71b0 : (((rd_T56 x236001_3 x9_3).f0) == 5) = false := beq_eq_false_iff_ne.mpr c71
            have c71b1 : (((rd_T56 x236001_3 x9_3).f0) != 5) = true := bne_iff_ne.mpr c71
            have H' := Aside0.mk H
            clear H
            have hnb90 := NB235_223.out
            have hnc90 := NB223_235.out
            have hnb91 := NB235_224.out
            have hnc91 := NB224_235.out
            have hnb92 := NB235_225.out
            have hnc92 := NB225_235.out
            have hcz93_0 : wr.cell? ⟨gb235, 0, none⟩ = some (u236000) := (blk_cell BK235.out 0).trans rfl
            have hcz93_1 : wr.cell? ⟨gb235, 1, none⟩ = some (u236001) := (blk_cell BK235.out 1).trans rfl
            have hcz93_2 : wr.cell? ⟨gb235, 2, none⟩ = some (.slice Ao36 t232.length co36) := (blk_cell BK235.out 2).trans rfl
            have hfz93_0 := blk_frozen BK235.out 0
            have hfz93_1 := blk_frozen BK235.out 1
            have hfz93_2 := blk_frozen BK235.out 2
            obtain ⟨Ao94, co94, eo94⟩ := Kd.R_slice HO_236001.out
            subst eo94
            try go_wp2
            have n0_ := Aside0.mk (Kd.R_drew HO_236000.out)
            have n1_ := Aside0.mk (Kd.R_drew HO_236001.out)
            have n2_ := Aside0.mk (Kd.R_drew HO_236002.out)
            have n3_ := Aside0.mk (blk_drew BK223.out)
            have n4_ := Aside0.mk (blk_drew BK224.out)
            have n5_ := Aside0.mk (blk_drew BK225.out)
            have n6_ := Aside0.mk (blk_drew BK235.out)
            have n7_ := Aside0.mk (below_drew1 HB.out)
            clear HO_236000
            clear HO_236001
            clear HO_236002
            clear BK223
            clear BK224
            clear BK225
            clear BK235
            clear HB
            have HO_236000 := n0_
            have HO_236001 := n1_
            have HO_236002 := n2_
            have BK223 := n3_
            have BK224 := n4_
            have BK225 := n5_
            have BK235 := n6_
            have HB := n7_
            clear n0_ n1_ n2_ n3_ n4_ n5_ n6_ n7_
            have p243 : 0 ≤ (x9_3 : Int) := of_decide_eq_true (by first | (with_reducible assumption) | assumption)
            have q243 : x9_3 < (x236001_3.length : Int) := of_decide_eq_true (by first | (with_reducible assumption) | assumption)
            obtain ⟨ad243, e243, hx243_0, hx243_1, hx243_2, hx243_3⟩ := at_T56 (Kd.R_reads' HO_236001.out).2.2 x9_3 p243 q243
            cases e243
            replace p243 := eq_true p243
            replace q243 := eq_true q243
            refine start_ (n := 18) (S := fun w' => w'.cell? ⟨gb235, 0, none⟩ = some (u236000) ∧ w'.cell? ⟨gb235, 1, none⟩ = some (.slice (some ad243) x236001_3.length co94) ∧ w'.cell? ⟨gb235, 2, none⟩ = some (.slice Ao36 t232.length co36) ∧ w'.cell? (ad243.add ((x9_3).toNat * 4)) = some (.int .u8 ((rd_T56 x236001_3 x9_3).f0)) ∧ w'.cell? ⟨(ad243.add ((x9_3).toNat * 4)).block, (ad243.add ((x9_3).toNat * 4)).off + 1, none⟩ = some (.int .u8 ((rd_T56 x236001_3 x9_3).f1.f0)) ∧ w'.cell? ⟨(ad243.add ((x9_3).toNat * 4)).block, (ad243.add ((x9_3).toNat * 4)).off + 2, none⟩ = some (.int .u16 ((rd_T56 x236001_3 x9_3).f1.f1)) ∧ w'.cell? ⟨(ad243.add ((x9_3).toNat * 4)).block, (ad243.add ((x9_3).toNat * 4)).off + 3, none⟩ = some (.int .i64 ((rd_T56 x236001_3 x9_3).f2))) (ds := []) #[false, false, false, false, false, false, false, false, false, false, false, false, false, false, false, false, false, false] (by kernel_rfl) rfl rfl ⟨(blk_cell BK235.out 0).trans rfl, (blk_cell BK235.out 1).trans rfl, (blk_cell BK235.out 2).trans rfl, hx243_0, hx243_1, hx243_2, hx243_3⟩ (fun hHeld => ?_); refine with_tabW garderoberef17_Return.tab12 garderoberef17_Return.bits12 (fun HT_ HW_ => ?_)
            generalize wr.drew = w95 at HO_236000 HO_236001 HO_236002 BK223 BK224 BK225 BK235 HB hx243_0 hx243_1 hx243_2 hx243_3 hHeld ⊢
            refine pure_ (i := 0) (N := some 66) (v := ?_) (a' := ?_) #[true, false, false, false, false, false, false, false, false, false, false, false, false, false, false, false, false, false] rfl rfl (any_of HT_.out (by kernel_rfl)) (fun _ _ _ h => h) (Or.inl ⟨by rfl, ?_⟩) ?_ ?_
            rotate_left
            ·intro w'
             go_simp
             with_reducible rfl
            rotate_left
            ·simp only [Act.put, List.setIfInBounds_toArray, List.set_cons_zero, List.set_cons_succ, i64_w, i32_w]
             rfl
            refine pure_ (i := 2) (N := some 68) (v := ?_) (a' := ?_) #[true, false, true, false, false, false, false, false, false, false, false, false, false, false, false, false, false, false] rfl rfl (any_of HT_.out (by kernel_rfl)) (fun _ _ _ h => h) (Or.inl ⟨by rfl, ?_⟩) ?_ ?_
            rotate_left
            ·intro w'
             go_simp
             with_reducible rfl
            rotate_left
            ·simp only [Act.put, List.setIfInBounds_toArray, List.set_cons_zero, List.set_cons_succ, i64_w, i32_w]
             rfl
            refine take_ (i := 1) (N := some 67) (v := ?_) (a' := ?_) #[true, true, true, false, false, false, false, false, false, false, false, false, false, false, false, false, false, false] rfl rfl (take_ofW HT_.out HW_.out (by kernel_rfl)) (fun _ _ _ h => h) (Or.inl ⟨by rfl, ?_⟩) hHeld ?_ ?_
            rotate_left
            ·rintro w' ⟨s0, s1, s2, s3, s4, s5, s6⟩
             (try simp only [Int.toNat_natCast] at s0 s1 s2 s3 s4 s5 s6)
             go_simp
             with_reducible rfl
            rotate_left
            ·simp only [Act.put, List.setIfInBounds_toArray, List.set_cons_zero, List.set_cons_succ, i64_w, i32_w]
             rfl
            refine pure_ (i := 3) (N := some 69) (v := ?_) (a' := ?_) #[true, true, true, true, false, false, false, false, false, false, false, false, false, false, false, false, false, false] rfl rfl (any_of HT_.out (by kernel_rfl)) (fun _ _ _ h => h) (Or.inl ⟨by rfl, ?_⟩) ?_ ?_
            rotate_left
            ·intro w'
             go_simp
             with_reducible rfl
            rotate_left
            ·simp only [Act.put, List.setIfInBounds_toArray, List.set_cons_zero, List.set_cons_succ, i64_w, i32_w]
             rfl
            refine pure_ (i := 4) (N := some 70) (v := ?_) (a' := ?_) #[true, true, true, true, true, false, false, false, false, false, false, false, false, false, false, false, false, false] rfl rfl (any_of HT_.out (by kernel_rfl)) (fun _ _ _ h => h) (Or.inl ⟨by rfl, ?_⟩) ?_ ?_
            rotate_left
            ·intro w'
             go_simp
             with_reducible rfl
            rotate_left
            ·simp only [Act.put, List.setIfInBounds_toArray, List.set_cons_zero, List.set_cons_succ, i64_w, i32_w]
             rfl
            refine take_ (i := 5) (N := some 71) (v := ?_) (a' := ?_) #[true, true, true, true, true, true, false, false, false, false, false, false, false, false, false, false, false, false] rfl rfl (take_ofW HT_.out HW_.out (by kernel_rfl)) (fun _ _ _ h => h) (Or.inl ⟨by rfl, ?_⟩) hHeld ?_ ?_
            rotate_left
            ·rintro w' ⟨s0, s1, s2, s3, s4, s5, s6⟩
             (try simp only [Int.toNat_natCast] at s0 s1 s2 s3 s4 s5 s6)
             go_simp
             with_reducible rfl
            rotate_left
            ·simp only [Act.put, List.setIfInBounds_toArray, List.set_cons_zero, List.set_cons_succ, i64_w, i32_w]
             rfl
            refine pure_ (i := 6) (N := some 72) (v := ?_) (a' := ?_) #[true, true, true, true, true, true, true, false, false, false, false, false, false, false, false, false, false, false] rfl rfl (any_of HT_.out (by kernel_rfl)) (fun _ _ _ h => h) (Or.inl ⟨by rfl, ?_⟩) ?_ ?_
            rotate_left
            ·intro w'
             go_simp
             with_reducible rfl
            rotate_left
            ·simp only [Act.put, List.setIfInBounds_toArray, List.set_cons_zero, List.set_cons_succ, i64_w, i32_w]
             rfl
            refine pure_ (i := 7) (N := some 73) (v := ?_) (a' := ?_) #[true, true, true, true, true, true, true, true, false, false, false, false, false, false, false, false, false, false] rfl rfl (any_of HT_.out (by kernel_rfl)) (fun _ _ _ h => h) (Or.inl ⟨by rfl, ?_⟩) ?_ ?_
            rotate_left
            ·intro w'
             go_simp
             with_reducible rfl
            rotate_left
            ·simp only [Act.put, List.setIfInBounds_toArray, List.set_cons_zero, List.set_cons_succ, i64_w, i32_w]
             rfl
            refine pure_ (i := 8) (N := some 74) (v := undef) (a' := ?_) #[true, true, true, true, true, true, true, true, true, false, false, false, false, false, false, false, false, false] rfl rfl (any_of HT_.out (by kernel_rfl)) (fun _ _ _ h => h) (Or.inr ⟨by rfl, rfl⟩) ?_ ?_
            rotate_left
            ·simp only [Act.put, List.setIfInBounds_toArray, List.set_cons_zero, List.set_cons_succ, i64_w, i32_w]
             rfl
            refine pure_ (i := 9) (N := some 75) (v := undef) (a' := ?_) #[true, true, true, true, true, true, true, true, true, true, false, false, false, false, false, false, false, false] rfl rfl (any_of HT_.out (by kernel_rfl)) (fun _ _ _ h => h) (Or.inr ⟨by rfl, rfl⟩) ?_ ?_
            rotate_left
            ·simp only [Act.put, List.setIfInBounds_toArray, List.set_cons_zero, List.set_cons_succ, i64_w, i32_w]
             rfl
            refine pure_ (i := 10) (N := some 76) (v := undef) (a' := ?_) #[true, true, true, true, true, true, true, true, true, true, true, false, false, false, false, false, false, false] rfl rfl (any_of HT_.out (by kernel_rfl)) (fun _ _ _ h => h) (Or.inr ⟨by rfl, rfl⟩) ?_ ?_
            rotate_left
            ·simp only [Act.put, List.setIfInBounds_toArray, List.set_cons_zero, List.set_cons_succ, i64_w, i32_w]
             rfl
            refine pure_ (i := 11) (N := some 77) (v := undef) (a' := ?_) #[true, true, true, true, true, true, true, true, true, true, true, true, false, false, false, false, false, false] rfl rfl (any_of HT_.out (by kernel_rfl)) (fun _ _ _ h => h) (Or.inr ⟨by rfl, rfl⟩) ?_ ?_
            rotate_left
            ·simp only [Act.put, List.setIfInBounds_toArray, List.set_cons_zero, List.set_cons_succ, i64_w, i32_w]
             rfl
            refine pure_ (i := 12) (N := some 78) (v := undef) (a' := ?_) #[true, true, true, true, true, true, true, true, true, true, true, true, true, false, false, false, false, false] rfl rfl (any_of HT_.out (by kernel_rfl)) (fun _ _ _ h => h) (Or.inr ⟨by rfl, rfl⟩) ?_ ?_
            rotate_left
            ·simp only [Act.put, List.setIfInBounds_toArray, List.set_cons_zero, List.set_cons_succ, i64_w, i32_w]
             rfl
            refine pure_ (i := 13) (N := some 79) (v := undef) (a' := ?_) #[true, true, true, true, true, true, true, true, true, true, true, true, true, true, false, false, false, false] rfl rfl (any_of HT_.out (by kernel_rfl)) (fun _ _ _ h => h) (Or.inr ⟨by rfl, rfl⟩) ?_ ?_
            rotate_left
            ·simp only [Act.put, List.setIfInBounds_toArray, List.set_cons_zero, List.set_cons_succ, i64_w, i32_w]
             rfl
            refine pure_ (i := 14) (N := some 80) (v := undef) (a' := ?_) #[true, true, true, true, true, true, true, true, true, true, true, true, true, true, true, false, false, false] rfl rfl (any_of HT_.out (by kernel_rfl)) (fun _ _ _ h => h) (Or.inr ⟨by rfl, rfl⟩) ?_ ?_
            rotate_left
            ·simp only [Act.put, List.setIfInBounds_toArray, List.set_cons_zero, List.set_cons_succ, i64_w, i32_w]
             rfl
            refine pure_ (i := 15) (N := some 81) (v := undef) (a' := ?_) #[true, true, true, true, true, true, true, true, true, true, true, true, true, true, true, true, false, false] rfl rfl (any_of HT_.out (by kernel_rfl)) (fun _ _ _ h => h) (Or.inr ⟨by rfl, rfl⟩) ?_ ?_
            rotate_left
            ·simp only [Act.put, List.setIfInBounds_toArray, List.set_cons_zero, List.set_cons_succ, i64_w, i32_w]
             rfl
            refine pure_ (i := 16) (N := some 82) (v := undef) (a' := ?_) #[true, true, true, true, true, true, true, true, true, true, true, true, true, true, true, true, true, false] rfl rfl (any_of HT_.out (by kernel_rfl)) (fun _ _ _ h => h) (Or.inr ⟨by rfl, rfl⟩) ?_ ?_
            rotate_left
            ·simp only [Act.put, List.setIfInBounds_toArray, List.set_cons_zero, List.set_cons_succ, i64_w, i32_w]
             rfl
            refine pure_ (i := 17) (N := some 83) (v := ?_) (a' := ?_) #[true, true, true, true, true, true, true, true, true, true, true, true, true, true, true, true, true, true] rfl rfl (any_of HT_.out (by kernel_rfl)) (fun _ _ _ h => h) (Or.inl ⟨by rfl, ?_⟩) ?_ ?_
            rotate_left
            ·intro w'
             go_simp
             with_reducible rfl
            rotate_left
            ·simp only [Act.put, List.setIfInBounds_toArray, List.set_cons_zero, List.set_cons_succ, i64_w, i32_w]
             rfl
            refine done_ (done_of HT_.out (by kernel_rfl)) ?_
            try go_wp2
            go_roundg k3
            case measure => have := HJ2.out; have := HK2.out; have := HK3.out; omega
            case rel => exact ⟨(wrap64 (x9_3 + 1)), (x225000_3), (x225001_3), (x225002_3), (x225003_3), (x236000_3), (x236001_3), (u236000), (.slice (some ad243) x236001_3.length co94), (by first | rfl | (simp; done) | (simp [*]; done)), H', ⟨by have := HJ2.out; have := HK2.out; have := HK3.out; omega⟩, ⟨by (with_reducible repeat (first | apply Kd.R_alloc | apply Kd.R_drewN | apply Kd.R_drew)); exact HO_236000.out⟩, ⟨by (with_reducible repeat (first | apply Kd.R_alloc | apply Kd.R_drewN | apply Kd.R_drew)); exact HO_236001.out⟩, ⟨by (with_reducible repeat (first | apply Kd.R_alloc | apply Kd.R_drewN | apply Kd.R_drew)); exact HO_236002.out⟩, ⟨qf BK223.out⟩, ⟨qf BK224.out⟩, ⟨qf BK225.out⟩, ⟨qf BK235.out⟩, ⟨qW HB.out⟩⟩
          ·rw [if_neg c70] at H
           exact absurd H (by simp)
         ·rw [if_neg c69] at H
          have c69b0 : decide (x9_3 < (x236001_3.length : Int)) = false := decide_eq_false c69
          clear c69
          by_cases c96 : 0 ≤ x225003_3
          ·rw [if_pos c96] at H
           have c96b0 := eq_true c96
           have c96b1 : decide (0 ≤ x225003_3) = true := decide_eq_true c96
           clear c96
           by_cases c97 : x225003_3 ≤ (t232.length : Int)
           ·rw [if_pos c97] at H
            have c97b0 := eq_true c97
            have c97b1 : decide (x225003_3 ≤ (t232.length : Int)) = true := decide_eq_true c97
            clear c97
            obtain ⟨y250, hy250⟩ : ∃ y_ : List Int, y_ = (t232.take (x225003_3 : Int).toNat) := ⟨_, rfl⟩
            replace H : (if x225003_3 < (l0_2.length : Int) then (some (x236000_3, x236001_3, y250, rd l0_2 x225003_3, 0)) else (none)) = some (r1, r2, r3, r4, r5) := by first | (rw [hy250]; with_reducible exact H) | (have H2_ := (Option.bind_some _ _).symm.trans H; rw [hy250]; with_reducible exact H2_) | (have H2_ := (Option.bind_some _ _).symm.trans H; with_reducible exact H2_) | with_reducible exact H | (rw [hy250]; exact H) | exact H
            have Ny250 := Aside0.mk hy250
            clear hy250
            by_cases c98 : x225003_3 < (l0_2.length : Int)
            ·rw [if_pos c98] at H
             have c98b0 : decide (x225003_3 < (l0_2.length : Int)) = true := decide_eq_true c98
             clear c98
             simp only [Option.some.injEq, Prod.mk.injEq] at H
             obtain ⟨rfl, rfl, rfl, rfl, rfl⟩ := H
             have hnb99 := NB235_223.out
             have hnc99 := NB223_235.out
             have hnb100 := NB235_224.out
             have hnc100 := NB224_235.out
             have hnb101 := NB235_225.out
             have hnc101 := NB225_235.out
             have hcz102_0 : wr.cell? ⟨gb235, 0, none⟩ = some (u236000) := (blk_cell BK235.out 0).trans rfl
             have hcz102_1 : wr.cell? ⟨gb235, 1, none⟩ = some (u236001) := (blk_cell BK235.out 1).trans rfl
             have hcz102_2 : wr.cell? ⟨gb235, 2, none⟩ = some (.slice Ao36 t232.length co36) := (blk_cell BK235.out 2).trans rfl
             have hfz102_0 := blk_frozen BK235.out 0
             have hfz102_1 := blk_frozen BK235.out 1
             have hfz102_2 := blk_frozen BK235.out 2
             obtain ⟨Ao103, co103, eo103⟩ := Kd.R_slice HO_236001.out
             subst eo103
             have hnb104 := NB224_223.out
             have hnc104 := NB223_224.out
             have hnb105 := NB224_225.out
             have hnc105 := NB225_224.out
             have hcz106_0 : wr.cell? ⟨gb224, 0, none⟩ = some (.int .u8 x225000_3) := (blk_cell BK224.out 0).trans rfl
             have hcz106_1 : wr.cell? ⟨gb224, 1, none⟩ = some (.int .u8 x225001_3) := (blk_cell BK224.out 1).trans rfl
             have hcz106_2 : wr.cell? ⟨gb224, 2, none⟩ = some (.int .u16 x225002_3) := (blk_cell BK224.out 2).trans rfl
             have hcz106_3 : wr.cell? ⟨gb224, 3, none⟩ = some (.int .i64 x225003_3) := (blk_cell BK224.out 3).trans rfl
             have hfz106_0 := blk_frozen BK224.out 0
             have hfz106_1 := blk_frozen BK224.out 1
             have hfz106_2 := blk_frozen BK224.out 2
             have hfz106_3 := blk_frozen BK224.out 3
             have q107 : (x225003_3 : Int) ≤ ((t232.length : Int) : Int) := of_decide_eq_true (by first | (with_reducible assumption) | assumption)
             obtain ⟨i0107, hi0107, _, hsz107, _⟩ := info_parts info3
             have hcut107 := cut_to (P := Try.prog) 51 3 .i64 Try.underlying51 hi0107 Ao36 t232.length co36 x225003_3 (of_decide_eq_true (by first | (with_reducible assumption) | assumption)) q107 (Kd.R_reads' HO_236002.out).2.1
             have hr107 := Kd.R_take (m := (x225003_3 : Int).toNat) HO_236002.out (by omega)
             have hy107 : y250.length = (x225003_3 : Int).toNat := (by rw [Ny250.out, List.length_take]; omega)
             rw [← Ny250.out] at hr107
             rw [← hy107] at hr107 hcut107
             clear hy107 hi0107 hsz107 HO_236002
             have HO252 := Aside0.mk hr107
             clear hr107
             replace q107 := eq_true q107
             try go_wp2
             have n0_ : Aside0 (Kd.R k56 56 (wr.setCell ⟨gb235, 2, none⟩ (.slice Ao36 y250.length co36)) w.heap.size (fun k_ => some k_ ≠ (.slice Ao103 x236001_3.length co103 : Value).ownBlock ∧ k_ ≠ gb224) u236000 x236000_3) := ⟨by (with_reducible repeat (first | apply Kd.R_alloc | apply Kd.R_drewN | apply Kd.R_drew)); exact Kd.R_mono (Kd.R_far (p := ⟨gb235, 2, none⟩) (Kd.R_types HO_236000.out BK235.out (by decide)) (fun _ hk => hk.2) (.slice Ao36 y250.length co36)) (fun _ hk => ⟨hk.1.1, hk.1.2⟩)⟩
             have n1_ : Aside0 (Kd.R k56 56 (wr.setCell ⟨gb235, 2, none⟩ (.slice Ao36 y250.length co36)) w.heap.size (fun k_ => some k_ ≠ (u236000 : Value).ownBlock ∧ k_ ≠ gb224) (.slice Ao103 x236001_3.length co103) x236001_3) := ⟨by (with_reducible repeat (first | apply Kd.R_alloc | apply Kd.R_drewN | apply Kd.R_drew)); exact Kd.R_mono (Kd.R_far (p := ⟨gb235, 2, none⟩) (Kd.R_types HO_236001.out BK235.out (by decide)) (fun _ hk => hk.2) (.slice Ao36 y250.length co36)) (fun _ hk => ⟨hk.1.1, hk.1.2⟩)⟩
             have n2_ : Aside0 (Kd.R (Kd.int .i64) 3 (wr.setCell ⟨gb235, 2, none⟩ (.slice Ao36 y250.length co36)) w.heap.size (fun _ => True) (.slice Ao36 y250.length co36) y250) := ⟨by (with_reducible repeat (first | apply Kd.R_alloc | apply Kd.R_drewN | apply Kd.R_drew)); exact Kd.R_mono (Kd.R_far (p := ⟨gb235, 2, none⟩) (Kd.R_types HO252.out BK235.out (by decide)) (fun _ hk => hk.2) (.slice Ao36 y250.length co36)) (fun _ hk => trivial)⟩
             have n3_ : Aside0 ((wr.setCell ⟨gb235, 2, none⟩ (.slice Ao36 y250.length co36)).heap[gb223]? = some (.cells #[.slice A0_0 l0_0.length c0_0, .slice A0_1 l0_1.length c0_1, .slice A0_2 l0_2.length c0_2] 53 (0, 0))) := ⟨qf BK223.out⟩
             have n4_ : Aside0 ((wr.setCell ⟨gb235, 2, none⟩ (.slice Ao36 y250.length co36)).heap[gb224]? = some (.cells #[.int .u8 x225000_3, .int .u8 x225001_3, .int .u16 x225002_3, .int .i64 x225003_3] 56 (0, 0))) := ⟨qf BK224.out⟩
             have n5_ : Aside0 ((wr.setCell ⟨gb235, 2, none⟩ (.slice Ao36 y250.length co36)).heap[gb225]? = some (.cells #[.slice none 0 0, .slice none 0 0, .slice none 0 0] 53 (0, 0))) := ⟨qf BK225.out⟩
             have n6_ : Aside0 ((wr.setCell ⟨gb235, 2, none⟩ (.slice Ao36 y250.length co36)).heap[gb235]? = some (.cells #[u236000, .slice Ao103 x236001_3.length co103, .slice Ao36 y250.length co36] 53 (0, 0))) := ⟨by (with_reducible repeat (first | refine blk_drewN ?_ _ | refine blk_drew ?_ | refine blk_alloc ?_ _)); refine blk_put (cs := #[u236000, .slice Ao103 x236001_3.length co103, .slice Ao36 t232.length co36]) ?_ 2 _ rfl; (with_reducible repeat (first | refine blk_drewN ?_ _ | refine blk_drew ?_ | refine blk_alloc ?_ _)); exact BK235.out⟩
             have n7_ : Aside0 (Below w.heap.size w (wr.setCell ⟨gb235, 2, none⟩ (.slice Ao36 y250.length co36))) := ⟨qW HB.out⟩
             (try clear HO_236000)
             (try clear HO_236001)
             (try clear HO252)
             (try clear BK223)
             (try clear BK224)
             (try clear BK225)
             (try clear BK235)
             (try clear HB)
             generalize (wr.setCell ⟨gb235, 2, none⟩ (.slice Ao36 y250.length co36)) = w108 at n0_ n1_ n2_ n3_ n4_ n5_ n6_ n7_ ⊢
             have HO_236000 := n0_
             have HO_236001 := n1_
             have HO252 := n2_
             have BK223 := n3_
             have BK224 := n4_
             have BK225 := n5_
             have BK235 := n6_
             have HB := n7_
             clear n0_ n1_ n2_ n3_ n4_ n5_ n6_ n7_
             have n0_ := Aside0.mk (Kd.R_drew HO_236000.out)
             have n1_ := Aside0.mk (Kd.R_drew HO_236001.out)
             have n2_ := Aside0.mk (Kd.R_drew HO252.out)
             have n3_ := Aside0.mk (blk_drew BK223.out)
             have n4_ := Aside0.mk (blk_drew BK224.out)
             have n5_ := Aside0.mk (blk_drew BK225.out)
             have n6_ := Aside0.mk (blk_drew BK235.out)
             have n7_ := Aside0.mk (below_drew1 HB.out)
             clear HO_236000
             clear HO_236001
             clear HO252
             clear BK223
             clear BK224
             clear BK225
             clear BK235
             clear HB
             have HO_236000 := n0_
             have HO_236001 := n1_
             have HO252 := n2_
             have BK223 := n3_
             have BK224 := n4_
             have BK225 := n5_
             have BK235 := n6_
             have HB := n7_
             clear n0_ n1_ n2_ n3_ n4_ n5_ n6_ n7_
             have p253 : 0 ≤ (x225003_3 : Int) := of_decide_eq_true (by first | (with_reducible assumption) | assumption)
             have q253 : x225003_3 < (l0_2.length : Int) := of_decide_eq_true (by first | (with_reducible assumption) | assumption)
             obtain ⟨ad253, e253, hx253_0⟩ := Kd.at_int HR0_2.out x225003_3 p253 q253
             have hw253_0 := hx253_0
             cases e253
             replace hx253_0 := (HB.out.cell (World.block_lt_of_cell? w _ hx253_0)).trans hx253_0
             replace p253 := eq_true p253
             replace q253 := eq_true q253
             obtain ⟨Ao110, co110, eo110⟩ := Kd.R_slice HO_236000.out
             (first | subst eo110 | (injection eo110 with f1_ f2_ f3_; have f4_ := f1_.symm; have f5_ := f3_.symm; clear f1_ f2_ f3_; subst f4_; subst f5_))
             refine start_ (n := 10) (S := fun w' => w'.cell? ⟨gb235, 0, none⟩ = some (.slice Ao110 x236000_3.length co110) ∧ w'.cell? ⟨gb235, 1, none⟩ = some (.slice Ao103 x236001_3.length co103) ∧ w'.cell? ⟨gb235, 2, none⟩ = some (.slice Ao36 y250.length co36) ∧ w'.cell? ⟨gb223, 0, none⟩ = some (.slice A0_0 l0_0.length c0_0) ∧ w'.cell? ⟨gb223, 1, none⟩ = some (.slice A0_1 l0_1.length c0_1) ∧ w'.cell? ⟨gb223, 2, none⟩ = some (.slice (some ad253) l0_2.length c0_2) ∧ w'.cell? ⟨gb224, 0, none⟩ = some (.int .u8 x225000_3) ∧ w'.cell? ⟨gb224, 1, none⟩ = some (.int .u8 x225001_3) ∧ w'.cell? ⟨gb224, 2, none⟩ = some (.int .u16 x225002_3) ∧ w'.cell? ⟨gb224, 3, none⟩ = some (.int .i64 x225003_3) ∧ w'.cell? (ad253.add (x225003_3).toNat) = some (.int .i64 (rd l0_2 x225003_3))) (ds := []) #[false, false, false, false, false, false, false, false, false, false] (by kernel_rfl) rfl rfl ⟨(blk_cell BK235.out 0).trans rfl, (blk_cell BK235.out 1).trans rfl, (blk_cell BK235.out 2).trans rfl, (blk_cell BK223.out 0).trans rfl, (blk_cell BK223.out 1).trans rfl, (blk_cell BK223.out 2).trans rfl, (blk_cell BK224.out 0).trans rfl, (blk_cell BK224.out 1).trans rfl, (blk_cell BK224.out 2).trans rfl, (blk_cell BK224.out 3).trans rfl, ((HB.out.cell (World.block_lt_of_cell? w _ hw253_0)).trans hw253_0)⟩ (fun hHeld => ?_); refine with_tabW garderoberef17_Return.tab15 garderoberef17_Return.bits15 (fun HT_ HW_ => ?_)
             generalize w108.drew = w109 at HO_236000 HO_236001 HO252 BK223 BK224 BK225 BK235 HB hx253_0 hHeld ⊢
             refine pure_ (i := 1) (N := some 96) (v := ?_) (a' := ?_) #[false, true, false, false, false, false, false, false, false, false] rfl rfl (any_of HT_.out (by kernel_rfl)) (fun _ _ _ h => h) (Or.inl ⟨by rfl, ?_⟩) ?_ ?_
             rotate_left
             ·intro w'
              go_simp
              with_reducible rfl
             rotate_left
             ·simp only [Act.put, List.setIfInBounds_toArray, List.set_cons_zero, List.set_cons_succ, i64_w, i32_w]
              rfl
             refine pure_ (i := 3) (N := some 98) (v := ?_) (a' := ?_) #[false, true, false, true, false, false, false, false, false, false] rfl rfl (any_of HT_.out (by kernel_rfl)) (fun _ _ _ h => h) (Or.inl ⟨by rfl, ?_⟩) ?_ ?_
             rotate_left
             ·intro w'
              go_simp
              with_reducible rfl
             rotate_left
             ·simp only [Act.put, List.setIfInBounds_toArray, List.set_cons_zero, List.set_cons_succ, i64_w, i32_w]
              rfl
             refine take_ (i := 0) (N := some 95) (v := ?_) (a' := ?_) #[true, true, false, true, false, false, false, false, false, false] rfl rfl (take_ofW HT_.out HW_.out (by kernel_rfl)) (fun _ _ _ h => h) (Or.inl ⟨by rfl, ?_⟩) hHeld ?_ ?_
             rotate_left
             ·rintro w' ⟨s0, s1, s2, s3, s4, s5, s6, s7, s8, s9, s10⟩
              (try simp only [Int.toNat_natCast] at s0 s1 s2 s3 s4 s5 s6 s7 s8 s9 s10)
              go_simp
              with_reducible rfl
             rotate_left
             ·simp only [Act.put, List.setIfInBounds_toArray, List.set_cons_zero, List.set_cons_succ, i64_w, i32_w]
              rfl
             refine take_ (i := 2) (N := some 97) (v := ?_) (a' := ?_) #[true, true, true, true, false, false, false, false, false, false] rfl rfl (take_ofW HT_.out HW_.out (by kernel_rfl)) (fun _ _ _ h => h) (Or.inl ⟨by rfl, ?_⟩) hHeld ?_ ?_
             rotate_left
             ·rintro w' ⟨s0, s1, s2, s3, s4, s5, s6, s7, s8, s9, s10⟩
              (try simp only [Int.toNat_natCast] at s0 s1 s2 s3 s4 s5 s6 s7 s8 s9 s10)
              go_simp
              with_reducible rfl
             rotate_left
             ·simp only [Act.put, List.setIfInBounds_toArray, List.set_cons_zero, List.set_cons_succ, i64_w, i32_w]
              rfl
             refine take_ (i := 4) (N := some 99) (v := ?_) (a' := ?_) #[true, true, true, true, true, false, false, false, false, false] rfl rfl (take_ofW HT_.out HW_.out (by kernel_rfl)) (fun _ _ _ h => h) (Or.inl ⟨by rfl, ?_⟩) hHeld ?_ ?_
             rotate_left
             ·rintro w' ⟨s0, s1, s2, s3, s4, s5, s6, s7, s8, s9, s10⟩
              (try simp only [Int.toNat_natCast] at s0 s1 s2 s3 s4 s5 s6 s7 s8 s9 s10)
              go_simp
              with_reducible rfl
             rotate_left
             ·simp only [Act.put, List.setIfInBounds_toArray, List.set_cons_zero, List.set_cons_succ, i64_w, i32_w]
              rfl
             refine pure_ (i := 5) (N := some 100) (v := ?_) (a' := ?_) #[true, true, true, true, true, true, false, false, false, false] rfl rfl (any_of HT_.out (by kernel_rfl)) (fun _ _ _ h => h) (Or.inl ⟨by rfl, ?_⟩) ?_ ?_
             rotate_left
             ·intro w'
              go_simp
              with_reducible rfl
             rotate_left
             ·simp only [Act.put, List.setIfInBounds_toArray, List.set_cons_zero, List.set_cons_succ, i64_w, i32_w]
              rfl
             refine take_ (i := 6) (N := some 101) (v := ?_) (a' := ?_) #[true, true, true, true, true, true, true, false, false, false] rfl rfl (take_ofW HT_.out HW_.out (by kernel_rfl)) (fun _ _ _ h => h) (Or.inl ⟨by rfl, ?_⟩) hHeld ?_ ?_
             rotate_left
             ·rintro w' ⟨s0, s1, s2, s3, s4, s5, s6, s7, s8, s9, s10⟩
              (try simp only [Int.toNat_natCast] at s0 s1 s2 s3 s4 s5 s6 s7 s8 s9 s10)
              go_simp
              with_reducible rfl
             rotate_left
             ·simp only [Act.put, List.setIfInBounds_toArray, List.set_cons_zero, List.set_cons_succ, i64_w, i32_w]
              rfl
             refine one_ (i := 7) (N := none) #[true, true, true, true, true, true, true, true, false, false] rfl rfl (one_of HT_.out (by kernel_rfl)) (by decide) (fun K hK => ?_)
             have hs111 : w109.cell? ⟨gb225, 0, none⟩ = some (.slice none 0 0) := (blk_cell BK225.out 0).trans rfl
             have hfs111 := blk_frozen BK225.out 0
             have hns111_0 := NB223_225.out
             have hns111_1 := NB224_225.out
             have hns111_3 := NB235_225.out
             have hms111_0 := NB225_223.out
             have hms111_1 := NB225_224.out
             have hms111_3 := NB225_235.out
             have hs112 : w109.cell? ⟨gb225, 1, none⟩ = some (.slice none 0 0) := (blk_cell BK225.out 1).trans rfl
             have hfs112 := blk_frozen BK225.out 1
             have hns112_0 := NB223_225.out
             have hns112_1 := NB224_225.out
             have hns112_3 := NB235_225.out
             have hms112_0 := NB225_223.out
             have hms112_1 := NB225_224.out
             have hms112_3 := NB225_235.out
             have hs113 : w109.cell? ⟨gb225, 2, none⟩ = some (.slice none 0 0) := (blk_cell BK225.out 2).trans rfl
             have hfs113 := blk_frozen BK225.out 2
             have hns113_0 := NB223_225.out
             have hns113_1 := NB224_225.out
             have hns113_3 := NB235_225.out
             have hms113_0 := NB225_223.out
             have hms113_1 := NB225_224.out
             have hms113_3 := NB225_235.out
             refine skip_ (w1 := ?_) (by rfl) rfl ?_ ?_
             rotate_left
             ·go_simp
              rfl
             refine hK.out _ _ ⟨((cell_far (p := ⟨gb225, _, none⟩) NB235_225.out _).trans (((cell_far (p := ⟨gb225, _, none⟩) NB235_225.out _).trans (((cell_far (p := ⟨gb225, _, none⟩) NB235_225.out _).trans (hHeld.1)))))), ((cell_far (p := ⟨gb225, _, none⟩) NB235_225.out _).trans (((cell_far (p := ⟨gb225, _, none⟩) NB235_225.out _).trans (((cell_far (p := ⟨gb225, _, none⟩) NB235_225.out _).trans (hHeld.2.1)))))), ((cell_far (p := ⟨gb225, _, none⟩) NB235_225.out _).trans (((cell_far (p := ⟨gb225, _, none⟩) NB235_225.out _).trans (((cell_far (p := ⟨gb225, _, none⟩) NB235_225.out _).trans (hHeld.2.2.1)))))), ((cell_far (p := ⟨gb225, _, none⟩) NB223_225.out _).trans (((cell_far (p := ⟨gb225, _, none⟩) NB223_225.out _).trans (((cell_far (p := ⟨gb225, _, none⟩) NB223_225.out _).trans (hHeld.2.2.2.1)))))), ((cell_far (p := ⟨gb225, _, none⟩) NB223_225.out _).trans (((cell_far (p := ⟨gb225, _, none⟩) NB223_225.out _).trans (((cell_far (p := ⟨gb225, _, none⟩) NB223_225.out _).trans (hHeld.2.2.2.2.1)))))), ((cell_far (p := ⟨gb225, _, none⟩) NB223_225.out _).trans (((cell_far (p := ⟨gb225, _, none⟩) NB223_225.out _).trans (((cell_far (p := ⟨gb225, _, none⟩) NB223_225.out _).trans (hHeld.2.2.2.2.2.1)))))), ((cell_far (p := ⟨gb225, _, none⟩) NB224_225.out _).trans (((cell_far (p := ⟨gb225, _, none⟩) NB224_225.out _).trans (((cell_far (p := ⟨gb225, _, none⟩) NB224_225.out _).trans (hHeld.2.2.2.2.2.2.1)))))), ((cell_far (p := ⟨gb225, _, none⟩) NB224_225.out _).trans (((cell_far (p := ⟨gb225, _, none⟩) NB224_225.out _).trans (((cell_far (p := ⟨gb225, _, none⟩) NB224_225.out _).trans (hHeld.2.2.2.2.2.2.2.1)))))), ((cell_far (p := ⟨gb225, _, none⟩) NB224_225.out _).trans (((cell_far (p := ⟨gb225, _, none⟩) NB224_225.out _).trans (((cell_far (p := ⟨gb225, _, none⟩) NB224_225.out _).trans (hHeld.2.2.2.2.2.2.2.2.1)))))), ((cell_far (p := ⟨gb225, _, none⟩) NB224_225.out _).trans (((cell_far (p := ⟨gb225, _, none⟩) NB224_225.out _).trans (((cell_far (p := ⟨gb225, _, none⟩) NB224_225.out _).trans (hHeld.2.2.2.2.2.2.2.2.2.1)))))), ((cell_far (p := ⟨gb225, _, none⟩) (by first | exact Nat.ne_of_lt (Nat.lt_of_lt_of_le (by have := World.block_lt_of_cell? _ _ hw253_0; first | rwa [add_block] at this | exact this) GW225.out) | (rw [add_block]; exact Nat.ne_of_lt (Nat.lt_of_lt_of_le (by have := World.block_lt_of_cell? _ _ hw253_0; first | rwa [add_block] at this | exact this) GW225.out)) | (show (Addr.add _ _).block ≠ _; rw [add_block]; exact Nat.ne_of_lt (Nat.lt_of_lt_of_le (by have := World.block_lt_of_cell? _ _ hw253_0; first | rwa [add_block] at this | exact this) GW225.out)) | (dsimp only; exact Nat.ne_of_lt (Nat.lt_of_lt_of_le (by have := World.block_lt_of_cell? _ _ hw253_0; first | rwa [add_block] at this | exact this) GW225.out))) _).trans (((cell_far (p := ⟨gb225, _, none⟩) (by first | exact Nat.ne_of_lt (Nat.lt_of_lt_of_le (by have := World.block_lt_of_cell? _ _ hw253_0; first | rwa [add_block] at this | exact this) GW225.out) | (rw [add_block]; exact Nat.ne_of_lt (Nat.lt_of_lt_of_le (by have := World.block_lt_of_cell? _ _ hw253_0; first | rwa [add_block] at this | exact this) GW225.out)) | (show (Addr.add _ _).block ≠ _; rw [add_block]; exact Nat.ne_of_lt (Nat.lt_of_lt_of_le (by have := World.block_lt_of_cell? _ _ hw253_0; first | rwa [add_block] at this | exact this) GW225.out)) | (dsimp only; exact Nat.ne_of_lt (Nat.lt_of_lt_of_le (by have := World.block_lt_of_cell? _ _ hw253_0; first | rwa [add_block] at this | exact this) GW225.out))) _).trans (((cell_far (p := ⟨gb225, _, none⟩) (by first | exact Nat.ne_of_lt (Nat.lt_of_lt_of_le (by have := World.block_lt_of_cell? _ _ hw253_0; first | rwa [add_block] at this | exact this) GW225.out) | (rw [add_block]; exact Nat.ne_of_lt (Nat.lt_of_lt_of_le (by have := World.block_lt_of_cell? _ _ hw253_0; first | rwa [add_block] at this | exact this) GW225.out)) | (show (Addr.add _ _).block ≠ _; rw [add_block]; exact Nat.ne_of_lt (Nat.lt_of_lt_of_le (by have := World.block_lt_of_cell? _ _ hw253_0; first | rwa [add_block] at this | exact this) GW225.out)) | (dsimp only; exact Nat.ne_of_lt (Nat.lt_of_lt_of_le (by have := World.block_lt_of_cell? _ _ hw253_0; first | rwa [add_block] at this | exact this) GW225.out))) _).trans (hHeld.2.2.2.2.2.2.2.2.2.2))))))⟩ (fun hHeld => ?_)
             clear hK K
             refine pure_ (i := 8) (N := some 5) (v := ?_) (a' := ?_) #[true, true, true, true, true, true, true, true, true, false] rfl rfl (any_of HT_.out (by kernel_rfl)) (fun _ _ _ h => h) (Or.inl ⟨by rfl, ?_⟩) ?_ ?_
             rotate_left
             ·intro w'
              go_simp
              with_reducible rfl
             rotate_left
             ·simp only [Act.put, List.setIfInBounds_toArray, List.set_cons_zero, List.set_cons_succ, i64_w, i32_w]
              rfl
             refine pure_ (i := 9) (N := some 6) (v := ?_) (a' := ?_) #[true, true, true, true, true, true, true, true, true, true] rfl rfl (any_of HT_.out (by kernel_rfl)) (fun _ _ _ h => h) (Or.inl ⟨by rfl, ?_⟩) ?_ ?_
             rotate_left
             ·intro w'
              go_simp
              with_reducible rfl
             rotate_left
             ·simp only [Act.put, List.setIfInBounds_toArray, List.set_cons_zero, List.set_cons_succ, i64_w, i32_w]
              rfl
             refine done_ (done_of HT_.out (by kernel_rfl)) ?_
             try go_wp2
             refine bodyPost_ret (results_ctt rfl _ _ gb225 53 #[.slice Ao110 x236000_3.length co110, .slice Ao103 x236001_3.length co103, .slice Ao36 y250.length co36] (0, 0) _ rfl (by (with_reducible repeat (first | refine blk_drewN ?_ _ | refine blk_drew ?_ | refine blk_alloc ?_ _)); refine blk_put (cs := #[.slice Ao110 x236000_3.length co110, .slice Ao103 x236001_3.length co103, .slice none 0 0]) ?_ 2 _ rfl; (with_reducible repeat (first | refine blk_drewN ?_ _ | refine blk_drew ?_ | refine blk_alloc ?_ _)); refine blk_put (cs := #[.slice Ao110 x236000_3.length co110, .slice none 0 0, .slice none 0 0]) ?_ 1 _ rfl; (with_reducible repeat (first | refine blk_drewN ?_ _ | refine blk_drew ?_ | refine blk_alloc ?_ _)); refine blk_put (cs := #[.slice none 0 0, .slice none 0 0, .slice none 0 0]) ?_ 0 _ rfl; (with_reducible repeat (first | refine blk_drewN ?_ _ | refine blk_drew ?_ | refine blk_alloc ?_ _)); exact BK225.out) Try.underlying53 rfl (by kernel_rfl)) rfl ?_
             exact ⟨_, _, _, by first | rfl | (simp [errW_none, errW_some] <;> rfl) | (simp [*, errW_none, errW_some] <;> rfl), by (with_reducible repeat (first | apply Kd.R_alloc | apply Kd.R_drewN | apply Kd.R_drew)); exact Kd.R_mono (Kd.R_far (p := ⟨gb225, 2, none⟩) (Kd.R_far (p := ⟨gb225, 1, none⟩) (Kd.R_far (p := ⟨gb225, 0, none⟩) (Kd.R_types HO_236000.out BK225.out (by decide)) (fun _ hk => hk.2) (.slice Ao110 x236000_3.length co110)) (fun _ hk => hk.2) (.slice Ao103 x236001_3.length co103)) (fun _ hk => hk.2) (.slice Ao36 y250.length co36)) (fun _ hk => hk.1.1), by (with_reducible repeat (first | apply Kd.R_alloc | apply Kd.R_drewN | apply Kd.R_drew)); exact Kd.R_mono (Kd.R_far (p := ⟨gb225, 2, none⟩) (Kd.R_far (p := ⟨gb225, 1, none⟩) (Kd.R_far (p := ⟨gb225, 0, none⟩) (Kd.R_types HO_236001.out BK225.out (by decide)) (fun _ hk => hk.2) (.slice Ao110 x236000_3.length co110)) (fun _ hk => hk.2) (.slice Ao103 x236001_3.length co103)) (fun _ hk => hk.2) (.slice Ao36 y250.length co36)) (fun _ hk => hk.1.1), by (with_reducible repeat (first | apply Kd.R_alloc | apply Kd.R_drewN | apply Kd.R_drew)); exact Kd.R_mono (Kd.R_far (p := ⟨gb225, 2, none⟩) (Kd.R_far (p := ⟨gb225, 1, none⟩) (Kd.R_far (p := ⟨gb225, 0, none⟩) (Kd.R_types HO252.out BK225.out (by decide)) (fun _ hk => hk.2) (.slice Ao110 x236000_3.length co110)) (fun _ hk => hk.2) (.slice Ao103 x236001_3.length co103)) (fun _ hk => hk.2) (.slice Ao36 y250.length co36)) (fun _ hk => trivial), by repeat (first | (with_reducible first | exact HB.out | apply below_alloc | apply pw_below_drewN | apply below_drew1 | refine below_set ?_ GE223.out | refine below_set ?_ GE224.out | refine below_set ?_ GE225.out | refine below_set ?_ GE235.out) | exact HB.out)⟩
            ·rw [if_neg c98] at H
             exact absurd H (by simp)
           ·rw [if_neg c97] at H
            exact absurd H (by simp)
          ·rw [if_neg c96] at H
           exact absurd H (by simp)

end Go.Proofs.Ytjknnifcbcdjiaa.PShapeCalls
