/- Printed by a program of this session (pr.py). -/
import Derived.Test.YtjknnifcbcdjiaaPValsAnyx0
import Derived.Test.YtjknnifcbcdjiaaPValsAnyx3
import Derived.Test.YtjknnifcbcdjiaaPValsAnyx4
import Derived.Test.YtjknnifcbcdjiaaPValsAnyx7
import Derived.Test.YtjknnifcbcdjiaaWorldW
import Derived.Test.YtjknnifcbcdjiaaShort
namespace Go.Proofs.Ytjknnifcbcdjiaa.PValsAny
open Go.RowKit Go.Proofs.YtjknnifcbcdjiaaW.PrintWords Go.Proofs.YtjknnifcbcdjiaaW.PrintLast Go.Proofs.YtjknnifcbcdjiaaW.PrintMore Go.Proofs.Ytjknnifcbcdjiaa.Short
attribute [local go_sem] max2_int min2_int max_two min_two max_three min_three max_four min_four   -- for this text's walks alone
set_option linter.unusedVariables false
set_option linter.unusedSimpArgs false

/-! ### vals_Fits: function 35 -/
def vals_Fits.j0 : Nat → Bool → List (S103) → List (S38) → List (S206) → List (S117) → Int → Int → Int → Int → Int → Int → Option (Bool)
 | 0, _, _, _, _, _, _, _, _, _, _, _ => none
 | k + 1, x15, x153000, x153001, x153002, x153003, x154000, x154001, x154002, x154003, x155000, x155001 => if x15 = true then (some false) else (if x154000 = 2 then ((types_IsRef.f k x155000 x155001).bind fun t157 => (some (!t157))) else (if x154000 = 3 then ((types_IsRef.f k x155000 x155001).bind fun t158 => (some t158)) else (if x154000 = 4 then ((hier_Fits.f k x153000 x153001 x153002 x153003 x154001 x154002 x155000 x155001).bind fun t159 => (some t159)) else (some false))))
def vals_Fits.f (k : Nat) (l0_0 : List (S103)) (l0_1 : List (S38)) (l0_2 : List (S206)) (l0_3 : List (S117)) (a1_0 : Int) (a1_1 : Int) (a1_2 : Int) (a1_3 : Int) (a2_0 : Int) (a2_1 : Int) : Option (Bool) := (vals_May.f k l0_0 l0_1 l0_2 l0_3 a1_0 a1_1 a1_2 a1_3).bind fun t155 => (if t155 = true then ((types_May.f k a2_0 a2_1).bind fun t156 => (vals_Fits.j0 k (!t156) l0_0 l0_1 l0_2 l0_3 a1_0 a1_1 a1_2 a1_3 a2_0 a2_1)) else (vals_Fits.j0 k true l0_0 l0_1 l0_2 l0_3 a1_0 a1_1 a1_2 a1_3 a2_0 a2_1))
theorem vals_Fits.mono_l : ∀ k, (∀ y0 y1 y2 y3 y4 y5 y6 y7 y8 y9 y10, LeO (vals_Fits.j0 k y0 y1 y2 y3 y4 y5 y6 y7 y8 y9 y10) (vals_Fits.j0 (k + 1) y0 y1 y2 y3 y4 y5 y6 y7 y8 y9 y10))
 | 0 => fun _ _ _ _ _ _ _ _ _ _ _ r h => by simp [vals_Fits.j0] at h
 | k + 1 => by
  have ih0 := vals_Fits.mono_l k
  ·intro y0 y1 y2 y3 y4 y5 y6 y7 y8 y9 y10
   unfold vals_Fits.j0
   repeat' first
   | (with_reducible exact ih0 _ _ _ _ _ _ _ _ _ _ _)
   | (with_reducible exact hier_Fits.mono _ _ _ _ _ _ _ _ _)
   | (with_reducible exact types_IsRef.mono _ _ _)
   | (with_reducible exact types_May.mono _ _ _)
   | (with_reducible exact vals_May.mono _ _ _ _ _ _ _ _ _)
   | (with_reducible exact LeO.refl _)
   | (with_reducible exact LeO.none _)
   | (with_reducible refine LeO.ite ?_ ?_)
   | (with_reducible refine LeO.bind ?_ (fun _ => ?_))
   | exact ih0 _ _ _ _ _ _ _ _ _ _ _
   | exact hier_Fits.mono _ _ _ _ _ _ _ _ _
   | exact types_IsRef.mono _ _ _
   | exact types_May.mono _ _ _
   | exact vals_May.mono _ _ _ _ _ _ _ _ _
   | exact LeO.none _
   | refine LeO.ite ?_ ?_
   | refine LeO.bind ?_ (fun _ => ?_)
theorem vals_Fits.mono : ∀ a0 a1 a2 a3 a4 a5 a6 a7 a8 a9 k, LeO (vals_Fits.f k a0 a1 a2 a3 a4 a5 a6 a7 a8 a9) (vals_Fits.f (k + 1) a0 a1 a2 a3 a4 a5 a6 a7 a8 a9) := by
 intro a0 a1 a2 a3 a4 a5 a6 a7 a8 a9 k
 have ih0 := vals_Fits.mono_l k
 unfold vals_Fits.f
 repeat' first
   | (with_reducible exact ih0 _ _ _ _ _ _ _ _ _ _ _)
   | (with_reducible exact hier_Fits.mono _ _ _ _ _ _ _ _ _)
   | (with_reducible exact types_IsRef.mono _ _ _)
   | (with_reducible exact types_May.mono _ _ _)
   | (with_reducible exact vals_May.mono _ _ _ _ _ _ _ _ _)
   | (with_reducible exact LeO.refl _)
   | (with_reducible exact LeO.none _)
   | (with_reducible refine LeO.ite ?_ ?_)
   | (with_reducible refine LeO.bind ?_ (fun _ => ?_))
   | exact ih0 _ _ _ _ _ _ _ _ _ _ _
   | exact hier_Fits.mono _ _ _ _ _ _ _ _ _
   | exact types_IsRef.mono _ _ _
   | exact types_May.mono _ _ _
   | exact vals_May.mono _ _ _ _ _ _ _ _ _
   | exact LeO.none _
   | refine LeO.ite ?_ ?_
   | refine LeO.bind ?_ (fun _ => ?_)
set_option maxHeartbeats 8000000 in
set_option maxRecDepth 100000 in
theorem vals_Fits.calls (k : Nat) (A0_0 : Option Addr) (c0_0 : Nat) (l0_0 : List (S103)) (A0_1 : Option Addr) (c0_1 : Nat) (l0_1 : List (S38)) (A0_2 : Option Addr) (c0_2 : Nat) (l0_2 : List (S206)) (A0_3 : Option Addr) (c0_3 : Nat) (l0_3 : List (S117)) (a1_0 : Int) (a1_1 : Int) (a1_2 : Int) (a1_3 : Int) (a2_0 : Int) (a2_1 : Int) (r : Bool) (w : World) (hr0_0 : Kd.C k103 w A0_0 l0_0.length l0_0) (hc0_0 : l0_0.length ≤ c0_0) (hr0_1 : Kd.C k38 w A0_1 l0_1.length l0_1) (hc0_1 : l0_1.length ≤ c0_1) (hr0_2 : Kd.C k206 w A0_2 l0_2.length l0_2) (hc0_2 : l0_2.length ≤ c0_2) (hr0_3 : Kd.C k117 w A0_3 l0_3.length l0_3) (hc0_3 : l0_3.length ≤ c0_3) (h : vals_Fits.f k l0_0 l0_1 l0_2 l0_3 a1_0 a1_1 a1_2 a1_3 a2_0 a2_1 = some r) :
  Calls Try.prog 35 #[.agg #[.slice A0_0 l0_0.length c0_0, .slice A0_1 l0_1.length c0_1, .slice A0_2 l0_2.length c0_2, .slice A0_3 l0_3.length c0_3], .agg #[.int .u8 a1_0, .int .u8 a1_1, .int .u16 a1_2, .int .i64 a1_3], .agg #[.int .u8 a2_0, .int .u16 a2_1]] w fun e w' => e = .returned (.bool r) ∧ Below w.heap.size w w' := by
 have hu27 := Try.underlying27
 have hu56 := Try.underlying56
 have hu32 := Try.underlying32
 have HR0_0 := Aside0.mk hr0_0
 have HC0_0 := Aside0.mk hc0_0
 clear hr0_0 hc0_0
 have HR0_1 := Aside0.mk hr0_1
 have HC0_1 := Aside0.mk hc0_1
 clear hr0_1 hc0_1
 have HR0_2 := Aside0.mk hr0_2
 have HC0_2 := Aside0.mk hc0_2
 clear hr0_2 hc0_2
 have HR0_3 := Aside0.mk hr0_3
 have HC0_3 := Aside0.mk hc0_3
 clear hr0_3 hc0_3
 have HB := Aside0.mk (Below.refl w.heap.size w)
 have H : ((vals_May.f k l0_0 l0_1 l0_2 l0_3 a1_0 a1_1 a1_2 a1_3).bind fun t155 => (if t155 = true then ((types_May.f k a2_0 a2_1).bind fun t156 => (vals_Fits.j0 k (!t156) l0_0 l0_1 l0_2 l0_3 a1_0 a1_1 a1_2 a1_3 a2_0 a2_1)) else (vals_Fits.j0 k true l0_0 l0_1 l0_2 l0_3 a1_0 a1_1 a1_2 a1_3 a2_0 a2_1))) = some r := h
 clear h
 have HC4 := Aside0.mk H
 clear H
 go_enter Try.func35, Try.ntmps35
 go_upto_region 1 with (first | ((with_reducible refine gate_dst (N := 3) rfl ?_); refine box_event ?hg (N := 3) ?hd (cs := #[.slice A0_0 l0_0.length c0_0, .slice A0_1 l0_1.length c0_1, .slice A0_2 l0_2.length c0_2, .slice A0_3 l0_3.length c0_3]) (t := 27) ?hr ?_; (case hd => rfl); (case hg => rfl); (case hr => first | (go_simp; done) | (go_simp; rfl)); intro gb152 hg w5 hbox hb; have n0_ := Aside0.mk (below_step (qW HB.out) hb); have n1_ := Aside0.mk (hbox); have n2_ := Aside0.mk ((by rw [hg]; exact (below_size (qW HB.out)) : w.heap.size ≤ gb152)); have n3_ := Aside0.mk ((by rw [hg]; exact (below_size (qW HB.out)) : w.heap.size ≤ gb152)); clear HB; have HB := n0_; have BK152 := n1_; have GW152 := n2_; have GE152 := n3_; clear n0_ n1_ n2_ n3_; clear hb hbox hg) | ((with_reducible refine gate_dst (N := 4) rfl ?_); refine box_event ?hg (N := 4) ?hd (cs := #[.int .u8 a1_0, .int .u8 a1_1, .int .u16 a1_2, .int .i64 a1_3]) (t := 56) ?hr ?_; (case hd => rfl); (case hg => rfl); (case hr => first | (go_simp; done) | (go_simp; rfl)); intro gb153 hg w6 hbox hb; have n0_ := Aside0.mk (blk_below (qb BK152.out) hb); have n1_ := Aside0.mk (below_step (qW HB.out) hb); have n2_ := Aside0.mk (hbox); have n3_ := Aside0.mk ((by rw [hg]; exact (below_size (qW HB.out)) : w.heap.size ≤ gb153)); have n4_ := Aside0.mk ((by rw [hg]; exact (below_size (qW HB.out)) : w.heap.size ≤ gb153)); have n5_ := Aside0.mk ((by rw [hg]; exact Nat.ne_of_lt (blk_lt (qb BK152.out)) : gb152 ≠ gb153)); have n6_ := Aside0.mk ((by rw [hg]; exact Nat.ne_of_gt (blk_lt (qb BK152.out)) : gb153 ≠ gb152)); clear BK152 HB; have BK152 := n0_; have HB := n1_; have BK153 := n2_; have GW153 := n3_; have GE153 := n4_; have NB152_153 := n5_; have NB153_152 := n6_; clear n0_ n1_ n2_ n3_ n4_ n5_ n6_; clear hb hbox hg) | ((with_reducible refine gate_dst (N := 5) rfl ?_); refine box_event ?hg (N := 5) ?hd (cs := #[.int .u8 a2_0, .int .u16 a2_1]) (t := 32) ?hr ?_; (case hd => rfl); (case hg => rfl); (case hr => first | (go_simp; done) | (go_simp; rfl)); intro gb154 hg w7 hbox hb; have n0_ := Aside0.mk (blk_below (qb BK152.out) hb); have n1_ := Aside0.mk (blk_below (qb BK153.out) hb); have n2_ := Aside0.mk (below_step (qW HB.out) hb); have n3_ := Aside0.mk (hbox); have n4_ := Aside0.mk ((by rw [hg]; exact (below_size (qW HB.out)) : w.heap.size ≤ gb154)); have n5_ := Aside0.mk ((by rw [hg]; exact (below_size (qW HB.out)) : w.heap.size ≤ gb154)); have n6_ := Aside0.mk ((by rw [hg]; exact Nat.ne_of_lt (blk_lt (qb BK152.out)) : gb152 ≠ gb154)); have n7_ := Aside0.mk ((by rw [hg]; exact Nat.ne_of_gt (blk_lt (qb BK152.out)) : gb154 ≠ gb152)); have n8_ := Aside0.mk ((by rw [hg]; exact Nat.ne_of_lt (blk_lt (qb BK153.out)) : gb153 ≠ gb154)); have n9_ := Aside0.mk ((by rw [hg]; exact Nat.ne_of_gt (blk_lt (qb BK153.out)) : gb154 ≠ gb153)); clear BK152 BK153 HB; have BK152 := n0_; have BK153 := n1_; have HB := n2_; have BK154 := n3_; have GW154 := n4_; have GE154 := n5_; have NB152_154 := n6_; have NB154_152 := n7_; have NB153_154 := n8_; have NB154_153 := n9_; clear n0_ n1_ n2_ n3_ n4_ n5_ n6_ n7_ n8_ n9_; clear hb hbox hg))
 (try simp only [Act.put, List.setIfInBounds_toArray, List.set_cons_zero, List.set_cons_succ])
 go_cut [15] (fun v15 wc => ∃ (kq : Nat) (x15_3 : Bool), v15 = .bool x15_3 ∧ Aside0 (vals_Fits.j0 kq x15_3 l0_0 l0_1 l0_2 l0_3 a1_0 a1_1 a1_2 a1_3 a2_0 a2_1 = some r) ∧ Aside0 (kq ≤ k) ∧ Aside0 (wc.heap[gb152]? = some (.cells #[(.slice A0_0 l0_0.length c0_0), (.slice A0_1 l0_1.length c0_1), (.slice A0_2 l0_2.length c0_2), (.slice A0_3 l0_3.length c0_3)] 27 (0, 0))) ∧ Aside0 (wc.heap[gb153]? = some (.cells #[.int .u8 a1_0, .int .u8 a1_1, .int .u16 a1_2, .int .i64 a1_3] 56 (0, 0))) ∧ Aside0 (wc.heap[gb154]? = some (.cells #[.int .u8 a2_0, .int .u16 a2_1] 32 (0, 0))) ∧ Aside0 (Below w.heap.size w wc))
 case first =>
  have H := HC4.out
  clear HC4
  replace H := Option.bind_eq_some_iff.mp H
  obtain ⟨t155, A80, H⟩ := H
  replace H : (if t155 = true then ((types_May.f k a2_0 a2_1).bind fun t156 => (vals_Fits.j0 k (!t156) l0_0 l0_1 l0_2 l0_3 a1_0 a1_1 a1_2 a1_3 a2_0 a2_1)) else (vals_Fits.j0 k true l0_0 l0_1 l0_2 l0_3 a1_0 a1_1 a1_2 a1_3 a2_0 a2_1)) = some r := H
  have A8 := Aside0.mk A80
  clear A80
  by_cases c9 : t155 = true
  ·subst c9
   have H1 : ((types_May.f k a2_0 a2_1).bind fun t156 => (vals_Fits.j0 k (!t156) l0_0 l0_1 l0_2 l0_3 a1_0 a1_1 a1_2 a1_3 a2_0 a2_1)) = some r := by rw [if_pos rfl] at H; exact H
   clear H
   have H := H1
   clear H1
   replace H := Option.bind_eq_some_iff.mp H
   obtain ⟨t156, A100, H⟩ := H
   replace H : (vals_Fits.j0 k (!t156) l0_0 l0_1 l0_2 l0_3 a1_0 a1_1 a1_2 a1_3 a2_0 a2_1) = some r := H
   have A10 := Aside0.mk A100
   clear A100
   have H' := Aside0.mk H
   clear H
   have hnb11 := NB152_153.out
   have hnc11 := NB153_152.out
   have hnb12 := NB152_154.out
   have hnc12 := NB154_152.out
   have hcz13_0 : w7.cell? ⟨gb152, 0, none⟩ = some (.slice A0_0 l0_0.length c0_0) := (blk_cell BK152.out 0).trans rfl
   have hcz13_1 : w7.cell? ⟨gb152, 1, none⟩ = some (.slice A0_1 l0_1.length c0_1) := (blk_cell BK152.out 1).trans rfl
   have hcz13_2 : w7.cell? ⟨gb152, 2, none⟩ = some (.slice A0_2 l0_2.length c0_2) := (blk_cell BK152.out 2).trans rfl
   have hcz13_3 : w7.cell? ⟨gb152, 3, none⟩ = some (.slice A0_3 l0_3.length c0_3) := (blk_cell BK152.out 3).trans rfl
   have hfz13_0 := blk_frozen BK152.out 0
   have hfz13_1 := blk_frozen BK152.out 1
   have hfz13_2 := blk_frozen BK152.out 2
   have hfz13_3 := blk_frozen BK152.out 3
   have hnb14 := NB153_154.out
   have hnc14 := NB154_153.out
   have hcz15_0 : w7.cell? ⟨gb153, 0, none⟩ = some (.int .u8 a1_0) := (blk_cell BK153.out 0).trans rfl
   have hcz15_1 : w7.cell? ⟨gb153, 1, none⟩ = some (.int .u8 a1_1) := (blk_cell BK153.out 1).trans rfl
   have hcz15_2 : w7.cell? ⟨gb153, 2, none⟩ = some (.int .u16 a1_2) := (blk_cell BK153.out 2).trans rfl
   have hcz15_3 : w7.cell? ⟨gb153, 3, none⟩ = some (.int .i64 a1_3) := (blk_cell BK153.out 3).trans rfl
   have hfz15_0 := blk_frozen BK153.out 0
   have hfz15_1 := blk_frozen BK153.out 1
   have hfz15_2 := blk_frozen BK153.out 2
   have hfz15_3 := blk_frozen BK153.out 3
   go_wp2_with (first | ((with_reducible refine gate_callee (f := 37) rfl ?_); refine goesL_ (some 9) rfl rfl Try.func37 (by kernel_rfl) rfl #[.agg #[.slice A0_0 l0_0.length c0_0, .slice A0_1 l0_1.length c0_1, .slice A0_2 l0_2.length c0_2, .slice A0_3 l0_3.length c0_3], .agg #[.int .u8 a1_0, .int .u8 a1_1, .int .u16 a1_2, .int .i64 a1_3]] rfl (by (try simp only [List.map_toArray, List.map_cons, List.map_nil]); first | done | rfl | (simp only [List.length_drop, List.length_take]; rfl)) ?_; (with_reducible refine (vals_May.calls k _ _ l0_0 _ _ l0_1 _ _ l0_2 _ _ l0_3 a1_0 a1_1 a1_2 a1_3 true _ ?side1 ?side2 ?side3 ?side4 ?side5 ?side6 ?side7 ?side8 A8.out).mono ?_); (case side1 => exact qC (Kd.C_below HR0_0.out HB.out)); (case side2 => exact HC0_0.out); (case side3 => exact qC (Kd.C_below HR0_1.out HB.out)); (case side4 => exact HC0_1.out); (case side5 => exact qC (Kd.C_below HR0_2.out HB.out)); (case side6 => exact HC0_2.out); (case side7 => exact qC (Kd.C_below HR0_3.out HB.out)); (case side8 => exact HC0_3.out); rintro e w16 ⟨rfl, hb⟩; refine ⟨_, rfl, ?_⟩; have n0_ := Aside0.mk (blk_below (qb BK152.out) hb); have n1_ := Aside0.mk (blk_below (qb BK153.out) hb); have n2_ := Aside0.mk (blk_below (qb BK154.out) hb); have n3_ := Aside0.mk (below_step (qW HB.out) hb); clear BK152 BK153 BK154 HB; have BK152 := n0_; have BK153 := n1_; have BK154 := n2_; have HB := n3_; clear n0_ n1_ n2_ n3_; (try clear hb); (try clear hb2); (try clear hk); (try clear hi); have hcz17_0 : w16.cell? ⟨gb154, 0, none⟩ = some (.int .u8 a2_0) := (blk_cell BK154.out 0).trans rfl; have hcz17_1 : w16.cell? ⟨gb154, 1, none⟩ = some (.int .u16 a2_1) := (blk_cell BK154.out 1).trans rfl; have hfz17_0 := blk_frozen BK154.out 0; have hfz17_1 := blk_frozen BK154.out 1) | (go_at_call 68; (with_reducible refine (types_May.calls k a2_0 a2_1 t156 _ A10.out).mono ?_); rintro e w18 ⟨rfl, hb⟩; have n0_ := Aside0.mk (blk_below (qb BK152.out) hb); have n1_ := Aside0.mk (blk_below (qb BK153.out) hb); have n2_ := Aside0.mk (blk_below (qb BK154.out) hb); have n3_ := Aside0.mk (below_step (qW HB.out) hb); clear BK152 BK153 BK154 HB; have BK152 := n0_; have BK153 := n1_; have BK154 := n2_; have HB := n3_; clear n0_ n1_ n2_ n3_; (try clear hb); (try clear hb2); (try clear hk); (try clear hi)))
   go_meet
   case rel => exact ⟨_, (!t156), (by first | rfl | (simp; done) | (simp [*]; done)), H', ⟨by first | omega | exact Nat.le_refl _⟩, ⟨qf BK152.out⟩, ⟨qf BK153.out⟩, ⟨qf BK154.out⟩, ⟨qW HB.out⟩⟩
  ·replace c9 := Bool.eq_false_iff.mpr c9
   subst c9
   have H1 : (vals_Fits.j0 k true l0_0 l0_1 l0_2 l0_3 a1_0 a1_1 a1_2 a1_3 a2_0 a2_1) = some r := by rw [if_neg (show ¬ (false = true) by decide)] at H; exact H
   clear H
   have H := H1
   clear H1
   have H' := Aside0.mk H
   clear H
   have hnb19 := NB152_153.out
   have hnc19 := NB153_152.out
   have hnb20 := NB152_154.out
   have hnc20 := NB154_152.out
   have hcz21_0 : w7.cell? ⟨gb152, 0, none⟩ = some (.slice A0_0 l0_0.length c0_0) := (blk_cell BK152.out 0).trans rfl
   have hcz21_1 : w7.cell? ⟨gb152, 1, none⟩ = some (.slice A0_1 l0_1.length c0_1) := (blk_cell BK152.out 1).trans rfl
   have hcz21_2 : w7.cell? ⟨gb152, 2, none⟩ = some (.slice A0_2 l0_2.length c0_2) := (blk_cell BK152.out 2).trans rfl
   have hcz21_3 : w7.cell? ⟨gb152, 3, none⟩ = some (.slice A0_3 l0_3.length c0_3) := (blk_cell BK152.out 3).trans rfl
   have hfz21_0 := blk_frozen BK152.out 0
   have hfz21_1 := blk_frozen BK152.out 1
   have hfz21_2 := blk_frozen BK152.out 2
   have hfz21_3 := blk_frozen BK152.out 3
   have hnb22 := NB153_154.out
   have hnc22 := NB154_153.out
   have hcz23_0 : w7.cell? ⟨gb153, 0, none⟩ = some (.int .u8 a1_0) := (blk_cell BK153.out 0).trans rfl
   have hcz23_1 : w7.cell? ⟨gb153, 1, none⟩ = some (.int .u8 a1_1) := (blk_cell BK153.out 1).trans rfl
   have hcz23_2 : w7.cell? ⟨gb153, 2, none⟩ = some (.int .u16 a1_2) := (blk_cell BK153.out 2).trans rfl
   have hcz23_3 : w7.cell? ⟨gb153, 3, none⟩ = some (.int .i64 a1_3) := (blk_cell BK153.out 3).trans rfl
   have hfz23_0 := blk_frozen BK153.out 0
   have hfz23_1 := blk_frozen BK153.out 1
   have hfz23_2 := blk_frozen BK153.out 2
   have hfz23_3 := blk_frozen BK153.out 3
   go_wp2_with (first | ((with_reducible refine gate_callee (f := 37) rfl ?_); refine goesL_ (some 9) rfl rfl Try.func37 (by kernel_rfl) rfl #[.agg #[.slice A0_0 l0_0.length c0_0, .slice A0_1 l0_1.length c0_1, .slice A0_2 l0_2.length c0_2, .slice A0_3 l0_3.length c0_3], .agg #[.int .u8 a1_0, .int .u8 a1_1, .int .u16 a1_2, .int .i64 a1_3]] rfl (by (try simp only [List.map_toArray, List.map_cons, List.map_nil]); first | done | rfl | (simp only [List.length_drop, List.length_take]; rfl)) ?_; (with_reducible refine (vals_May.calls k _ _ l0_0 _ _ l0_1 _ _ l0_2 _ _ l0_3 a1_0 a1_1 a1_2 a1_3 false _ ?side1 ?side2 ?side3 ?side4 ?side5 ?side6 ?side7 ?side8 A8.out).mono ?_); (case side1 => exact qC (Kd.C_below HR0_0.out HB.out)); (case side2 => exact HC0_0.out); (case side3 => exact qC (Kd.C_below HR0_1.out HB.out)); (case side4 => exact HC0_1.out); (case side5 => exact qC (Kd.C_below HR0_2.out HB.out)); (case side6 => exact HC0_2.out); (case side7 => exact qC (Kd.C_below HR0_3.out HB.out)); (case side8 => exact HC0_3.out); rintro e w24 ⟨rfl, hb⟩; refine ⟨_, rfl, ?_⟩; have n0_ := Aside0.mk (blk_below (qb BK152.out) hb); have n1_ := Aside0.mk (blk_below (qb BK153.out) hb); have n2_ := Aside0.mk (blk_below (qb BK154.out) hb); have n3_ := Aside0.mk (below_step (qW HB.out) hb); clear BK152 BK153 BK154 HB; have BK152 := n0_; have BK153 := n1_; have BK154 := n2_; have HB := n3_; clear n0_ n1_ n2_ n3_; (try clear hb); (try clear hb2); (try clear hk); (try clear hi)))
   go_meet
   case rel => exact ⟨_, (true), (by first | rfl | (simp; done) | (simp [*]; done)), H', ⟨by first | omega | exact Nat.le_refl _⟩, ⟨qf BK152.out⟩, ⟨qf BK153.out⟩, ⟨qf BK154.out⟩, ⟨qW HB.out⟩⟩
 case rest =>
  clear HC4
  try clear c1
  try clear c2
  try clear p2
  try clear c3
  try clear c9
  try clear c11
  try clear c12
  try clear c14
  try clear c19
  try clear c20
  try clear c22
  try clear hcz13_0
  try clear hcz13_1
  try clear hcz13_2
  try clear hcz13_3
  try clear hcz15_0
  try clear hcz15_1
  try clear hcz15_2
  try clear hcz15_3
  try clear hcz17_0
  try clear hcz17_1
  try clear hcz21_0
  try clear hcz21_1
  try clear hcz21_2
  try clear hcz21_3
  try clear hcz23_0
  try clear hcz23_1
  try clear hcz23_2
  try clear hcz23_3
  try clear hfz13_0
  try clear hfz13_1
  try clear hfz13_2
  try clear hfz13_3
  try clear hfz15_0
  try clear hfz15_1
  try clear hfz15_2
  try clear hfz15_3
  try clear hfz17_0
  try clear hfz17_1
  try clear hfz21_0
  try clear hfz21_1
  try clear hfz21_2
  try clear hfz21_3
  try clear hfz23_0
  try clear hfz23_1
  try clear hfz23_2
  try clear hfz23_3
  obtain ⟨kq, x15_3, rfl, HA, HJ3, BK152, BK153, BK154, HB⟩ := hcut
  cases kq with
  | zero => exact absurd HA.out (by simp [vals_Fits.j0])
  | succ kj3 =>
   have H := HA.out
   clear HA
   simp only [vals_Fits.j0] at H
   by_cases c25 : x15_3 = true
   ·subst c25
    have H1 : (some false) = some r := by rw [if_pos rfl] at H; exact H
    clear H
    have H := H1
    clear H1
    obtain rfl := Option.some.inj H
    go_wp2
    go_ret
    exact ⟨by first | rfl | (simp [errW_none, errW_some] <;> rfl) | (simp [*, errW_none, errW_some] <;> rfl), by repeat (first | (with_reducible first | exact HB.out | apply below_alloc | apply pw_below_drewN | apply below_drew1 | refine below_set ?_ GE152.out | refine below_set ?_ GE153.out | refine below_set ?_ GE154.out) | exact HB.out)⟩
   ·replace c25 := Bool.eq_false_iff.mpr c25
    subst c25
    have H1 : (if a1_0 = 2 then ((types_IsRef.f kj3 a2_0 a2_1).bind fun t157 => (some (!t157))) else (if a1_0 = 3 then ((types_IsRef.f kj3 a2_0 a2_1).bind fun t158 => (some t158)) else (if a1_0 = 4 then ((hier_Fits.f kj3 l0_0 l0_1 l0_2 l0_3 a1_1 a1_2 a2_0 a2_1).bind fun t159 => (some t159)) else (some false)))) = some r := by rw [if_neg (show ¬ (false = true) by decide)] at H; exact H
    clear H
    have H := H1
    clear H1
    by_cases c26 : a1_0 = 2
    ·rw [if_pos c26] at H
     have c26b0 : (a1_0 == 2) = true := beq_iff_eq.mpr c26
     have c26b1 : (a1_0 != 2) = false := bne_eq_false_iff_eq.mpr c26
     clear c26
     replace H := Option.bind_eq_some_iff.mp H
     obtain ⟨t157, A270, H⟩ := H
     replace H : (some (!t157)) = some r := H
     have A27 := Aside0.mk A270
     clear A270
     obtain rfl := Option.some.inj H
     have hnb28 := NB153_152.out
     have hnc28 := NB152_153.out
     have hnb29 := NB153_154.out
     have hnc29 := NB154_153.out
     have hcz30_0 : wc.cell? ⟨gb153, 0, none⟩ = some (.int .u8 a1_0) := (blk_cell BK153.out 0).trans rfl
     have hcz30_1 : wc.cell? ⟨gb153, 1, none⟩ = some (.int .u8 a1_1) := (blk_cell BK153.out 1).trans rfl
     have hcz30_2 : wc.cell? ⟨gb153, 2, none⟩ = some (.int .u16 a1_2) := (blk_cell BK153.out 2).trans rfl
     have hcz30_3 : wc.cell? ⟨gb153, 3, none⟩ = some (.int .i64 a1_3) := (blk_cell BK153.out 3).trans rfl
     have hfz30_0 := blk_frozen BK153.out 0
     have hfz30_1 := blk_frozen BK153.out 1
     have hfz30_2 := blk_frozen BK153.out 2
     have hfz30_3 := blk_frozen BK153.out 3
     have hnb31 := NB154_152.out
     have hnc31 := NB152_154.out
     have hcz32_0 : wc.cell? ⟨gb154, 0, none⟩ = some (.int .u8 a2_0) := (blk_cell BK154.out 0).trans rfl
     have hcz32_1 : wc.cell? ⟨gb154, 1, none⟩ = some (.int .u16 a2_1) := (blk_cell BK154.out 1).trans rfl
     have hfz32_0 := blk_frozen BK154.out 0
     have hfz32_1 := blk_frozen BK154.out 1
     go_wp2_with (first | ((with_reducible refine gate_callee (f := 69) rfl ?_); refine goesL_ (some 21) rfl rfl Try.func69 (by kernel_rfl) rfl #[.agg #[.int .u8 a2_0, .int .u16 a2_1]] rfl (by (try simp only [List.map_toArray, List.map_cons, List.map_nil]); first | done | rfl | (simp only [List.length_drop, List.length_take]; rfl)) ?_; (with_reducible refine (types_IsRef.calls kj3 a2_0 a2_1 t157 _ A27.out).mono ?_); rintro e w33 ⟨rfl, hb⟩; refine ⟨_, rfl, ?_⟩; have n0_ := Aside0.mk (blk_below (qb BK152.out) hb); have n1_ := Aside0.mk (blk_below (qb BK153.out) hb); have n2_ := Aside0.mk (blk_below (qb BK154.out) hb); have n3_ := Aside0.mk (below_step (qW HB.out) hb); clear BK152 BK153 BK154 HB; have BK152 := n0_; have BK153 := n1_; have BK154 := n2_; have HB := n3_; clear n0_ n1_ n2_ n3_; (try clear hb); (try clear hb2); (try clear hk); (try clear hi)))
     go_ret
     exact ⟨by first | rfl | (simp [errW_none, errW_some] <;> rfl) | (simp [*, errW_none, errW_some] <;> rfl), by repeat (first | (with_reducible first | exact HB.out | apply below_alloc | apply pw_below_drewN | apply below_drew1 | refine below_set ?_ GE152.out | refine below_set ?_ GE153.out | refine below_set ?_ GE154.out) | exact HB.out)⟩
    ·rw [if_neg c26] at H
     have c26b0 : (a1_0 == 2) = false := beq_eq_false_iff_ne.mpr c26
     have c26b1 : (a1_0 != 2) = true := bne_iff_ne.mpr c26
     by_cases c34 : a1_0 = 3
     ·rw [if_pos c34] at H
      have c34b0 : (a1_0 == 3) = true := beq_iff_eq.mpr c34
      have c34b1 : (a1_0 != 3) = false := bne_eq_false_iff_eq.mpr c34
      clear c34
      replace H := Option.bind_eq_some_iff.mp H
      obtain ⟨t158, A350, H⟩ := H
      replace H : (some t158) = some r := H
      have A35 := Aside0.mk A350
      clear A350
      obtain rfl := Option.some.inj H
      have hnb36 := NB153_152.out
      have hnc36 := NB152_153.out
      have hnb37 := NB153_154.out
      have hnc37 := NB154_153.out
      have hcz38_0 : wc.cell? ⟨gb153, 0, none⟩ = some (.int .u8 a1_0) := (blk_cell BK153.out 0).trans rfl
      have hcz38_1 : wc.cell? ⟨gb153, 1, none⟩ = some (.int .u8 a1_1) := (blk_cell BK153.out 1).trans rfl
      have hcz38_2 : wc.cell? ⟨gb153, 2, none⟩ = some (.int .u16 a1_2) := (blk_cell BK153.out 2).trans rfl
      have hcz38_3 : wc.cell? ⟨gb153, 3, none⟩ = some (.int .i64 a1_3) := (blk_cell BK153.out 3).trans rfl
      have hfz38_0 := blk_frozen BK153.out 0
      have hfz38_1 := blk_frozen BK153.out 1
      have hfz38_2 := blk_frozen BK153.out 2
      have hfz38_3 := blk_frozen BK153.out 3
      have hnb39 := NB154_152.out
      have hnc39 := NB152_154.out
      have hcz40_0 : wc.cell? ⟨gb154, 0, none⟩ = some (.int .u8 a2_0) := (blk_cell BK154.out 0).trans rfl
      have hcz40_1 : wc.cell? ⟨gb154, 1, none⟩ = some (.int .u16 a2_1) := (blk_cell BK154.out 1).trans rfl
      have hfz40_0 := blk_frozen BK154.out 0
      have hfz40_1 := blk_frozen BK154.out 1
      go_wp2_with (first | ((with_reducible refine gate_callee (f := 69) rfl ?_); refine goesL_ (some 26) rfl rfl Try.func69 (by kernel_rfl) rfl #[.agg #[.int .u8 a2_0, .int .u16 a2_1]] rfl (by (try simp only [List.map_toArray, List.map_cons, List.map_nil]); first | done | rfl | (simp only [List.length_drop, List.length_take]; rfl)) ?_; (with_reducible refine (types_IsRef.calls kj3 a2_0 a2_1 t158 _ A35.out).mono ?_); rintro e w41 ⟨rfl, hb⟩; refine ⟨_, rfl, ?_⟩; have n0_ := Aside0.mk (blk_below (qb BK152.out) hb); have n1_ := Aside0.mk (blk_below (qb BK153.out) hb); have n2_ := Aside0.mk (blk_below (qb BK154.out) hb); have n3_ := Aside0.mk (below_step (qW HB.out) hb); clear BK152 BK153 BK154 HB; have BK152 := n0_; have BK153 := n1_; have BK154 := n2_; have HB := n3_; clear n0_ n1_ n2_ n3_; (try clear hb); (try clear hb2); (try clear hk); (try clear hi)))
      go_ret
      exact ⟨by first | rfl | (simp [errW_none, errW_some] <;> rfl) | (simp [*, errW_none, errW_some] <;> rfl), by repeat (first | (with_reducible first | exact HB.out | apply below_alloc | apply pw_below_drewN | apply below_drew1 | refine below_set ?_ GE152.out | refine below_set ?_ GE153.out | refine below_set ?_ GE154.out) | exact HB.out)⟩
     ·rw [if_neg c34] at H
      have c34b0 : (a1_0 == 3) = false := beq_eq_false_iff_ne.mpr c34
      have c34b1 : (a1_0 != 3) = true := bne_iff_ne.mpr c34
      by_cases c42 : a1_0 = 4
      ·rw [if_pos c42] at H
       have c42b0 : (a1_0 == 4) = true := beq_iff_eq.mpr c42
       have c42b1 : (a1_0 != 4) = false := bne_eq_false_iff_eq.mpr c42
       clear c42
       replace H := Option.bind_eq_some_iff.mp H
       obtain ⟨t159, A430, H⟩ := H
       replace H : (some t159) = some r := H
       have A43 := Aside0.mk A430
       clear A430
       obtain rfl := Option.some.inj H
       have hnb44 := NB153_152.out
       have hnc44 := NB152_153.out
       have hnb45 := NB153_154.out
       have hnc45 := NB154_153.out
       have hcz46_0 : wc.cell? ⟨gb153, 0, none⟩ = some (.int .u8 a1_0) := (blk_cell BK153.out 0).trans rfl
       have hcz46_1 : wc.cell? ⟨gb153, 1, none⟩ = some (.int .u8 a1_1) := (blk_cell BK153.out 1).trans rfl
       have hcz46_2 : wc.cell? ⟨gb153, 2, none⟩ = some (.int .u16 a1_2) := (blk_cell BK153.out 2).trans rfl
       have hcz46_3 : wc.cell? ⟨gb153, 3, none⟩ = some (.int .i64 a1_3) := (blk_cell BK153.out 3).trans rfl
       have hfz46_0 := blk_frozen BK153.out 0
       have hfz46_1 := blk_frozen BK153.out 1
       have hfz46_2 := blk_frozen BK153.out 2
       have hfz46_3 := blk_frozen BK153.out 3
       have hnb47 := NB152_154.out
       have hnc47 := NB154_152.out
       have hcz48_0 : wc.cell? ⟨gb152, 0, none⟩ = some (.slice A0_0 l0_0.length c0_0) := (blk_cell BK152.out 0).trans rfl
       have hcz48_1 : wc.cell? ⟨gb152, 1, none⟩ = some (.slice A0_1 l0_1.length c0_1) := (blk_cell BK152.out 1).trans rfl
       have hcz48_2 : wc.cell? ⟨gb152, 2, none⟩ = some (.slice A0_2 l0_2.length c0_2) := (blk_cell BK152.out 2).trans rfl
       have hcz48_3 : wc.cell? ⟨gb152, 3, none⟩ = some (.slice A0_3 l0_3.length c0_3) := (blk_cell BK152.out 3).trans rfl
       have hfz48_0 := blk_frozen BK152.out 0
       have hfz48_1 := blk_frozen BK152.out 1
       have hfz48_2 := blk_frozen BK152.out 2
       have hfz48_3 := blk_frozen BK152.out 3
       have hcz49_0 : wc.cell? ⟨gb154, 0, none⟩ = some (.int .u8 a2_0) := (blk_cell BK154.out 0).trans rfl
       have hcz49_1 : wc.cell? ⟨gb154, 1, none⟩ = some (.int .u16 a2_1) := (blk_cell BK154.out 1).trans rfl
       have hfz49_0 := blk_frozen BK154.out 0
       have hfz49_1 := blk_frozen BK154.out 1
       go_wp2_with (first | ((with_reducible refine gate_callee (f := 45) rfl ?_); refine goesL_ (some 33) rfl rfl Try.func45 (by kernel_rfl) rfl #[.agg #[.slice A0_0 l0_0.length c0_0, .slice A0_1 l0_1.length c0_1, .slice A0_2 l0_2.length c0_2, .slice A0_3 l0_3.length c0_3], .agg #[.int .u8 a1_1, .int .u16 a1_2], .agg #[.int .u8 a2_0, .int .u16 a2_1]] rfl (by (try simp only [List.map_toArray, List.map_cons, List.map_nil]); first | done | rfl | (simp only [List.length_drop, List.length_take]; rfl)) ?_; (with_reducible refine (hier_Fits.calls kj3 _ _ l0_0 _ _ l0_1 _ _ l0_2 _ _ l0_3 a1_1 a1_2 a2_0 a2_1 t159 _ ?side1 ?side2 ?side3 ?side4 ?side5 ?side6 ?side7 ?side8 A43.out).mono ?_); (case side1 => exact qC (Kd.C_below HR0_0.out HB.out)); (case side2 => exact HC0_0.out); (case side3 => exact qC (Kd.C_below HR0_1.out HB.out)); (case side4 => exact HC0_1.out); (case side5 => exact qC (Kd.C_below HR0_2.out HB.out)); (case side6 => exact HC0_2.out); (case side7 => exact qC (Kd.C_below HR0_3.out HB.out)); (case side8 => exact HC0_3.out); rintro e w50 ⟨rfl, hb⟩; refine ⟨_, rfl, ?_⟩; have n0_ := Aside0.mk (blk_below (qb BK152.out) hb); have n1_ := Aside0.mk (blk_below (qb BK153.out) hb); have n2_ := Aside0.mk (blk_below (qb BK154.out) hb); have n3_ := Aside0.mk (below_step (qW HB.out) hb); clear BK152 BK153 BK154 HB; have BK152 := n0_; have BK153 := n1_; have BK154 := n2_; have HB := n3_; clear n0_ n1_ n2_ n3_; (try clear hb); (try clear hb2); (try clear hk); (try clear hi)))
       go_ret
       exact ⟨by first | rfl | (simp [errW_none, errW_some] <;> rfl) | (simp [*, errW_none, errW_some] <;> rfl), by repeat (first | (with_reducible first | exact HB.out | apply below_alloc | apply pw_below_drewN | apply below_drew1 | refine below_set ?_ GE152.out | refine below_set ?_ GE153.out | refine below_set ?_ GE154.out) | exact HB.out)⟩
      ·rw [if_neg c42] at H
       have c42b0 : (a1_0 == 4) = false := beq_eq_false_iff_ne.mpr c42
       have c42b1 : (a1_0 != 4) = true := bne_iff_ne.mpr c42
       obtain rfl := Option.some.inj H
       have hnb51 := NB153_152.out
       have hnc51 := NB152_153.out
       have hnb52 := NB153_154.out
       have hnc52 := NB154_153.out
       have hcz53_0 : wc.cell? ⟨gb153, 0, none⟩ = some (.int .u8 a1_0) := (blk_cell BK153.out 0).trans rfl
       have hcz53_1 : wc.cell? ⟨gb153, 1, none⟩ = some (.int .u8 a1_1) := (blk_cell BK153.out 1).trans rfl
       have hcz53_2 : wc.cell? ⟨gb153, 2, none⟩ = some (.int .u16 a1_2) := (blk_cell BK153.out 2).trans rfl
       have hcz53_3 : wc.cell? ⟨gb153, 3, none⟩ = some (.int .i64 a1_3) := (blk_cell BK153.out 3).trans rfl
       have hfz53_0 := blk_frozen BK153.out 0
       have hfz53_1 := blk_frozen BK153.out 1
       have hfz53_2 := blk_frozen BK153.out 2
       have hfz53_3 := blk_frozen BK153.out 3
       go_wp2
       go_ret
       exact ⟨by first | rfl | (simp [errW_none, errW_some] <;> rfl) | (simp [*, errW_none, errW_some] <;> rfl), by repeat (first | (with_reducible first | exact HB.out | apply below_alloc | apply pw_below_drewN | apply below_drew1 | refine below_set ?_ GE152.out | refine below_set ?_ GE153.out | refine below_set ?_ GE154.out) | exact HB.out)⟩

/-! ### garderoberef12_World: function 57 -/
def tyS (ts : List (Int × Int)) : List S32 := ts.map fun p => ⟨p.1, p.2⟩
def toC (c : Tab.ClsM) : S103 := ⟨0, c.flags, c.super, [], tyS c.fields, c.virtuals, []⟩
def toM (m : Tab.MetM) : S38 := ⟨0, m.f, m.cl, ⟨tyS m.ps, ⟨m.k, m.c⟩⟩, 0, 0, [], [], m.n⟩
def toX (x : Tab.ExpM) : S154 := ⟨x.cl, [], x.ms⟩
def wC : List S103 := (Tab.wst 17).1.map toC
def wM : List S38 := (Tab.wst 17).2.1.map toM
def wX : List S154 := (Tab.wst 17).2.2.map toX
theorem reps_flat {α β : Type} {R : β → List Value → Prop} {sz : Nat} (f : α → β) (g : α → List Value) (hg : ∀ a, (g a).length = sz) (hR : ∀ a, R (f a) (g a)) (l : List α) : Reps R sz (l.map f) (l.flatMap g) := by
 have key : ∀ (l : List α) (ps : List β) (cs : List Value), Reps R sz ps cs → Reps R sz (ps ++ l.map f) (cs ++ l.flatMap g) := by
  intro l
  induction l with
  | nil => intro ps cs h; simpa using h
  | cons a l ih => intro ps cs h; simpa [List.flatMap_cons] using ih _ _ (h.snoc (hR a) (hg a))
 simpa using key l [] [] (Reps.none _ _)
theorem reps_to {α β : Type} {R : α → List Value → Prop} {R' : β → List Value → Prop} {sz : Nat} {f : α → β} {xs : List α} {cs : List Value} (h : Reps R sz xs cs) (hR : ∀ x c, R x c → R' (f x) c) : Reps R' sz (xs.map f) cs := by
 refine ⟨by rw [List.length_map]; exact h.1, fun j p hj => ?_⟩
 rw [List.getElem?_map] at hj
 obtain ⟨x, hx, rfl⟩ := Option.map_eq_some_iff.1 hj
 exact hR _ _ (h.2 j x hx)
theorem ty_R {w : World} {base : Nat} {ok : Nat → Prop} {v : Value} {ts : List (Int × Int)} (h : Tab.Ty w base v ts) (hok : ∀ k, v.ownBlock = some k → ok k) : k32.R 32 w base ok v (tyS ts) :=
 ⟨hok, Tab.tcells ts, by rw [tyS, List.length_map]; exact h, reps_flat (sz := 2) (R := k32.M w base (fun k => ok k ∧ some k ≠ v.ownBlock)) (fun p : Int × Int => (⟨p.1, p.2⟩ : S32)) (fun p : Int × Int => [Value.int .u8 p.1, Value.int .u16 p.2]) (fun _ => rfl) (fun p => k32_mkM _ _ _ ⟨p.1, p.2⟩) ts⟩
theorem icells_flat (xs : List Int) : Tab.icells xs = xs.flatMap fun x => [Value.int .i64 x] := by
  unfold Tab.icells
  induction xs with
  | nil => rfl
  | cons a l ih => rw [List.map_cons, List.flatMap_cons, ih]; rfl
theorem ints_R {w : World} {base : Nat} {ok : Nat → Prop} {v : Value} {xs : List Int} (h : Tab.Ints w base v xs) (hok : ∀ k, v.ownBlock = some k → ok k) : (Kd.int .i64).R 3 w base ok v xs :=
 ⟨hok, Tab.icells xs, h, by
  have := reps_flat (R := (Kd.int .i64).M w base (fun k => ok k ∧ some k ≠ v.ownBlock)) (sz := 1) (fun x : Int => x) (fun x => [Value.int .i64 x]) (fun _ => rfl) (fun _ => rfl) xs
  rw [show xs.map (fun x : Int => x) = xs from List.map_id' xs] at this
  rw [icells_flat]
  exact this⟩
theorem other_own {w : World} {b1 b2 n m s t : Nat} {e e' : TypeId} {u v : Value} {xs ys : List Value} (h : w.ownsRow b1 e s u n xs) (h' : w.ownsRow b2 e' t v m ys) (he : e ≠ e') : ∀ k, u.ownBlock = some k → some k ≠ v.ownBlock := fun k hk hv => by
 obtain ⟨c1, h1⟩ := own_typed h k hk
 obtain ⟨c2, h2⟩ := own_typed h' k hv.symm
 rw [h1] at h2
 injection h2 with h2
 injection h2 with _ h2 _
 exact he h2
theorem cls_R {w : World} {base : Nat} {v : Value} {cl : List Tab.ClsM} {xs : List Value} (o : w.ownsRow base 103 7 v cl.length xs) (r : Reps (Tab.ClsRep w base) 7 cl xs) : k103.R 103 w base (fun _ => True) v (cl.map toC) :=
 ⟨fun _ _ => trivial, xs, by rw [List.length_map]; exact o, reps_to r fun x c h => by
  obtain ⟨vf, vv, rfl, a, b⟩ := h
  exact k103_mkM w base _ (toC x) (Kd.R_nil _ _ _ _ _) (ty_R a fun k hk => ⟨trivial, other_own a o (by decide) k hk⟩) (ints_R b fun k hk => ⟨trivial, other_own b o (by decide) k hk⟩) (Kd.R_nil _ _ _ _ _)⟩
theorem met_R {w : World} {base : Nat} {v : Value} {cl : List Tab.MetM} {xs : List Value} (o : w.ownsRow base 38 11 v cl.length xs) (r : Reps (Tab.MetRep w base) 11 cl xs) : k38.R 38 w base (fun _ => True) v (cl.map toM) :=
 ⟨fun _ _ => trivial, xs, by rw [List.length_map]; exact o, reps_to r fun x c h => by
  obtain ⟨vf, rfl, a⟩ := h
  exact k38_mkM w base _ (toM x) (ty_R a fun k hk => ⟨trivial, other_own a o (by decide) k hk⟩) (Kd.R_nil _ _ _ _ _) (Kd.R_nil _ _ _ _ _)⟩
theorem exp_R {w : World} {base : Nat} {ok : Nat → Prop} {v : Value} {cl : List Tab.ExpM} {xs : List Value} (o : w.ownsRow base 154 3 v cl.length xs) (r : Reps (Tab.ExpRep w base) 3 cl xs) (h1 : ∀ k, v.ownBlock = some k → ok k) (h2 : ∀ (u : Value) k, some k = u.ownBlock → (∃ c, w.heap[k]? = some (.cells c 3 (0, 0))) → ok k) : k154.R 154 w base ok v (cl.map toX) :=
 ⟨h1, xs, by rw [List.length_map]; exact o, reps_to r fun x c h => by
  obtain ⟨vf, rfl, a⟩ := h
  exact k154_mkM w base _ (toX x) (Kd.R_nil _ _ _ _ _) (ints_R a fun k hk => ⟨h2 vf k hk.symm (own_typed a k hk), other_own a o (by decide) k hk⟩)⟩
theorem pkg_R {w : World} {base N : Nat} {v3 v4 : Value} {cl : List Tab.ExpM} (hN : base ≤ N) (b : Base.Blk w N #[.int .u8 160, .int .u8 0, .int .u8 0, .int .u8 0, .int .u8 98, .int .u8 1, .int .u8 1] 5) (o3 : ∃ xs, w.ownsRow base 154 3 v3 cl.length xs ∧ Reps (Tab.ExpRep w base) 3 cl xs) (o4 : w.ownsRow base 117 6 v4 1 [.slice (some ⟨N, 0, none⟩) 7 7, .int .u8 1, .int .u8 0, .bool false, v3, .slice none 0 0]) :
  k117.R 117 w base (fun _ => True) v4 [⟨[160, 0, 0, 0, 98, 1, 1], ⟨1, 0⟩, false, cl.map toX, []⟩] := by
 obtain ⟨xs, o, r⟩ := o3
 have hb : w.ownsRow base 5 1 (.slice (some ⟨N, 0, none⟩) 7 7) 7 [.int .u8 160, .int .u8 0, .int .u8 0, .int .u8 0, .int .u8 98, .int .u8 1, .int .u8 1] := ⟨rfl, Or.inr ⟨N, 7, _, rfl, hN, b.heap, Nat.le_refl _, by decide, rfl, rfl⟩⟩
 have hne : ∀ (k : Nat), (∃ c, w.heap[k]? = some (.cells c 3 (0, 0))) → some k ≠ v4.ownBlock := fun k ⟨c, hc⟩ he => by
  obtain ⟨c2, h2⟩ := own_typed o4 k he.symm
  rw [hc] at h2
  injection h2 with h2
  injection h2 with _ h2 _
  exact absurd h2 (by decide)
 refine ⟨fun _ _ => trivial, _, o4, ?_⟩
 refine (Reps.none _ _).snoc (c := [.slice (some ⟨N, 0, none⟩) 7 7, .int .u8 1, .int .u8 0, .bool false, v3, .slice none 0 0]) ?_ rfl
 refine k117_mkM w base _ ⟨[160, 0, 0, 0, 98, 1, 1], ⟨1, 0⟩, false, cl.map toX, []⟩ ⟨fun k hk => ⟨trivial, other_own hb o4 (by decide) k hk⟩, _, hb, ?_⟩ (exp_R o r (fun k hk => ⟨trivial, other_own o o4 (by decide) k hk⟩) (fun u k hk hc => ⟨trivial, hne k hc⟩)) (Kd.R_nil _ _ _ _ _)
 exact reps_flat (R := (Kd.int .u8).M w base _) (sz := 1) (fun x : Int => x) (fun x => [Value.int .u8 x]) (fun _ => rfl) (fun _ => rfl) [160, 0, 0, 0, 98, 1, 1]
def garderoberef12_World.f  : Option ((List (S103)) × (List (S38)) × (List (S206)) × (List (S117))) := some (wC, wM, [], [⟨[160, 0, 0, 0, 98, 1, 1], ⟨1, 0⟩, false, wX, []⟩])
set_option maxHeartbeats 8000000 in
set_option maxRecDepth 100000 in
theorem garderoberef12_World.calls  (r1 : List (S103)) (r2 : List (S38)) (r3 : List (S206)) (r4 : List (S117)) (w : World) (h : garderoberef12_World.f  = some (r1, r2, r3, r4)) :
  Calls Try.prog 57 #[] w fun e w' => ∃ v0_ v1_ v2_ v3_ : Value, e = .returned (.agg #[v0_, v1_, v2_, v3_]) ∧ Kd.R k103 103 w' w.heap.size (fun _ => True) v0_ r1 ∧ Kd.R k38 38 w' w.heap.size (fun _ => True) v1_ r2 ∧ Kd.R k206 206 w' w.heap.size (fun _ => True) v2_ r3 ∧ Kd.R k117 117 w' w.heap.size (fun _ => True) v3_ r4 ∧ Below w.heap.size w w' := by
 have H : some (wC, wM, ([] : List S206), ([⟨[160, 0, 0, 0, 98, 1, 1], ⟨1, 0⟩, false, wX, []⟩] : List S117)) = some (r1, r2, r3, r4) := h
 simp only [Option.some.injEq, Prod.mk.injEq] at H
 obtain ⟨rfl, rfl, rfl, rfl⟩ := H
 refine (Tab.world_any w).mono ?_
 rintro e w' ⟨v, rfl, ⟨v1, v2, v3, v4, N, rfl, ⟨xc, oc, rc⟩, ⟨xm, om, rm⟩, o3, hN, b, o4⟩, ch⟩
 exact ⟨v1, v2, .slice none 0 0, v4, rfl, cls_R oc rc, met_R om rm, Kd.R_nil _ _ _ _ _, pkg_R hN b o3 o4, ch.below (fun _ h => h.elim) (Nat.le_refl _)⟩

/-! ### garderoberef16_Num: function 59 -/
def garderoberef16_Num.f  : Option (Int × Int × Int × Int) := some (2, 0, 0, 0)
set_option maxHeartbeats 8000000 in
set_option maxRecDepth 100000 in
theorem garderoberef16_Num.calls  (r1 : Int) (r2 : Int) (r3 : Int) (r4 : Int) (w : World) (h : garderoberef16_Num.f  = some (r1, r2, r3, r4)) :
  Calls Try.prog 59 #[] w fun e w' => e = .returned (.agg #[.int .u8 r1, .int .u8 r2, .int .u16 r3, .int .i64 r4]) ∧ Below w.heap.size w w' := by
 have hu56 := Try.underlying56
 have HB := Aside0.mk (Below.refl w.heap.size w)
 have H : (some (2, 0, 0, 0)) = some (r1, r2, r3, r4) := h
 clear h
 simp only [Option.some.injEq, Prod.mk.injEq] at H
 obtain ⟨rfl, rfl, rfl, rfl⟩ := H
 go_enter Try.func59, Try.ntmps59
 go_wp2_with (first | ((with_reducible refine gate_dst (N := 0) rfl ?_); refine box_event ?hg (N := 0) ?hd (cs := #[.int .u8 0, .int .u8 0, .int .u16 0, .int .i64 0]) (t := 56) ?hr ?_; (case hd => rfl); (case hg => rfl); (case hr => first | (go_simp; done) | (go_simp; rfl)); intro gb161 hg w1 hbox hb; have n0_ := Aside0.mk (below_step (qW HB.out) hb); have n1_ := Aside0.mk (hbox); have n2_ := Aside0.mk ((by rw [hg]; exact (below_size (qW HB.out)) : w.heap.size ≤ gb161)); have n3_ := Aside0.mk ((by rw [hg]; exact (below_size (qW HB.out)) : w.heap.size ≤ gb161)); clear HB; have HB := n0_; have BK161 := n1_; have GW161 := n2_; have GE161 := n3_; clear n0_ n1_ n2_ n3_; clear hb hbox hg; have hcz2_0 : w1.cell? ⟨gb161, 0, none⟩ = some (.int .u8 0) := (blk_cell BK161.out 0).trans rfl; have hcz2_1 : w1.cell? ⟨gb161, 1, none⟩ = some (.int .u8 0) := (blk_cell BK161.out 1).trans rfl; have hcz2_2 : w1.cell? ⟨gb161, 2, none⟩ = some (.int .u16 0) := (blk_cell BK161.out 2).trans rfl; have hcz2_3 : w1.cell? ⟨gb161, 3, none⟩ = some (.int .i64 0) := (blk_cell BK161.out 3).trans rfl; have hfz2_0 := blk_frozen BK161.out 0; have hfz2_1 := blk_frozen BK161.out 1; have hfz2_2 := blk_frozen BK161.out 2; have hfz2_3 := blk_frozen BK161.out 3))
 refine bodyPost_ret (results_cell_row rfl _ _ gb161 56 #[.int .u8 2, .int .u8 0, .int .u16 0, .int .i64 0] (0, 0) _ rfl (by (with_reducible repeat (first | refine blk_drewN ?_ _ | refine blk_drew ?_ | refine blk_alloc ?_ _)); refine blk_put (cs := #[.int .u8 2, .int .u8 0, .int .u16 0, .int .i64 0]) ?_ 3 _ rfl; (with_reducible repeat (first | refine blk_drewN ?_ _ | refine blk_drew ?_ | refine blk_alloc ?_ _)); refine blk_put (cs := #[.int .u8 2, .int .u8 0, .int .u16 0, .int .i64 0]) ?_ 2 _ rfl; (with_reducible repeat (first | refine blk_drewN ?_ _ | refine blk_drew ?_ | refine blk_alloc ?_ _)); refine blk_put (cs := #[.int .u8 2, .int .u8 0, .int .u16 0, .int .i64 0]) ?_ 1 _ rfl; (with_reducible repeat (first | refine blk_drewN ?_ _ | refine blk_drew ?_ | refine blk_alloc ?_ _)); refine blk_put (cs := #[.int .u8 0, .int .u8 0, .int .u16 0, .int .i64 0]) ?_ 0 _ rfl; (with_reducible repeat (first | refine blk_drewN ?_ _ | refine blk_drew ?_ | refine blk_alloc ?_ _)); exact BK161.out) Try.underlying56 rfl (by kernel_rfl)) rfl ?_
 exact ⟨by first | rfl | (simp [errW_none, errW_some] <;> rfl) | (simp [*, errW_none, errW_some] <;> rfl), by repeat (first | (with_reducible first | exact HB.out | apply below_alloc | apply pw_below_drewN | apply below_drew1 | refine below_set ?_ GE161.out) | exact HB.out)⟩

/-! ### garderoberef16_Null: function 65 -/
def garderoberef16_Null.f  : Option (Int × Int × Int × Int) := some (3, 0, 0, 0)
set_option maxHeartbeats 8000000 in
set_option maxRecDepth 100000 in
theorem garderoberef16_Null.calls  (r1 : Int) (r2 : Int) (r3 : Int) (r4 : Int) (w : World) (h : garderoberef16_Null.f  = some (r1, r2, r3, r4)) :
  Calls Try.prog 65 #[] w fun e w' => e = .returned (.agg #[.int .u8 r1, .int .u8 r2, .int .u16 r3, .int .i64 r4]) ∧ Below w.heap.size w w' := by
 have hu56 := Try.underlying56
 have HB := Aside0.mk (Below.refl w.heap.size w)
 have H : (some (3, 0, 0, 0)) = some (r1, r2, r3, r4) := h
 clear h
 simp only [Option.some.injEq, Prod.mk.injEq] at H
 obtain ⟨rfl, rfl, rfl, rfl⟩ := H
 go_enter Try.func65, Try.ntmps65
 go_wp2_with (first | ((with_reducible refine gate_dst (N := 0) rfl ?_); refine box_event ?hg (N := 0) ?hd (cs := #[.int .u8 0, .int .u8 0, .int .u16 0, .int .i64 0]) (t := 56) ?hr ?_; (case hd => rfl); (case hg => rfl); (case hr => first | (go_simp; done) | (go_simp; rfl)); intro gb162 hg w1 hbox hb; have n0_ := Aside0.mk (below_step (qW HB.out) hb); have n1_ := Aside0.mk (hbox); have n2_ := Aside0.mk ((by rw [hg]; exact (below_size (qW HB.out)) : w.heap.size ≤ gb162)); have n3_ := Aside0.mk ((by rw [hg]; exact (below_size (qW HB.out)) : w.heap.size ≤ gb162)); clear HB; have HB := n0_; have BK162 := n1_; have GW162 := n2_; have GE162 := n3_; clear n0_ n1_ n2_ n3_; clear hb hbox hg; have hcz2_0 : w1.cell? ⟨gb162, 0, none⟩ = some (.int .u8 0) := (blk_cell BK162.out 0).trans rfl; have hcz2_1 : w1.cell? ⟨gb162, 1, none⟩ = some (.int .u8 0) := (blk_cell BK162.out 1).trans rfl; have hcz2_2 : w1.cell? ⟨gb162, 2, none⟩ = some (.int .u16 0) := (blk_cell BK162.out 2).trans rfl; have hcz2_3 : w1.cell? ⟨gb162, 3, none⟩ = some (.int .i64 0) := (blk_cell BK162.out 3).trans rfl; have hfz2_0 := blk_frozen BK162.out 0; have hfz2_1 := blk_frozen BK162.out 1; have hfz2_2 := blk_frozen BK162.out 2; have hfz2_3 := blk_frozen BK162.out 3))
 refine bodyPost_ret (results_cell_row rfl _ _ gb162 56 #[.int .u8 3, .int .u8 0, .int .u16 0, .int .i64 0] (0, 0) _ rfl (by (with_reducible repeat (first | refine blk_drewN ?_ _ | refine blk_drew ?_ | refine blk_alloc ?_ _)); refine blk_put (cs := #[.int .u8 3, .int .u8 0, .int .u16 0, .int .i64 0]) ?_ 3 _ rfl; (with_reducible repeat (first | refine blk_drewN ?_ _ | refine blk_drew ?_ | refine blk_alloc ?_ _)); refine blk_put (cs := #[.int .u8 3, .int .u8 0, .int .u16 0, .int .i64 0]) ?_ 2 _ rfl; (with_reducible repeat (first | refine blk_drewN ?_ _ | refine blk_drew ?_ | refine blk_alloc ?_ _)); refine blk_put (cs := #[.int .u8 3, .int .u8 0, .int .u16 0, .int .i64 0]) ?_ 1 _ rfl; (with_reducible repeat (first | refine blk_drewN ?_ _ | refine blk_drew ?_ | refine blk_alloc ?_ _)); refine blk_put (cs := #[.int .u8 0, .int .u8 0, .int .u16 0, .int .i64 0]) ?_ 0 _ rfl; (with_reducible repeat (first | refine blk_drewN ?_ _ | refine blk_drew ?_ | refine blk_alloc ?_ _)); exact BK162.out) Try.underlying56 rfl (by kernel_rfl)) rfl ?_
 exact ⟨by first | rfl | (simp [errW_none, errW_some] <;> rfl) | (simp [*, errW_none, errW_some] <;> rfl), by repeat (first | (with_reducible first | exact HB.out | apply below_alloc | apply pw_below_drewN | apply below_drew1 | refine below_set ?_ GE162.out) | exact HB.out)⟩

/-! ### garderoberef16_Ref: function 66 -/
def garderoberef16_Ref.f (a0 : Int) (a1 : Int) : Option (Int × Int × Int × Int) := some (4, a0, IntKind.u16.wrap (a1), 0)
set_option maxHeartbeats 8000000 in
set_option maxRecDepth 100000 in
theorem garderoberef16_Ref.calls (a0 : Int) (a1 : Int) (r1 : Int) (r2 : Int) (r3 : Int) (r4 : Int) (w : World) (h : garderoberef16_Ref.f a0 a1 = some (r1, r2, r3, r4)) :
  Calls Try.prog 66 #[.int .u8 a0, .int .i64 a1] w fun e w' => e = .returned (.agg #[.int .u8 r1, .int .u8 r2, .int .u16 r3, .int .i64 r4]) ∧ Below w.heap.size w w' := by
 have hu56 := Try.underlying56
 have hu32 := Try.underlying32
 have HB := Aside0.mk (Below.refl w.heap.size w)
 have H : (some (4, a0, IntKind.u16.wrap (a1), 0)) = some (r1, r2, r3, r4) := h
 clear h
 simp only [Option.some.injEq, Prod.mk.injEq] at H
 obtain ⟨rfl, rfl, rfl, rfl⟩ := H
 go_enter Try.func66, Try.ntmps66
 go_wp2_with (first | ((with_reducible refine gate_dst (N := 4) rfl ?_); refine box_event ?hg (N := 4) ?hd (cs := #[.int .u8 0, .int .u8 0, .int .u16 0, .int .i64 0]) (t := 56) ?hr ?_; (case hd => rfl); (case hg => rfl); (case hr => first | (go_simp; done) | (go_simp; rfl)); intro gb163 hg w3 hbox hb; have n0_ := Aside0.mk (below_step (qW HB.out) hb); have n1_ := Aside0.mk (hbox); have n2_ := Aside0.mk ((by rw [hg]; exact (below_size (qW HB.out)) : w.heap.size ≤ gb163)); have n3_ := Aside0.mk ((by rw [hg]; exact (below_size (qW HB.out)) : w.heap.size ≤ gb163)); clear HB; have HB := n0_; have BK163 := n1_; have GW163 := n2_; have GE163 := n3_; clear n0_ n1_ n2_ n3_; clear hb hbox hg; have hcz4_0 : w3.cell? ⟨gb163, 0, none⟩ = some (.int .u8 0) := (blk_cell BK163.out 0).trans rfl; have hcz4_1 : w3.cell? ⟨gb163, 1, none⟩ = some (.int .u8 0) := (blk_cell BK163.out 1).trans rfl; have hcz4_2 : w3.cell? ⟨gb163, 2, none⟩ = some (.int .u16 0) := (blk_cell BK163.out 2).trans rfl; have hcz4_3 : w3.cell? ⟨gb163, 3, none⟩ = some (.int .i64 0) := (blk_cell BK163.out 3).trans rfl; have hfz4_0 := blk_frozen BK163.out 0; have hfz4_1 := blk_frozen BK163.out 1; have hfz4_2 := blk_frozen BK163.out 2; have hfz4_3 := blk_frozen BK163.out 3))
 refine bodyPost_ret (results_cell_row rfl _ _ gb163 56 #[.int .u8 4, .int .u8 a0, .int .u16 (IntKind.u16.wrap (a1)), .int .i64 0] (0, 0) _ rfl (by (with_reducible repeat (first | refine blk_drewN ?_ _ | refine blk_drew ?_ | refine blk_alloc ?_ _)); refine blk_put (cs := #[.int .u8 4, .int .u8 a0, .int .u16 (IntKind.u16.wrap (a1)), .int .i64 0]) ?_ 3 _ rfl; (with_reducible repeat (first | refine blk_drewN ?_ _ | refine blk_drew ?_ | refine blk_alloc ?_ _)); refine blk_put (cs := #[.int .u8 4, .int .u8 a0, .int .u16 0, .int .i64 0]) ?_ 2 _ rfl; (with_reducible repeat (first | refine blk_drewN ?_ _ | refine blk_drew ?_ | refine blk_alloc ?_ _)); refine blk_put (cs := #[.int .u8 4, .int .u8 0, .int .u16 0, .int .i64 0]) ?_ 1 _ rfl; (with_reducible repeat (first | refine blk_drewN ?_ _ | refine blk_drew ?_ | refine blk_alloc ?_ _)); refine blk_put (cs := #[.int .u8 0, .int .u8 0, .int .u16 0, .int .i64 0]) ?_ 0 _ rfl; (with_reducible repeat (first | refine blk_drewN ?_ _ | refine blk_drew ?_ | refine blk_alloc ?_ _)); exact BK163.out) Try.underlying56 rfl (by kernel_rfl)) rfl ?_
 exact ⟨by first | rfl | (simp [errW_none, errW_some] <;> rfl) | (simp [*, errW_none, errW_some] <;> rfl), by repeat (first | (with_reducible first | exact HB.out | apply below_alloc | apply pw_below_drewN | apply below_drew1 | refine below_set ?_ GE163.out) | exact HB.out)⟩

end Go.Proofs.Ytjknnifcbcdjiaa.PValsAny
