/- Printed by a program of this session (pr.py). -/
import Derived.Test.YtjknnifcbcdjiaaPShapeMovesx0
import Derived.Test.YtjknnifcbcdjiaaPShapeMovesx1
import Derived.Test.YtjknnifcbcdjiaaPShapeMovesx2
import Derived.Test.YtjknnifcbcdjiaaPShapeMovesx3
import Derived.Test.YtjknnifcbcdjiaaShort
import Derived.Test.YtjknnifcbcdjiaaPShapeMovesd
namespace Go.Proofs.Ytjknnifcbcdjiaa.PShapeMoves
open Go.RowKit Go.Proofs.YtjknnifcbcdjiaaW.PrintWords Go.Proofs.YtjknnifcbcdjiaaW.PrintLast Go.Proofs.YtjknnifcbcdjiaaW.PrintMore Go.Proofs.Ytjknnifcbcdjiaa.Short
attribute [local go_sem] max2_int min2_int max_two min_two max_three min_three max_four min_four   -- for this text's walks alone
set_option linter.unusedVariables false
set_option linter.unusedSimpArgs false

attribute [local go_sem high] eqA56
set_option maxHeartbeats 8000000 in
set_option maxRecDepth 100000 in
theorem garderobelaw17_ShapeMoves.calls (k : Nat) (A0_0 : Option Addr) (c0_0 : Nat) (l0_0 : List (S56)) (A0_1 : Option Addr) (c0_1 : Nat) (l0_1 : List (S56)) (A0_2 : Option Addr) (c0_2 : Nat) (l0_2 : List Int) (a1 : Int) (a2 : Int) (a3 : Int) (A4 : Option Addr) (c4 : Nat) (l4 : List (S56)) (a5_0 : Int) (a5_1 : Int) (a5_2 : Int) (a5_3 : Int) (r : Bool) (w : World) (hr0_0 : Kd.C k56 w A0_0 l0_0.length l0_0) (hc0_0 : l0_0.length ≤ c0_0) (hr0_1 : Kd.C k56 w A0_1 l0_1.length l0_1) (hc0_1 : l0_1.length ≤ c0_1) (hr0_2 : Kd.C (Kd.int .i64) w A0_2 l0_2.length l0_2) (hc0_2 : l0_2.length ≤ c0_2) (hr4 : Kd.C k56 w A4 l4.length l4) (hc4 : l4.length ≤ c4) (h : garderobelaw17_ShapeMoves.f k l0_0 l0_1 l0_2 a1 a2 a3 l4 a5_0 a5_1 a5_2 a5_3 = some r) :
  Calls Try.prog 4 #[.agg #[.slice A0_0 l0_0.length c0_0, .slice A0_1 l0_1.length c0_1, .slice A0_2 l0_2.length c0_2], .int .i64 a1, .int .i64 a2, .int .i64 a3, .slice A4 l4.length c4, .agg #[.int .u8 a5_0, .int .u8 a5_1, .int .u16 a5_2, .int .i64 a5_3]] w fun e w' => e = .returned (.bool r) ∧ Below w.heap.size w w' := by
 have hu53 := Try.underlying53
 have hu56 := Try.underlying56
 have HR0_0 := Aside0.mk hr0_0
 have HC0_0 := Aside0.mk hc0_0
 clear hr0_0 hc0_0
 have HR0_1 := Aside0.mk hr0_1
 have HC0_1 := Aside0.mk hc0_1
 clear hr0_1 hc0_1
 have HR0_2 := Aside0.mk hr0_2
 have HC0_2 := Aside0.mk hc0_2
 clear hr0_2 hc0_2
 have HR4 := Aside0.mk hr4
 have HC4 := Aside0.mk hc4
 clear hr4 hc4
 have HB := Aside0.mk (Below.refl w.heap.size w)
 have H : ((garderobelaw17_great.f l0_0 l0_1 l0_2).bind fun t238 => (if t238 = true then (garderobelaw17_ShapeMoves.j0 k a1 a2 a3 l4 true l0_0 l0_1 l0_2 a5_0 a5_1 a5_2 a5_3) else (garderobelaw17_ShapeMoves.j0 k a1 a2 a3 l4 (decide ((l4.length : Int) > 300)) l0_0 l0_1 l0_2 a5_0 a5_1 a5_2 a5_3))) = some r := h
 clear h
 have HC7 := Aside0.mk H
 clear H
 go_enter Try.func4, Try.ntmps4
 go_upto_region 1 with (first | ((with_reducible refine gate_dst (N := 6) rfl ?_); (try (refine gate_guard (by rfl) ?_; dsimp only)); refine box_event ?hg (N := 6) ?hd (cs := #[.slice A0_0 l0_0.length c0_0, .slice A0_1 l0_1.length c0_1, .slice A0_2 l0_2.length c0_2]) (t := 53) ?hr ?_; (case hd => rfl); (case hg => rfl); (case hr => first | (go_simp; done) | (go_simp; rfl)); intro gb236 hg w8 hbox hb; have n0_ := Aside0.mk (below_step (qW HB.out) hb); have n1_ := Aside0.mk (hbox); have n2_ := Aside0.mk ((by rw [hg]; exact (below_size (qW HB.out)) : w.heap.size ≤ gb236)); have n3_ := Aside0.mk ((by rw [hg]; exact (below_size (qW HB.out)) : w.heap.size ≤ gb236)); clear HB; have HB := n0_; have BK236 := n1_; have GW236 := n2_; have GE236 := n3_; clear n0_ n1_ n2_ n3_; clear hb hbox hg) | ((with_reducible refine gate_dst (N := 11) rfl ?_); (try (refine gate_guard (by rfl) ?_; dsimp only)); refine box_event ?hg (N := 11) ?hd (cs := #[.int .u8 a5_0, .int .u8 a5_1, .int .u16 a5_2, .int .i64 a5_3]) (t := 56) ?hr ?_; (case hd => rfl); (case hg => rfl); (case hr => first | (go_simp; done) | (go_simp; rfl)); intro gb237 hg w9 hbox hb; have n0_ := Aside0.mk (blk_below (qb BK236.out) hb); have n1_ := Aside0.mk (below_step (qW HB.out) hb); have n2_ := Aside0.mk (hbox); have n3_ := Aside0.mk ((by rw [hg]; exact (below_size (qW HB.out)) : w.heap.size ≤ gb237)); have n4_ := Aside0.mk ((by rw [hg]; exact (below_size (qW HB.out)) : w.heap.size ≤ gb237)); have n5_ := Aside0.mk ((by rw [hg]; exact Nat.ne_of_lt (blk_lt (qb BK236.out)) : gb236 ≠ gb237)); have n6_ := Aside0.mk ((by rw [hg]; exact Nat.ne_of_gt (blk_lt (qb BK236.out)) : gb237 ≠ gb236)); clear BK236 HB; have BK236 := n0_; have HB := n1_; have BK237 := n2_; have GW237 := n3_; have GE237 := n4_; have NB236_237 := n5_; have NB237_236 := n6_; clear n0_ n1_ n2_ n3_ n4_ n5_ n6_; clear hb hbox hg))
 (try simp only [Act.put, List.setIfInBounds_toArray, List.set_cons_zero, List.set_cons_succ])
 go_cut [31] (fun v31 wc => ∃ (kq : Nat) (x31_6 : Bool), v31 = .bool x31_6 ∧ Aside0 (garderobelaw17_ShapeMoves.j0 kq a1 a2 a3 l4 x31_6 l0_0 l0_1 l0_2 a5_0 a5_1 a5_2 a5_3 = some r) ∧ Aside0 (kq ≤ k) ∧ Aside0 (wc.heap[gb236]? = some (.cells #[(.slice A0_0 l0_0.length c0_0), (.slice A0_1 l0_1.length c0_1), (.slice A0_2 l0_2.length c0_2)] 53 (0, 0))) ∧ Aside0 (wc.heap[gb237]? = some (.cells #[.int .u8 a5_0, .int .u8 a5_1, .int .u16 a5_2, .int .i64 a5_3] 56 (0, 0))) ∧ Aside0 (Below w.heap.size w wc))
 case first =>
  have H := HC7.out
  clear HC7
  replace H := Option.bind_eq_some_iff.mp H
  obtain ⟨t238, A100, H⟩ := H
  replace H : (if t238 = true then (garderobelaw17_ShapeMoves.j0 k a1 a2 a3 l4 true l0_0 l0_1 l0_2 a5_0 a5_1 a5_2 a5_3) else (garderobelaw17_ShapeMoves.j0 k a1 a2 a3 l4 (decide ((l4.length : Int) > 300)) l0_0 l0_1 l0_2 a5_0 a5_1 a5_2 a5_3)) = some r := H
  have A10 := Aside0.mk A100
  clear A100
  by_cases c11 : t238 = true
  ·subst c11
   have H1 : (garderobelaw17_ShapeMoves.j0 k a1 a2 a3 l4 true l0_0 l0_1 l0_2 a5_0 a5_1 a5_2 a5_3) = some r := by rw [if_pos rfl] at H; exact H
   clear H
   have H := H1
   clear H1
   have H' := Aside0.mk H
   clear H
   have hnb12 := NB236_237.out
   have hnc12 := NB237_236.out
   have hcz13_0 : w9.cell? ⟨gb236, 0, none⟩ = some (.slice A0_0 l0_0.length c0_0) := (blk_cell BK236.out 0).trans rfl
   have hcz13_1 : w9.cell? ⟨gb236, 1, none⟩ = some (.slice A0_1 l0_1.length c0_1) := (blk_cell BK236.out 1).trans rfl
   have hcz13_2 : w9.cell? ⟨gb236, 2, none⟩ = some (.slice A0_2 l0_2.length c0_2) := (blk_cell BK236.out 2).trans rfl
   have hfz13_0 := blk_frozen BK236.out 0
   have hfz13_1 := blk_frozen BK236.out 1
   have hfz13_2 := blk_frozen BK236.out 2
   go_wp2_with (first | ((with_reducible refine gate_callee (f := 17) rfl ?_); refine goesL_ (some 26) rfl rfl Try.func17 (by kernel_rfl) rfl #[.agg #[.slice A0_0 l0_0.length c0_0, .slice A0_1 l0_1.length c0_1, .slice A0_2 l0_2.length c0_2]] rfl (by (try simp only [List.map_toArray, List.map_cons, List.map_nil]); first | done | rfl | (simp only [List.length_drop, List.length_take]; rfl)) ?_; (with_reducible refine (garderobelaw17_great.calls _ _ l0_0 _ _ l0_1 _ _ l0_2 true _ ?side1 ?side2 ?side3 ?side4 ?side5 ?side6 A10.out).mono ?_); (case side1 => exact qC (Kd.C_below HR0_0.out HB.out)); (case side2 => exact HC0_0.out); (case side3 => exact qC (Kd.C_below HR0_1.out HB.out)); (case side4 => exact HC0_1.out); (case side5 => exact qC (Kd.C_below HR0_2.out HB.out)); (case side6 => exact HC0_2.out); rintro e w14 ⟨rfl, hb⟩; refine ⟨_, rfl, ?_⟩; have n0_ := Aside0.mk (blk_below (qb BK236.out) hb); have n1_ := Aside0.mk (blk_below (qb BK237.out) hb); have n2_ := Aside0.mk (below_step (qW HB.out) hb); clear BK236 BK237 HB; have BK236 := n0_; have BK237 := n1_; have HB := n2_; clear n0_ n1_ n2_; (try clear hb); (try clear hb2); (try clear hk); (try clear hi)))
   go_meet
   case rel => exact ⟨_, (true), (by first | rfl | (simp; done) | (simp [*]; done)), H', ⟨by first | omega | exact Nat.le_refl _⟩, ⟨qf BK236.out⟩, ⟨qf BK237.out⟩, ⟨qW HB.out⟩⟩
  ·replace c11 := Bool.eq_false_iff.mpr c11
   subst c11
   have H1 : (garderobelaw17_ShapeMoves.j0 k a1 a2 a3 l4 (decide ((l4.length : Int) > 300)) l0_0 l0_1 l0_2 a5_0 a5_1 a5_2 a5_3) = some r := by rw [if_neg (show ¬ (false = true) by decide)] at H; exact H
   clear H
   have H := H1
   clear H1
   have H' := Aside0.mk H
   clear H
   have hnb15 := NB236_237.out
   have hnc15 := NB237_236.out
   have hcz16_0 : w9.cell? ⟨gb236, 0, none⟩ = some (.slice A0_0 l0_0.length c0_0) := (blk_cell BK236.out 0).trans rfl
   have hcz16_1 : w9.cell? ⟨gb236, 1, none⟩ = some (.slice A0_1 l0_1.length c0_1) := (blk_cell BK236.out 1).trans rfl
   have hcz16_2 : w9.cell? ⟨gb236, 2, none⟩ = some (.slice A0_2 l0_2.length c0_2) := (blk_cell BK236.out 2).trans rfl
   have hfz16_0 := blk_frozen BK236.out 0
   have hfz16_1 := blk_frozen BK236.out 1
   have hfz16_2 := blk_frozen BK236.out 2
   go_wp2_with (first | ((with_reducible refine gate_callee (f := 17) rfl ?_); refine goesL_ (some 26) rfl rfl Try.func17 (by kernel_rfl) rfl #[.agg #[.slice A0_0 l0_0.length c0_0, .slice A0_1 l0_1.length c0_1, .slice A0_2 l0_2.length c0_2]] rfl (by (try simp only [List.map_toArray, List.map_cons, List.map_nil]); first | done | rfl | (simp only [List.length_drop, List.length_take]; rfl)) ?_; (with_reducible refine (garderobelaw17_great.calls _ _ l0_0 _ _ l0_1 _ _ l0_2 false _ ?side1 ?side2 ?side3 ?side4 ?side5 ?side6 A10.out).mono ?_); (case side1 => exact qC (Kd.C_below HR0_0.out HB.out)); (case side2 => exact HC0_0.out); (case side3 => exact qC (Kd.C_below HR0_1.out HB.out)); (case side4 => exact HC0_1.out); (case side5 => exact qC (Kd.C_below HR0_2.out HB.out)); (case side6 => exact HC0_2.out); rintro e w17 ⟨rfl, hb⟩; refine ⟨_, rfl, ?_⟩; have n0_ := Aside0.mk (blk_below (qb BK236.out) hb); have n1_ := Aside0.mk (blk_below (qb BK237.out) hb); have n2_ := Aside0.mk (below_step (qW HB.out) hb); clear BK236 BK237 HB; have BK236 := n0_; have BK237 := n1_; have HB := n2_; clear n0_ n1_ n2_; (try clear hb); (try clear hb2); (try clear hk); (try clear hi)))
   go_meet
   case rel => exact ⟨_, (decide ((l4.length : Int) > 300)), (by first | rfl | (simp; done) | (simp [*]; done)), H', ⟨by first | omega | exact Nat.le_refl _⟩, ⟨qf BK236.out⟩, ⟨qf BK237.out⟩, ⟨qW HB.out⟩⟩
 case rest =>
  clear HC7
  try clear c1
  try clear p2
  try clear c4
  try clear c11
  try clear c12
  try clear c15
  try clear c17
  try clear hcz13_0
  try clear hcz13_1
  try clear hcz13_2
  try clear hcz16_0
  try clear hcz16_1
  try clear hcz16_2
  try clear hfz13_0
  try clear hfz13_1
  try clear hfz13_2
  try clear hfz16_0
  try clear hfz16_1
  try clear hfz16_2
  obtain ⟨kq, x31_6, rfl, HA, HJ6, BK236, BK237, HB⟩ := hcut
  cases kq with
  | zero => exact absurd HA.out (by simp [garderobelaw17_ShapeMoves.j0])
  | succ kj6 =>
   have H := HA.out
   clear HA
   simp only [garderobelaw17_ShapeMoves.j0] at H
   by_cases c18 : x31_6 = true
   ·subst c18
    have H1 : ((garderobelaw17_lives.f).bind fun t239 => (some t239)) = some r := by rw [if_pos rfl] at H; exact H
    clear H
    have H := H1
    clear H1
    replace H := Option.bind_eq_some_iff.mp H
    obtain ⟨t239, A190, H⟩ := H
    replace H : (some t239) = some r := H
    have A19 := Aside0.mk A190
    clear A190
    obtain rfl := Option.some.inj H
    go_wp2_with (first | ((with_reducible refine gate_callee (f := 18) rfl ?_); refine goesL_ (some 32) rfl rfl Try.func18 (by kernel_rfl) rfl #[] rfl (by (try simp only [List.map_toArray, List.map_cons, List.map_nil]); first | done | rfl | (simp only [List.length_drop, List.length_take]; rfl)) ?_; (with_reducible refine (garderobelaw17_lives.calls  t239 _ A19.out).mono ?_); rintro e w20 ⟨rfl, hb⟩; refine ⟨_, rfl, ?_⟩; have n0_ := Aside0.mk (blk_below (qb BK236.out) hb); have n1_ := Aside0.mk (blk_below (qb BK237.out) hb); have n2_ := Aside0.mk (below_step (qW HB.out) hb); clear BK236 BK237 HB; have BK236 := n0_; have BK237 := n1_; have HB := n2_; clear n0_ n1_ n2_; (try clear hb); (try clear hb2); (try clear hk); (try clear hi)))
    go_ret
    exact ⟨by first | rfl | (simp [errW_none, errW_some] <;> rfl) | (simp [*, errW_none, errW_some] <;> rfl), by repeat (first | (with_reducible first | exact HB.out | apply below_alloc | apply pw_below_drewN | apply below_drew1 | refine below_set ?_ GE236.out | refine below_set ?_ GE237.out) | exact HB.out)⟩
   ·replace c18 := Bool.eq_false_iff.mpr c18
    subst c18
    have H1 : ((garderoberef17_Copy.f l0_0 l0_1 l0_2).bind fun bt240 => ((shape_Push.f l0_0 l0_1 l0_2 a1 l4).bind fun bt250 => ((garderoberef17_Push.f l0_0 l0_1 l0_2 a1 l4).bind fun bt261 => ((garderoberef17_Same.f kj6 bt250.1 bt250.2.1 bt250.2.2.1 bt261.1 bt261.2.1 bt261.2.2.1).bind fun t272 => (if t272 = true then (garderobelaw17_ShapeMoves.j1 kj6 a2 a3 (bt250.2.2.2 != bt261.2.2.2) l0_0 l0_1 l0_2 a5_0 a5_1 a5_2 a5_3 bt240.1 bt240.2.1 bt240.2.2) else (garderobelaw17_ShapeMoves.j1 kj6 a2 a3 true l0_0 l0_1 l0_2 a5_0 a5_1 a5_2 a5_3 bt240.1 bt240.2.1 bt240.2.2)))))) = some r := by rw [if_neg (show ¬ (false = true) by decide)] at H; exact H
    clear H
    have H := H1
    clear H1
    replace H := Option.bind_eq_some_iff.mp H
    obtain ⟨⟨t240, t243, t246⟩, A210, H⟩ := H
    replace H : ((shape_Push.f l0_0 l0_1 l0_2 a1 l4).bind fun bt250 => ((garderoberef17_Push.f l0_0 l0_1 l0_2 a1 l4).bind fun bt261 => ((garderoberef17_Same.f kj6 bt250.1 bt250.2.1 bt250.2.2.1 bt261.1 bt261.2.1 bt261.2.2.1).bind fun t272 => (if t272 = true then (garderobelaw17_ShapeMoves.j1 kj6 a2 a3 (bt250.2.2.2 != bt261.2.2.2) l0_0 l0_1 l0_2 a5_0 a5_1 a5_2 a5_3 t240 t243 t246) else (garderobelaw17_ShapeMoves.j1 kj6 a2 a3 true l0_0 l0_1 l0_2 a5_0 a5_1 a5_2 a5_3 t240 t243 t246))))) = some r := H
    have A21 := Aside0.mk A210
    clear A210
    replace H := Option.bind_eq_some_iff.mp H
    obtain ⟨⟨t250, t253, t256, t259⟩, A220, H⟩ := H
    replace H : ((garderoberef17_Push.f l0_0 l0_1 l0_2 a1 l4).bind fun bt261 => ((garderoberef17_Same.f kj6 t250 t253 t256 bt261.1 bt261.2.1 bt261.2.2.1).bind fun t272 => (if t272 = true then (garderobelaw17_ShapeMoves.j1 kj6 a2 a3 (t259 != bt261.2.2.2) l0_0 l0_1 l0_2 a5_0 a5_1 a5_2 a5_3 t240 t243 t246) else (garderobelaw17_ShapeMoves.j1 kj6 a2 a3 true l0_0 l0_1 l0_2 a5_0 a5_1 a5_2 a5_3 t240 t243 t246)))) = some r := H
    have A22 := Aside0.mk A220
    clear A220
    replace H := Option.bind_eq_some_iff.mp H
    obtain ⟨⟨t261, t264, t267, t270⟩, A230, H⟩ := H
    replace H : ((garderoberef17_Same.f kj6 t250 t253 t256 t261 t264 t267).bind fun t272 => (if t272 = true then (garderobelaw17_ShapeMoves.j1 kj6 a2 a3 (t259 != t270) l0_0 l0_1 l0_2 a5_0 a5_1 a5_2 a5_3 t240 t243 t246) else (garderobelaw17_ShapeMoves.j1 kj6 a2 a3 true l0_0 l0_1 l0_2 a5_0 a5_1 a5_2 a5_3 t240 t243 t246))) = some r := H
    have A23 := Aside0.mk A230
    clear A230
    have HC24 := Aside0.mk H
    clear H
    have hnb25 := NB236_237.out
    have hnc25 := NB237_236.out
    have hcz26_0 : wc.cell? ⟨gb236, 0, none⟩ = some (.slice A0_0 l0_0.length c0_0) := (blk_cell BK236.out 0).trans rfl
    have hcz26_1 : wc.cell? ⟨gb236, 1, none⟩ = some (.slice A0_1 l0_1.length c0_1) := (blk_cell BK236.out 1).trans rfl
    have hcz26_2 : wc.cell? ⟨gb236, 2, none⟩ = some (.slice A0_2 l0_2.length c0_2) := (blk_cell BK236.out 2).trans rfl
    have hfz26_0 := blk_frozen BK236.out 0
    have hfz26_1 := blk_frozen BK236.out 1
    have hfz26_2 := blk_frozen BK236.out 2
    go_upto_region 6 with (first | ((with_reducible refine gate_callee (f := 19) rfl ?_); refine goesL_ (some 34) rfl rfl Try.func19 (by kernel_rfl) rfl #[.agg #[.slice A0_0 l0_0.length c0_0, .slice A0_1 l0_1.length c0_1, .slice A0_2 l0_2.length c0_2]] rfl (by (try simp only [List.map_toArray, List.map_cons, List.map_nil]); first | done | rfl | (simp only [List.length_drop, List.length_take]; rfl)) ?_; (with_reducible refine (garderoberef17_Copy.calls _ _ l0_0 _ _ l0_1 _ _ l0_2 t240 t243 t246 _ ?side1 ?side2 ?side3 ?side4 ?side5 ?side6 A21.out).mono ?_); (case side1 => exact qC (Kd.C_below HR0_0.out HB.out)); (case side2 => exact HC0_0.out); (case side3 => exact qC (Kd.C_below HR0_1.out HB.out)); (case side4 => exact HC0_1.out); (case side5 => exact qC (Kd.C_below HR0_2.out HB.out)); (case side6 => exact HC0_2.out); rintro e w27 ⟨v241, v244, v247, rfl, ho0, ho1, ho2, hb⟩; refine ⟨_, rfl, ?_⟩; have n0_ := Aside0.mk (Kd.R_lower (Kd.R_newB ho0 (qb BK237.out)) (below_size (qW HB.out))); have n1_ := Aside0.mk (Kd.R_lower (Kd.R_newB ho1 (qb BK237.out)) (below_size (qW HB.out))); have n2_ := Aside0.mk (Kd.R_lower ho2 (below_size (qW HB.out))); have n3_ := Aside0.mk (blk_below (qb BK236.out) hb); have n4_ := Aside0.mk (blk_below (qb BK237.out) hb); have n5_ := Aside0.mk (below_step (qW HB.out) hb); clear BK236 BK237 HB; have HO242 := n0_; have HO245 := n1_; have HO248 := n2_; have BK236 := n3_; have BK237 := n4_; have HB := n5_; clear n0_ n1_ n2_ n3_ n4_ n5_; (try clear hb); (try clear hb2); (try clear hk); (try clear hi); (try clear ho0); (try clear ho1); (try clear ho2)) | ((with_reducible refine gate_dst (N := 13) rfl ?_); (try (refine gate_guard (by rfl) ?_; dsimp only)); refine box_event ?hg (N := 13) ?hd (cs := #[.slice none 0 0, .slice none 0 0, .slice none 0 0]) (t := 53) ?hr ?_; (case hd => rfl); (case hg => rfl); (case hr => first | (go_simp; done) | (go_simp; rfl)); intro gb249 hg w28 hbox hb; have n0_ := Aside0.mk (Kd.R_below (qR HO242.out) hb); have n1_ := Aside0.mk (Kd.R_below (qR HO245.out) hb); have n2_ := Aside0.mk (Kd.R_below (qR HO248.out) hb); have n3_ := Aside0.mk (blk_below (qb BK236.out) hb); have n4_ := Aside0.mk (blk_below (qb BK237.out) hb); have n5_ := Aside0.mk (below_step (qW HB.out) hb); have n6_ := Aside0.mk (hbox); have n7_ := Aside0.mk ((by rw [hg]; exact (below_size (qW HB.out)) : w.heap.size ≤ gb249)); have n8_ := Aside0.mk ((by rw [hg]; exact (below_size (qW HB.out)) : w.heap.size ≤ gb249)); have n9_ := Aside0.mk ((by rw [hg]; exact Nat.ne_of_lt (blk_lt (qb BK236.out)) : gb236 ≠ gb249)); have n10_ := Aside0.mk ((by rw [hg]; exact Nat.ne_of_gt (blk_lt (qb BK236.out)) : gb249 ≠ gb236)); have n11_ := Aside0.mk ((by rw [hg]; exact Nat.ne_of_lt (blk_lt (qb BK237.out)) : gb237 ≠ gb249)); have n12_ := Aside0.mk ((by rw [hg]; exact Nat.ne_of_gt (blk_lt (qb BK237.out)) : gb249 ≠ gb237)); clear HO242 HO245 HO248 BK236 BK237 HB; have HO242 := n0_; have HO245 := n1_; have HO248 := n2_; have BK236 := n3_; have BK237 := n4_; have HB := n5_; have BK249 := n6_; have GW249 := n7_; have GE249 := n8_; have NB236_249 := n9_; have NB249_236 := n10_; have NB237_249 := n11_; have NB249_237 := n12_; clear n0_ n1_ n2_ n3_ n4_ n5_ n6_ n7_ n8_ n9_ n10_ n11_ n12_; clear hb hbox hg; obtain ⟨Ao29, co29, eo29⟩ := Kd.R_slice HO242.out; subst eo29; have hnb30 := NB249_236.out; have hnc30 := NB236_249.out; have hnb31 := NB249_237.out; have hnc31 := NB237_249.out; have hcz32_0 : w28.cell? ⟨gb249, 0, none⟩ = some (.slice none 0 0) := (blk_cell BK249.out 0).trans rfl; have hcz32_1 : w28.cell? ⟨gb249, 1, none⟩ = some (.slice none 0 0) := (blk_cell BK249.out 1).trans rfl; have hcz32_2 : w28.cell? ⟨gb249, 2, none⟩ = some (.slice none 0 0) := (blk_cell BK249.out 2).trans rfl; have hfz32_0 := blk_frozen BK249.out 0; have hfz32_1 := blk_frozen BK249.out 1; have hfz32_2 := blk_frozen BK249.out 2; obtain ⟨Ao33, co33, eo33⟩ := Kd.R_slice HO245.out; subst eo33; obtain ⟨Ao34, co34, eo34⟩ := Kd.R_slice HO248.out; subst eo34; have hcz35_0 : w28.cell? ⟨gb236, 0, none⟩ = some (.slice A0_0 l0_0.length c0_0) := (blk_cell BK236.out 0).trans rfl; have hcz35_1 : w28.cell? ⟨gb236, 1, none⟩ = some (.slice A0_1 l0_1.length c0_1) := (blk_cell BK236.out 1).trans rfl; have hcz35_2 : w28.cell? ⟨gb236, 2, none⟩ = some (.slice A0_2 l0_2.length c0_2) := (blk_cell BK236.out 2).trans rfl; have hfz35_0 := blk_frozen BK236.out 0; have hfz35_1 := blk_frozen BK236.out 1; have hfz35_2 := blk_frozen BK236.out 2) | ((with_reducible refine gate_callee (f := 20) rfl ?_); refine goesL_ (some 39) rfl rfl Try.func20 (by kernel_rfl) rfl #[.agg #[.slice A0_0 l0_0.length c0_0, .slice A0_1 l0_1.length c0_1, .slice A0_2 l0_2.length c0_2], .int .i64 a1, .slice A4 l4.length c4] rfl (by (try simp only [List.map_toArray, List.map_cons, List.map_nil]); first | done | rfl | (simp only [List.length_drop, List.length_take]; rfl)) ?_; (with_reducible refine (shape_Push.calls _ _ l0_0 _ _ l0_1 _ _ l0_2 a1 _ _ l4 t250 t253 t256 t259 _ ?side1 ?side2 ?side3 ?side4 ?side5 ?side6 ?side7 ?side8 A22.out).mono ?_); (case side1 => exact Kd.C_below HR0_0.out (qW HB.out)); (case side2 => exact HC0_0.out); (case side3 => exact Kd.C_below HR0_1.out (qW HB.out)); (case side4 => exact HC0_1.out); (case side5 => exact Kd.C_below HR0_2.out (qW HB.out)); (case side6 => exact HC0_2.out); (case side7 => exact Kd.C_below HR4.out (qW HB.out)); (case side8 => exact HC4.out); rintro e w36 ⟨v251, v254, v257, rfl, ho0, ho1, ho2, hb⟩; refine ⟨_, rfl, ?_⟩; have n0_ := Aside0.mk (Kd.R_elder' (qR (Kd.R_mono (Kd.R_far (p := ⟨gb249, 2, none⟩) (Kd.R_far (p := ⟨gb249, 1, none⟩) (Kd.R_far (p := ⟨gb249, 0, none⟩) (Kd.R_types HO242.out BK249.out (by decide)) (fun _ hk => hk.2) (.slice Ao29 t240.length co29)) (fun _ hk => hk.2) (.slice Ao33 t243.length co33)) (fun _ hk => hk.2) (.slice Ao34 t246.length co34)) (fun _ h_ => h_.1))) (Kd.R_base ho0) hb); have n1_ := Aside0.mk (Kd.R_elder' (qR (Kd.R_mono (Kd.R_far (p := ⟨gb249, 2, none⟩) (Kd.R_far (p := ⟨gb249, 1, none⟩) (Kd.R_far (p := ⟨gb249, 0, none⟩) (Kd.R_types HO245.out BK249.out (by decide)) (fun _ hk => hk.2) (.slice Ao29 t240.length co29)) (fun _ hk => hk.2) (.slice Ao33 t243.length co33)) (fun _ hk => hk.2) (.slice Ao34 t246.length co34)) (fun _ h_ => h_.1))) (Kd.R_base ho0) hb); have n2_ := Aside0.mk (Kd.R_elder' (qR (Kd.R_mono (Kd.R_far (p := ⟨gb249, 2, none⟩) (Kd.R_far (p := ⟨gb249, 1, none⟩) (Kd.R_far (p := ⟨gb249, 0, none⟩) (Kd.R_types HO248.out BK249.out (by decide)) (fun _ hk => hk.2) (.slice Ao29 t240.length co29)) (fun _ hk => hk.2) (.slice Ao33 t243.length co33)) (fun _ hk => hk.2) (.slice Ao34 t246.length co34)) (fun _ h_ => h_.1))) (Kd.R_base ho2) hb); have n3_ := Aside0.mk (Kd.R_lower (Kd.R_newB (Kd.R_new' (Kd.R_new' (Kd.R_mono (ok' := fun k_ => True) ho0 (fun _ hk_ => trivial)) (Kd.R_lt (qR (Kd.R_mono (Kd.R_far (p := ⟨gb249, 2, none⟩) (Kd.R_far (p := ⟨gb249, 1, none⟩) (Kd.R_far (p := ⟨gb249, 0, none⟩) (Kd.R_types HO242.out BK249.out (by decide)) (fun _ hk => hk.2) (.slice Ao29 t240.length co29)) (fun _ hk => hk.2) (.slice Ao33 t243.length co33)) (fun _ hk => hk.2) (.slice Ao34 t246.length co34)) (fun _ h_ => h_.1))))) (Kd.R_lt (qR (Kd.R_mono (Kd.R_far (p := ⟨gb249, 2, none⟩) (Kd.R_far (p := ⟨gb249, 1, none⟩) (Kd.R_far (p := ⟨gb249, 0, none⟩) (Kd.R_types HO245.out BK249.out (by decide)) (fun _ hk => hk.2) (.slice Ao29 t240.length co29)) (fun _ hk => hk.2) (.slice Ao33 t243.length co33)) (fun _ hk => hk.2) (.slice Ao34 t246.length co34)) (fun _ h_ => h_.1))))) (qf BK237.out)) (below_size (qW HB.out))); have n4_ := Aside0.mk (Kd.V_lower (Kd.V_mono (ok' := fun k_ => some k_ ≠ (v251 : Value).ownBlock ∧ some k_ ≠ (v257 : Value).ownBlock ∧ some k_ ≠ (.slice Ao29 t240.length co29 : Value).ownBlock ∧ some k_ ≠ (.slice Ao33 t243.length co33 : Value).ownBlock ∧ some k_ ≠ (.slice Ao34 t246.length co34 : Value).ownBlock ∧ k_ ≠ gb236 ∧ k_ ≠ gb237 ∧ k_ ≠ gb249) ho1 (fun k_ hk_ => ⟨hk_.2.1, hk_.2.2, (Kd.fresh' (Kd.R_lt (qR (Kd.R_mono (Kd.R_far (p := ⟨gb249, 2, none⟩) (Kd.R_far (p := ⟨gb249, 1, none⟩) (Kd.R_far (p := ⟨gb249, 0, none⟩) (Kd.R_types HO242.out BK249.out (by decide)) (fun _ hk => hk.2) (.slice Ao29 t240.length co29)) (fun _ hk => hk.2) (.slice Ao33 t243.length co33)) (fun _ hk => hk.2) (.slice Ao34 t246.length co34)) (fun _ h_ => h_.1)))) k_ hk_.1), (Kd.fresh' (Kd.R_lt (qR (Kd.R_mono (Kd.R_far (p := ⟨gb249, 2, none⟩) (Kd.R_far (p := ⟨gb249, 1, none⟩) (Kd.R_far (p := ⟨gb249, 0, none⟩) (Kd.R_types HO245.out BK249.out (by decide)) (fun _ hk => hk.2) (.slice Ao29 t240.length co29)) (fun _ hk => hk.2) (.slice Ao33 t243.length co33)) (fun _ hk => hk.2) (.slice Ao34 t246.length co34)) (fun _ h_ => h_.1)))) k_ hk_.1), (Kd.fresh' (Kd.R_lt (qR (Kd.R_mono (Kd.R_far (p := ⟨gb249, 2, none⟩) (Kd.R_far (p := ⟨gb249, 1, none⟩) (Kd.R_far (p := ⟨gb249, 0, none⟩) (Kd.R_types HO248.out BK249.out (by decide)) (fun _ hk => hk.2) (.slice Ao29 t240.length co29)) (fun _ hk => hk.2) (.slice Ao33 t243.length co33)) (fun _ hk => hk.2) (.slice Ao34 t246.length co34)) (fun _ h_ => h_.1)))) k_ hk_.1), (Kd.freshB (qf BK236.out) k_ hk_.1), (Kd.freshB (qf BK237.out) k_ hk_.1), (Kd.freshB (g := gb249) (o := .cells #[.slice Ao29 t240.length co29, .slice Ao33 t243.length co33, .slice Ao34 t246.length co34] 53 (0, 0)) (by (with_reducible repeat (first | refine blk_drewN ?_ _ | refine blk_drew ?_ | refine blk_alloc ?_ _)); refine blk_put (cs := #[.slice Ao29 t240.length co29, .slice Ao33 t243.length co33, .slice none 0 0]) ?_ 2 _ rfl; (with_reducible repeat (first | refine blk_drewN ?_ _ | refine blk_drew ?_ | refine blk_alloc ?_ _)); refine blk_put (cs := #[.slice Ao29 t240.length co29, .slice none 0 0, .slice none 0 0]) ?_ 1 _ rfl; (with_reducible repeat (first | refine blk_drewN ?_ _ | refine blk_drew ?_ | refine blk_alloc ?_ _)); refine blk_put (cs := #[.slice none 0 0, .slice none 0 0, .slice none 0 0]) ?_ 0 _ rfl; (with_reducible repeat (first | refine blk_drewN ?_ _ | refine blk_drew ?_ | refine blk_alloc ?_ _)); exact BK249.out) k_ hk_.1)⟩)) (below_size (qW HB.out))); have n5_ := Aside0.mk (Kd.R_lower (Kd.R_new' (Kd.R_mono (ok' := fun k_ => True) ho2 (fun _ hk_ => trivial)) (Kd.R_lt (qR (Kd.R_mono (Kd.R_far (p := ⟨gb249, 2, none⟩) (Kd.R_far (p := ⟨gb249, 1, none⟩) (Kd.R_far (p := ⟨gb249, 0, none⟩) (Kd.R_types HO248.out BK249.out (by decide)) (fun _ hk => hk.2) (.slice Ao29 t240.length co29)) (fun _ hk => hk.2) (.slice Ao33 t243.length co33)) (fun _ hk => hk.2) (.slice Ao34 t246.length co34)) (fun _ h_ => h_.1))))) (below_size (qW HB.out))); have n6_ := Aside0.mk (blk_below (qf BK236.out) hb); have n7_ := Aside0.mk (blk_below (qf BK237.out) hb); have n8_ := Aside0.mk (blk_below (g := gb249) (o := .cells #[.slice Ao29 t240.length co29, .slice Ao33 t243.length co33, .slice Ao34 t246.length co34] 53 (0, 0)) (by (with_reducible repeat (first | refine blk_drewN ?_ _ | refine blk_drew ?_ | refine blk_alloc ?_ _)); refine blk_put (cs := #[.slice Ao29 t240.length co29, .slice Ao33 t243.length co33, .slice none 0 0]) ?_ 2 _ rfl; (with_reducible repeat (first | refine blk_drewN ?_ _ | refine blk_drew ?_ | refine blk_alloc ?_ _)); refine blk_put (cs := #[.slice Ao29 t240.length co29, .slice none 0 0, .slice none 0 0]) ?_ 1 _ rfl; (with_reducible repeat (first | refine blk_drewN ?_ _ | refine blk_drew ?_ | refine blk_alloc ?_ _)); refine blk_put (cs := #[.slice none 0 0, .slice none 0 0, .slice none 0 0]) ?_ 0 _ rfl; (with_reducible repeat (first | refine blk_drewN ?_ _ | refine blk_drew ?_ | refine blk_alloc ?_ _)); exact BK249.out) hb); have n9_ := Aside0.mk (below_step (qW HB.out) hb); clear HO242 HO245 HO248 BK236 BK237 BK249 HB; have HO242 := n0_; have HO245 := n1_; have HO248 := n2_; have HO252 := n3_; have HO255 := n4_; have HO258 := n5_; have BK236 := n6_; have BK237 := n7_; have BK249 := n8_; have HB := n9_; clear n0_ n1_ n2_ n3_ n4_ n5_ n6_ n7_ n8_ n9_; (try clear hb); (try clear hb2); (try clear hk); (try clear hi); (try clear ho0); (try clear ho1); (try clear ho2)) | ((with_reducible refine gate_dst (N := 14) rfl ?_); (try (refine gate_guard (by rfl) ?_; dsimp only)); refine box_event ?hg (N := 14) ?hd (cs := #[.slice none 0 0, .slice none 0 0, .slice none 0 0]) (t := 53) ?hr ?_; (case hd => rfl); (case hg => rfl); (case hr => first | (go_simp; done) | (go_simp; rfl)); intro gb260 hg w37 hbox hb; have n0_ := Aside0.mk (Kd.R_below (qR HO242.out) hb); have n1_ := Aside0.mk (Kd.R_below (qR HO245.out) hb); have n2_ := Aside0.mk (Kd.R_below (qR HO248.out) hb); have n3_ := Aside0.mk (Kd.R_below (qR HO252.out) hb); have n4_ := Aside0.mk (Kd.V_below (Kd.V_elderB (qV HO255.out) gb260 (Nat.le_of_eq hg.symm)) hb); have n5_ := Aside0.mk (Kd.R_below (qR HO258.out) hb); have n6_ := Aside0.mk (blk_below (qb BK236.out) hb); have n7_ := Aside0.mk (blk_below (qb BK237.out) hb); have n8_ := Aside0.mk (blk_below (qb BK249.out) hb); have n9_ := Aside0.mk (below_step (qW HB.out) hb); have n10_ := Aside0.mk (hbox); have n11_ := Aside0.mk ((by rw [hg]; exact (below_size (qW HB.out)) : w.heap.size ≤ gb260)); have n12_ := Aside0.mk ((by rw [hg]; exact (below_size (qW HB.out)) : w.heap.size ≤ gb260)); have n13_ := Aside0.mk ((by rw [hg]; exact Nat.ne_of_lt (blk_lt (qb BK236.out)) : gb236 ≠ gb260)); have n14_ := Aside0.mk ((by rw [hg]; exact Nat.ne_of_gt (blk_lt (qb BK236.out)) : gb260 ≠ gb236)); have n15_ := Aside0.mk ((by rw [hg]; exact Nat.ne_of_lt (blk_lt (qb BK237.out)) : gb237 ≠ gb260)); have n16_ := Aside0.mk ((by rw [hg]; exact Nat.ne_of_gt (blk_lt (qb BK237.out)) : gb260 ≠ gb237)); have n17_ := Aside0.mk ((by rw [hg]; exact Nat.ne_of_lt (blk_lt (qb BK249.out)) : gb249 ≠ gb260)); have n18_ := Aside0.mk ((by rw [hg]; exact Nat.ne_of_gt (blk_lt (qb BK249.out)) : gb260 ≠ gb249)); clear HO242 HO245 HO248 HO252 HO255 HO258 BK236 BK237 BK249 HB; have HO242 := n0_; have HO245 := n1_; have HO248 := n2_; have HO252 := n3_; have HO255 := n4_; have HO258 := n5_; have BK236 := n6_; have BK237 := n7_; have BK249 := n8_; have HB := n9_; have BK260 := n10_; have GW260 := n11_; have GE260 := n12_; have NB236_260 := n13_; have NB260_236 := n14_; have NB237_260 := n15_; have NB260_237 := n16_; have NB249_260 := n17_; have NB260_249 := n18_; clear n0_ n1_ n2_ n3_ n4_ n5_ n6_ n7_ n8_ n9_ n10_ n11_ n12_ n13_ n14_ n15_ n16_ n17_ n18_; clear hb hbox hg; obtain ⟨Ao38, co38, eo38⟩ := Kd.R_slice HO252.out; subst eo38; have hnb39 := NB260_236.out; have hnc39 := NB236_260.out; have hnb40 := NB260_237.out; have hnc40 := NB237_260.out; have hnb41 := NB260_249.out; have hnc41 := NB249_260.out; have hcz42_0 : w37.cell? ⟨gb260, 0, none⟩ = some (.slice none 0 0) := (blk_cell BK260.out 0).trans rfl; have hcz42_1 : w37.cell? ⟨gb260, 1, none⟩ = some (.slice none 0 0) := (blk_cell BK260.out 1).trans rfl; have hcz42_2 : w37.cell? ⟨gb260, 2, none⟩ = some (.slice none 0 0) := (blk_cell BK260.out 2).trans rfl; have hfz42_0 := blk_frozen BK260.out 0; have hfz42_1 := blk_frozen BK260.out 1; have hfz42_2 := blk_frozen BK260.out 2; obtain ⟨Ao43, co43, eo43⟩ := Kd.V_slice HO255.out; subst eo43; obtain ⟨Ao44, co44, eo44⟩ := Kd.R_slice HO258.out; subst eo44; have hcz45_0 : w37.cell? ⟨gb236, 0, none⟩ = some (.slice A0_0 l0_0.length c0_0) := (blk_cell BK236.out 0).trans rfl; have hcz45_1 : w37.cell? ⟨gb236, 1, none⟩ = some (.slice A0_1 l0_1.length c0_1) := (blk_cell BK236.out 1).trans rfl; have hcz45_2 : w37.cell? ⟨gb236, 2, none⟩ = some (.slice A0_2 l0_2.length c0_2) := (blk_cell BK236.out 2).trans rfl; have hfz45_0 := blk_frozen BK236.out 0; have hfz45_1 := blk_frozen BK236.out 1; have hfz45_2 := blk_frozen BK236.out 2) | ((with_reducible refine gate_callee (f := 21) rfl ?_); refine goesL_ (some 46) rfl rfl Try.func21 (by kernel_rfl) rfl #[.agg #[.slice A0_0 l0_0.length c0_0, .slice A0_1 l0_1.length c0_1, .slice A0_2 l0_2.length c0_2], .int .i64 a1, .slice A4 l4.length c4] rfl (by (try simp only [List.map_toArray, List.map_cons, List.map_nil]); first | done | rfl | (simp only [List.length_drop, List.length_take]; rfl)) ?_; (with_reducible refine (garderoberef17_Push.calls _ _ l0_0 _ _ l0_1 _ _ l0_2 a1 _ _ l4 t261 t264 t267 t270 _ ?side1 ?side2 ?side3 ?side4 ?side5 ?side6 ?side7 ?side8 A23.out).mono ?_); (case side1 => exact Kd.C_below HR0_0.out (qW HB.out)); (case side2 => exact HC0_0.out); (case side3 => exact Kd.C_below HR0_1.out (qW HB.out)); (case side4 => exact HC0_1.out); (case side5 => exact Kd.C_below HR0_2.out (qW HB.out)); (case side6 => exact HC0_2.out); (case side7 => exact Kd.C_below HR4.out (qW HB.out)); (case side8 => exact HC4.out); rintro e w46 ⟨v262, v265, v268, rfl, ho0, ho1, ho2, hb⟩; refine ⟨_, rfl, ?_⟩; have n0_ := Aside0.mk (Kd.R_mono (Kd.R_told (Kd.R_told (Kd.R_old (qR (Kd.R_mono (Kd.R_far (p := ⟨gb260, 2, none⟩) (Kd.R_far (p := ⟨gb260, 1, none⟩) (Kd.R_far (p := ⟨gb260, 0, none⟩) (Kd.R_types HO242.out BK260.out (by decide)) (fun _ hk => hk.2) (.slice Ao38 t250.length co38)) (fun _ hk => hk.2) (.slice Ao43 t253.length co43)) (fun _ hk => hk.2) (.slice Ao44 t256.length co44)) (fun _ h_ => h_.1))) hb) (Kd.R_base ho0)) (Kd.R_base ho1)) (fun _ h_ => h_.1)); have n1_ := Aside0.mk (Kd.R_mono (Kd.R_told (Kd.R_told (Kd.R_old (qR (Kd.R_mono (Kd.R_far (p := ⟨gb260, 2, none⟩) (Kd.R_far (p := ⟨gb260, 1, none⟩) (Kd.R_far (p := ⟨gb260, 0, none⟩) (Kd.R_types HO245.out BK260.out (by decide)) (fun _ hk => hk.2) (.slice Ao38 t250.length co38)) (fun _ hk => hk.2) (.slice Ao43 t253.length co43)) (fun _ hk => hk.2) (.slice Ao44 t256.length co44)) (fun _ h_ => h_.1))) hb) (Kd.R_base ho0)) (Kd.R_base ho1)) (fun _ h_ => h_.1)); have n2_ := Aside0.mk (Kd.R_elder' (qR (Kd.R_mono (Kd.R_far (p := ⟨gb260, 2, none⟩) (Kd.R_far (p := ⟨gb260, 1, none⟩) (Kd.R_far (p := ⟨gb260, 0, none⟩) (Kd.R_types HO248.out BK260.out (by decide)) (fun _ hk => hk.2) (.slice Ao38 t250.length co38)) (fun _ hk => hk.2) (.slice Ao43 t253.length co43)) (fun _ hk => hk.2) (.slice Ao44 t256.length co44)) (fun _ h_ => h_.1))) (Kd.R_base ho2) hb); have n3_ := Aside0.mk (Kd.R_mono (Kd.R_told (Kd.R_told (Kd.R_old (qR (Kd.R_mono (Kd.R_far (p := ⟨gb260, 2, none⟩) (Kd.R_far (p := ⟨gb260, 1, none⟩) (Kd.R_far (p := ⟨gb260, 0, none⟩) (Kd.R_types HO252.out BK260.out (by decide)) (fun _ hk => hk.2) (.slice Ao38 t250.length co38)) (fun _ hk => hk.2) (.slice Ao43 t253.length co43)) (fun _ hk => hk.2) (.slice Ao44 t256.length co44)) (fun _ h_ => h_.1))) hb) (Kd.R_base ho0)) (Kd.R_base ho1)) (fun _ h_ => h_.1)); have n4_ := Aside0.mk (Kd.V_mono (Kd.V_told (Kd.V_told (Kd.V_told (Kd.V_old (qV (Kd.V_mono (Kd.V_far (p := ⟨gb260, 2, none⟩) (Kd.V_far (p := ⟨gb260, 1, none⟩) (Kd.V_far (p := ⟨gb260, 0, none⟩) (Kd.V_mono HO255.out (fun k_ hk => (⟨hk, hk.2⟩ : _ ∧ k_ ≠ gb260))) (fun _ hk => hk.2) (.slice Ao38 t250.length co38)) (fun _ hk => hk.2) (.slice Ao43 t253.length co43)) (fun _ hk => hk.2) (.slice Ao44 t256.length co44)) (fun _ h_ => h_.1))) hb) (Kd.R_base ho0)) (Kd.R_base ho1)) (Kd.R_base ho2)) (fun _ h_ => h_.1)); have n5_ := Aside0.mk (Kd.R_elder' (qR (Kd.R_mono (Kd.R_far (p := ⟨gb260, 2, none⟩) (Kd.R_far (p := ⟨gb260, 1, none⟩) (Kd.R_far (p := ⟨gb260, 0, none⟩) (Kd.R_types HO258.out BK260.out (by decide)) (fun _ hk => hk.2) (.slice Ao38 t250.length co38)) (fun _ hk => hk.2) (.slice Ao43 t253.length co43)) (fun _ hk => hk.2) (.slice Ao44 t256.length co44)) (fun _ h_ => h_.1))) (Kd.R_base ho2) hb); have n6_ := Aside0.mk (Kd.R_lower (Kd.R_newB (Kd.R_new' (Kd.R_new' (Kd.R_new' ho0 (Kd.R_lt (qR (Kd.R_mono (Kd.R_far (p := ⟨gb260, 2, none⟩) (Kd.R_far (p := ⟨gb260, 1, none⟩) (Kd.R_far (p := ⟨gb260, 0, none⟩) (Kd.R_types HO242.out BK260.out (by decide)) (fun _ hk => hk.2) (.slice Ao38 t250.length co38)) (fun _ hk => hk.2) (.slice Ao43 t253.length co43)) (fun _ hk => hk.2) (.slice Ao44 t256.length co44)) (fun _ h_ => h_.1))))) (Kd.R_lt (qR (Kd.R_mono (Kd.R_far (p := ⟨gb260, 2, none⟩) (Kd.R_far (p := ⟨gb260, 1, none⟩) (Kd.R_far (p := ⟨gb260, 0, none⟩) (Kd.R_types HO245.out BK260.out (by decide)) (fun _ hk => hk.2) (.slice Ao38 t250.length co38)) (fun _ hk => hk.2) (.slice Ao43 t253.length co43)) (fun _ hk => hk.2) (.slice Ao44 t256.length co44)) (fun _ h_ => h_.1))))) (Kd.R_lt (qR (Kd.R_mono (Kd.R_far (p := ⟨gb260, 2, none⟩) (Kd.R_far (p := ⟨gb260, 1, none⟩) (Kd.R_far (p := ⟨gb260, 0, none⟩) (Kd.R_types HO252.out BK260.out (by decide)) (fun _ hk => hk.2) (.slice Ao38 t250.length co38)) (fun _ hk => hk.2) (.slice Ao43 t253.length co43)) (fun _ hk => hk.2) (.slice Ao44 t256.length co44)) (fun _ h_ => h_.1))))) (qf BK237.out)) (below_size (qW HB.out))); have n7_ := Aside0.mk (Kd.R_lower (Kd.R_newB (Kd.R_new' (Kd.R_new' (Kd.R_new' ho1 (Kd.R_lt (qR (Kd.R_mono (Kd.R_far (p := ⟨gb260, 2, none⟩) (Kd.R_far (p := ⟨gb260, 1, none⟩) (Kd.R_far (p := ⟨gb260, 0, none⟩) (Kd.R_types HO242.out BK260.out (by decide)) (fun _ hk => hk.2) (.slice Ao38 t250.length co38)) (fun _ hk => hk.2) (.slice Ao43 t253.length co43)) (fun _ hk => hk.2) (.slice Ao44 t256.length co44)) (fun _ h_ => h_.1))))) (Kd.R_lt (qR (Kd.R_mono (Kd.R_far (p := ⟨gb260, 2, none⟩) (Kd.R_far (p := ⟨gb260, 1, none⟩) (Kd.R_far (p := ⟨gb260, 0, none⟩) (Kd.R_types HO245.out BK260.out (by decide)) (fun _ hk => hk.2) (.slice Ao38 t250.length co38)) (fun _ hk => hk.2) (.slice Ao43 t253.length co43)) (fun _ hk => hk.2) (.slice Ao44 t256.length co44)) (fun _ h_ => h_.1))))) (Kd.R_lt (qR (Kd.R_mono (Kd.R_far (p := ⟨gb260, 2, none⟩) (Kd.R_far (p := ⟨gb260, 1, none⟩) (Kd.R_far (p := ⟨gb260, 0, none⟩) (Kd.R_types HO252.out BK260.out (by decide)) (fun _ hk => hk.2) (.slice Ao38 t250.length co38)) (fun _ hk => hk.2) (.slice Ao43 t253.length co43)) (fun _ hk => hk.2) (.slice Ao44 t256.length co44)) (fun _ h_ => h_.1))))) (qf BK237.out)) (below_size (qW HB.out))); have n8_ := Aside0.mk (Kd.R_lower (Kd.R_new' (Kd.R_new' ho2 (Kd.R_lt (qR (Kd.R_mono (Kd.R_far (p := ⟨gb260, 2, none⟩) (Kd.R_far (p := ⟨gb260, 1, none⟩) (Kd.R_far (p := ⟨gb260, 0, none⟩) (Kd.R_types HO248.out BK260.out (by decide)) (fun _ hk => hk.2) (.slice Ao38 t250.length co38)) (fun _ hk => hk.2) (.slice Ao43 t253.length co43)) (fun _ hk => hk.2) (.slice Ao44 t256.length co44)) (fun _ h_ => h_.1))))) (Kd.R_lt (qR (Kd.R_mono (Kd.R_far (p := ⟨gb260, 2, none⟩) (Kd.R_far (p := ⟨gb260, 1, none⟩) (Kd.R_far (p := ⟨gb260, 0, none⟩) (Kd.R_types HO258.out BK260.out (by decide)) (fun _ hk => hk.2) (.slice Ao38 t250.length co38)) (fun _ hk => hk.2) (.slice Ao43 t253.length co43)) (fun _ hk => hk.2) (.slice Ao44 t256.length co44)) (fun _ h_ => h_.1))))) (below_size (qW HB.out))); have n9_ := Aside0.mk (blk_below (qf BK236.out) hb); have n10_ := Aside0.mk (blk_below (qf BK237.out) hb); have n11_ := Aside0.mk (blk_below (qf BK249.out) hb); have n12_ := Aside0.mk (blk_below (g := gb260) (o := .cells #[.slice Ao38 t250.length co38, .slice Ao43 t253.length co43, .slice Ao44 t256.length co44] 53 (0, 0)) (by (with_reducible repeat (first | refine blk_drewN ?_ _ | refine blk_drew ?_ | refine blk_alloc ?_ _)); refine blk_put (cs := #[.slice Ao38 t250.length co38, .slice Ao43 t253.length co43, .slice none 0 0]) ?_ 2 _ rfl; (with_reducible repeat (first | refine blk_drewN ?_ _ | refine blk_drew ?_ | refine blk_alloc ?_ _)); refine blk_put (cs := #[.slice Ao38 t250.length co38, .slice none 0 0, .slice none 0 0]) ?_ 1 _ rfl; (with_reducible repeat (first | refine blk_drewN ?_ _ | refine blk_drew ?_ | refine blk_alloc ?_ _)); refine blk_put (cs := #[.slice none 0 0, .slice none 0 0, .slice none 0 0]) ?_ 0 _ rfl; (with_reducible repeat (first | refine blk_drewN ?_ _ | refine blk_drew ?_ | refine blk_alloc ?_ _)); exact BK260.out) hb); have n13_ := Aside0.mk (below_step (qW HB.out) hb); clear HO242 HO245 HO248 HO252 HO255 HO258 BK236 BK237 BK249 BK260 HB; have HO242 := n0_; have HO245 := n1_; have HO248 := n2_; have HO252 := n3_; have HO255 := n4_; have HO258 := n5_; have HO263 := n6_; have HO266 := n7_; have HO269 := n8_; have BK236 := n9_; have BK237 := n10_; have BK249 := n11_; have BK260 := n12_; have HB := n13_; clear n0_ n1_ n2_ n3_ n4_ n5_ n6_ n7_ n8_ n9_ n10_ n11_ n12_ n13_; (try clear hb); (try clear hb2); (try clear hk); (try clear hi); (try clear ho0); (try clear ho1); (try clear ho2)) | ((with_reducible refine gate_dst (N := 16) rfl ?_); (try (refine gate_guard (by rfl) ?_; dsimp only)); refine box_event ?hg (N := 16) ?hd (cs := #[.slice none 0 0, .slice none 0 0, .slice none 0 0]) (t := 53) ?hr ?_; (case hd => rfl); (case hg => rfl); (case hr => first | (go_simp; done) | (go_simp; rfl)); intro gb271 hg w47 hbox hb; have n0_ := Aside0.mk (Kd.R_below (qR HO242.out) hb); have n1_ := Aside0.mk (Kd.R_below (qR HO245.out) hb); have n2_ := Aside0.mk (Kd.R_below (qR HO248.out) hb); have n3_ := Aside0.mk (Kd.R_below (qR HO252.out) hb); have n4_ := Aside0.mk (Kd.V_below (Kd.V_elderB (qV HO255.out) gb271 (Nat.le_of_eq hg.symm)) hb); have n5_ := Aside0.mk (Kd.R_below (qR HO258.out) hb); have n6_ := Aside0.mk (Kd.R_below (qR HO263.out) hb); have n7_ := Aside0.mk (Kd.R_below (qR HO266.out) hb); have n8_ := Aside0.mk (Kd.R_below (qR HO269.out) hb); have n9_ := Aside0.mk (blk_below (qb BK236.out) hb); have n10_ := Aside0.mk (blk_below (qb BK237.out) hb); have n11_ := Aside0.mk (blk_below (qb BK249.out) hb); have n12_ := Aside0.mk (blk_below (qb BK260.out) hb); have n13_ := Aside0.mk (below_step (qW HB.out) hb); have n14_ := Aside0.mk (hbox); have n15_ := Aside0.mk ((by rw [hg]; exact (below_size (qW HB.out)) : w.heap.size ≤ gb271)); have n16_ := Aside0.mk ((by rw [hg]; exact (below_size (qW HB.out)) : w.heap.size ≤ gb271)); have n17_ := Aside0.mk ((by rw [hg]; exact Nat.ne_of_lt (blk_lt (qb BK236.out)) : gb236 ≠ gb271)); have n18_ := Aside0.mk ((by rw [hg]; exact Nat.ne_of_gt (blk_lt (qb BK236.out)) : gb271 ≠ gb236)); have n19_ := Aside0.mk ((by rw [hg]; exact Nat.ne_of_lt (blk_lt (qb BK237.out)) : gb237 ≠ gb271)); have n20_ := Aside0.mk ((by rw [hg]; exact Nat.ne_of_gt (blk_lt (qb BK237.out)) : gb271 ≠ gb237)); have n21_ := Aside0.mk ((by rw [hg]; exact Nat.ne_of_lt (blk_lt (qb BK249.out)) : gb249 ≠ gb271)); have n22_ := Aside0.mk ((by rw [hg]; exact Nat.ne_of_gt (blk_lt (qb BK249.out)) : gb271 ≠ gb249)); have n23_ := Aside0.mk ((by rw [hg]; exact Nat.ne_of_lt (blk_lt (qb BK260.out)) : gb260 ≠ gb271)); have n24_ := Aside0.mk ((by rw [hg]; exact Nat.ne_of_gt (blk_lt (qb BK260.out)) : gb271 ≠ gb260)); clear HO242 HO245 HO248 HO252 HO255 HO258 HO263 HO266 HO269 BK236 BK237 BK249 BK260 HB; have HO242 := n0_; have HO245 := n1_; have HO248 := n2_; have HO252 := n3_; have HO255 := n4_; have HO258 := n5_; have HO263 := n6_; have HO266 := n7_; have HO269 := n8_; have BK236 := n9_; have BK237 := n10_; have BK249 := n11_; have BK260 := n12_; have HB := n13_; have BK271 := n14_; have GW271 := n15_; have GE271 := n16_; have NB236_271 := n17_; have NB271_236 := n18_; have NB237_271 := n19_; have NB271_237 := n20_; have NB249_271 := n21_; have NB271_249 := n22_; have NB260_271 := n23_; have NB271_260 := n24_; clear n0_ n1_ n2_ n3_ n4_ n5_ n6_ n7_ n8_ n9_ n10_ n11_ n12_ n13_ n14_ n15_ n16_ n17_ n18_ n19_ n20_ n21_ n22_ n23_ n24_; clear hb hbox hg; obtain ⟨Ao48, co48, eo48⟩ := Kd.R_slice HO263.out; subst eo48; have hnb49 := NB271_236.out; have hnc49 := NB236_271.out; have hnb50 := NB271_237.out; have hnc50 := NB237_271.out; have hnb51 := NB271_249.out; have hnc51 := NB249_271.out; have hnb52 := NB271_260.out; have hnc52 := NB260_271.out; have hcz53_0 : w47.cell? ⟨gb271, 0, none⟩ = some (.slice none 0 0) := (blk_cell BK271.out 0).trans rfl; have hcz53_1 : w47.cell? ⟨gb271, 1, none⟩ = some (.slice none 0 0) := (blk_cell BK271.out 1).trans rfl; have hcz53_2 : w47.cell? ⟨gb271, 2, none⟩ = some (.slice none 0 0) := (blk_cell BK271.out 2).trans rfl; have hfz53_0 := blk_frozen BK271.out 0; have hfz53_1 := blk_frozen BK271.out 1; have hfz53_2 := blk_frozen BK271.out 2; obtain ⟨Ao54, co54, eo54⟩ := Kd.R_slice HO266.out; subst eo54; obtain ⟨Ao55, co55, eo55⟩ := Kd.R_slice HO269.out; subst eo55))
    (try simp only [Act.put, List.setIfInBounds_toArray, List.set_cons_zero, List.set_cons_succ])
    go_cut [57] (fun v57 wc => ∃ (kq : Nat) (x57_23 : Bool), v57 = .bool x57_23 ∧ Aside0 (garderobelaw17_ShapeMoves.j1 kq a2 a3 x57_23 l0_0 l0_1 l0_2 a5_0 a5_1 a5_2 a5_3 t240 t243 t246 = some r) ∧ Aside0 (kq ≤ kj6) ∧ Aside0 (Kd.R k56 56 wc w.heap.size (fun k_ => some k_ ≠ ((.slice Ao33 t243.length co33) : Value).ownBlock ∧ k_ ≠ gb237) (.slice Ao29 t240.length co29) t240) ∧ Aside0 (Kd.R k56 56 wc w.heap.size (fun k_ => some k_ ≠ ((.slice Ao29 t240.length co29) : Value).ownBlock ∧ k_ ≠ gb237) (.slice Ao33 t243.length co33) t243) ∧ Aside0 (Kd.R (Kd.int .i64) 3 wc w.heap.size (fun _ => True) (.slice Ao34 t246.length co34) t246) ∧ Aside0 (wc.heap[gb236]? = some (.cells #[(.slice A0_0 l0_0.length c0_0), (.slice A0_1 l0_1.length c0_1), (.slice A0_2 l0_2.length c0_2)] 53 (0, 0))) ∧ Aside0 (wc.heap[gb237]? = some (.cells #[.int .u8 a5_0, .int .u8 a5_1, .int .u16 a5_2, .int .i64 a5_3] 56 (0, 0))) ∧ Aside0 (wc.heap[gb249]? = some (.cells #[(.slice Ao29 t240.length co29), (.slice Ao33 t243.length co33), (.slice Ao34 t246.length co34)] 53 (0, 0))) ∧ Aside0 (Below w.heap.size w wc))
    case first =>
     have H := HC24.out
     clear HC24
     replace H := Option.bind_eq_some_iff.mp H
     obtain ⟨t272, A560, H⟩ := H
     replace H : (if t272 = true then (garderobelaw17_ShapeMoves.j1 kj6 a2 a3 (t259 != t270) l0_0 l0_1 l0_2 a5_0 a5_1 a5_2 a5_3 t240 t243 t246) else (garderobelaw17_ShapeMoves.j1 kj6 a2 a3 true l0_0 l0_1 l0_2 a5_0 a5_1 a5_2 a5_3 t240 t243 t246)) = some r := H
     have A56 := Aside0.mk A560
     clear A560
     by_cases c57 : t272 = true
     ·subst c57
      have H1 : (garderobelaw17_ShapeMoves.j1 kj6 a2 a3 (t259 != t270) l0_0 l0_1 l0_2 a5_0 a5_1 a5_2 a5_3 t240 t243 t246) = some r := by rw [if_pos rfl] at H; exact H
      clear H
      have H := H1
      clear H1
      have H' := Aside0.mk H
      clear H
      have hnb58 := NB260_236.out
      have hnc58 := NB236_260.out
      have hnb59 := NB260_237.out
      have hnc59 := NB237_260.out
      have hnb60 := NB260_249.out
      have hnc60 := NB249_260.out
      have hnb61 := NB260_271.out
      have hnc61 := NB271_260.out
      have hcz62_0 : w47.cell? ⟨gb260, 0, none⟩ = some (.slice Ao38 t250.length co38) := (blk_cell BK260.out 0).trans rfl
      have hcz62_1 : w47.cell? ⟨gb260, 1, none⟩ = some (.slice Ao43 t253.length co43) := (blk_cell BK260.out 1).trans rfl
      have hcz62_2 : w47.cell? ⟨gb260, 2, none⟩ = some (.slice Ao44 t256.length co44) := (blk_cell BK260.out 2).trans rfl
      have hfz62_0 := blk_frozen BK260.out 0
      have hfz62_1 := blk_frozen BK260.out 1
      have hfz62_2 := blk_frozen BK260.out 2
      have hnb63 := NB271_236.out
      have hnc63 := NB236_271.out
      have hnb64 := NB271_237.out
      have hnc64 := NB237_271.out
      have hnb65 := NB271_249.out
      have hnc65 := NB249_271.out
      have hcz66_0 : w47.cell? ⟨gb271, 0, none⟩ = some (.slice none 0 0) := (blk_cell BK271.out 0).trans rfl
      have hcz66_1 : w47.cell? ⟨gb271, 1, none⟩ = some (.slice none 0 0) := (blk_cell BK271.out 1).trans rfl
      have hcz66_2 : w47.cell? ⟨gb271, 2, none⟩ = some (.slice none 0 0) := (blk_cell BK271.out 2).trans rfl
      have hfz66_0 := blk_frozen BK271.out 0
      have hfz66_1 := blk_frozen BK271.out 1
      have hfz66_2 := blk_frozen BK271.out 2
      go_wp2_with (first | ((with_reducible refine gate_callee (f := 22) rfl ?_); refine goesL_ (some 51) rfl rfl Try.func22 (by kernel_rfl) rfl #[.agg #[.slice Ao38 t250.length co38, .slice Ao43 t253.length co43, .slice Ao44 t256.length co44], .agg #[.slice Ao48 t261.length co48, .slice Ao54 t264.length co54, .slice Ao55 t267.length co55]] rfl (by (try simp only [List.map_toArray, List.map_cons, List.map_nil]); first | done | rfl | (simp only [List.length_drop, List.length_take]; rfl)) ?_; (with_reducible refine (garderoberef17_Same.calls kj6 _ _ t250 _ _ t253 _ _ t256 _ _ t261 _ _ t264 _ _ t267 true _ ?side1 ?side2 ?side3 ?side4 ?side5 ?side6 ?side7 ?side8 ?side9 ?side10 ?side11 ?side12 A56.out).mono ?_); (case side1 => refine (Kd.R_reads' (e := 56) (base := w.heap.size) (ok := fun k_ => (((((True ∧ some k_ ≠ (.slice Ao29 t240.length co29 : Value).ownBlock) ∧ some k_ ≠ (.slice Ao33 t243.length co33 : Value).ownBlock) ∧ k_ ≠ gb237) ∧ some k_ ≠ (.slice Ao48 t261.length co48 : Value).ownBlock) ∧ some k_ ≠ (.slice Ao54 t264.length co54 : Value).ownBlock)) (n := t250.length) (c := co38) ?_).2.2; exact (qR (Kd.R_mono (Kd.R_far (p := ⟨gb271, 2, none⟩) (Kd.R_far (p := ⟨gb271, 1, none⟩) (Kd.R_far (p := ⟨gb271, 0, none⟩) (Kd.R_types HO252.out BK271.out (by decide)) (fun _ hk => hk.2) (.slice Ao48 t261.length co48)) (fun _ hk => hk.2) (.slice Ao54 t264.length co54)) (fun _ hk => hk.2) (.slice Ao55 t267.length co55)) (fun _ h_ => h_.1)))); (case side2 => exact (Kd.R_reads' HO252.out).2.1); (case side3 => refine (Kd.V_reads' (e := 56) (base := w.heap.size) (ok := fun k_ => ((((((some k_ ≠ (.slice Ao38 t250.length co38 : Value).ownBlock ∧ (some k_ ≠ (.slice Ao44 t256.length co44 : Value).ownBlock ∧ (some k_ ≠ (.slice Ao29 t240.length co29 : Value).ownBlock ∧ (some k_ ≠ (.slice Ao33 t243.length co33 : Value).ownBlock ∧ (some k_ ≠ (.slice Ao34 t246.length co34 : Value).ownBlock ∧ (k_ ≠ gb236 ∧ (k_ ≠ gb237 ∧ k_ ≠ gb249))))))) ∧ k_ ≠ gb260) ∧ some k_ ≠ (.slice Ao48 t261.length co48 : Value).ownBlock) ∧ some k_ ≠ (.slice Ao54 t264.length co54 : Value).ownBlock) ∧ some k_ ≠ (.slice Ao55 t267.length co55 : Value).ownBlock) ∧ k_ ≠ gb271)) (n := t253.length) (c := co43) ?_).2.2; exact (qV (Kd.V_mono (Kd.V_far (p := ⟨gb271, 2, none⟩) (Kd.V_far (p := ⟨gb271, 1, none⟩) (Kd.V_far (p := ⟨gb271, 0, none⟩) (Kd.V_mono HO255.out (fun k_ hk => (⟨hk, hk.2⟩ : _ ∧ k_ ≠ gb271))) (fun _ hk => hk.2) (.slice Ao48 t261.length co48)) (fun _ hk => hk.2) (.slice Ao54 t264.length co54)) (fun _ hk => hk.2) (.slice Ao55 t267.length co55)) (fun _ h_ => h_.1)))); (case side4 => exact (Kd.V_reads' HO255.out).2.1); (case side5 => refine (Kd.R_reads' (e := 3) (base := w.heap.size) (ok := fun k_ => ((True ∧ some k_ ≠ (.slice Ao34 t246.length co34 : Value).ownBlock) ∧ some k_ ≠ (.slice Ao55 t267.length co55 : Value).ownBlock)) (n := t256.length) (c := co44) ?_).2.2; exact (qR (Kd.R_mono (Kd.R_far (p := ⟨gb271, 2, none⟩) (Kd.R_far (p := ⟨gb271, 1, none⟩) (Kd.R_far (p := ⟨gb271, 0, none⟩) (Kd.R_types HO258.out BK271.out (by decide)) (fun _ hk => hk.2) (.slice Ao48 t261.length co48)) (fun _ hk => hk.2) (.slice Ao54 t264.length co54)) (fun _ hk => hk.2) (.slice Ao55 t267.length co55)) (fun _ h_ => h_.1)))); (case side6 => exact (Kd.R_reads' HO258.out).2.1); (case side7 => refine (Kd.R_reads' (e := 56) (base := w.heap.size) (ok := fun k_ => ((((some k_ ≠ (.slice Ao54 t264.length co54 : Value).ownBlock ∧ some k_ ≠ (.slice Ao29 t240.length co29 : Value).ownBlock) ∧ some k_ ≠ (.slice Ao33 t243.length co33 : Value).ownBlock) ∧ some k_ ≠ (.slice Ao38 t250.length co38 : Value).ownBlock) ∧ k_ ≠ gb237)) (n := t261.length) (c := co48) ?_).2.2; exact (qR (Kd.R_mono (Kd.R_far (p := ⟨gb271, 2, none⟩) (Kd.R_far (p := ⟨gb271, 1, none⟩) (Kd.R_far (p := ⟨gb271, 0, none⟩) (Kd.R_types HO263.out BK271.out (by decide)) (fun _ hk => hk.2) (.slice Ao48 t261.length co48)) (fun _ hk => hk.2) (.slice Ao54 t264.length co54)) (fun _ hk => hk.2) (.slice Ao55 t267.length co55)) (fun _ h_ => h_.1)))); (case side8 => exact (Kd.R_reads' HO263.out).2.1); (case side9 => refine (Kd.R_reads' (e := 56) (base := w.heap.size) (ok := fun k_ => ((((some k_ ≠ (.slice Ao48 t261.length co48 : Value).ownBlock ∧ some k_ ≠ (.slice Ao29 t240.length co29 : Value).ownBlock) ∧ some k_ ≠ (.slice Ao33 t243.length co33 : Value).ownBlock) ∧ some k_ ≠ (.slice Ao38 t250.length co38 : Value).ownBlock) ∧ k_ ≠ gb237)) (n := t264.length) (c := co54) ?_).2.2; exact (qR (Kd.R_mono (Kd.R_far (p := ⟨gb271, 2, none⟩) (Kd.R_far (p := ⟨gb271, 1, none⟩) (Kd.R_far (p := ⟨gb271, 0, none⟩) (Kd.R_types HO266.out BK271.out (by decide)) (fun _ hk => hk.2) (.slice Ao48 t261.length co48)) (fun _ hk => hk.2) (.slice Ao54 t264.length co54)) (fun _ hk => hk.2) (.slice Ao55 t267.length co55)) (fun _ h_ => h_.1)))); (case side10 => exact (Kd.R_reads' HO266.out).2.1); (case side11 => refine (Kd.R_reads' (e := 3) (base := w.heap.size) (ok := fun k_ => ((True ∧ some k_ ≠ (.slice Ao34 t246.length co34 : Value).ownBlock) ∧ some k_ ≠ (.slice Ao44 t256.length co44 : Value).ownBlock)) (n := t267.length) (c := co55) ?_).2.2; exact (qR (Kd.R_mono (Kd.R_far (p := ⟨gb271, 2, none⟩) (Kd.R_far (p := ⟨gb271, 1, none⟩) (Kd.R_far (p := ⟨gb271, 0, none⟩) (Kd.R_types HO269.out BK271.out (by decide)) (fun _ hk => hk.2) (.slice Ao48 t261.length co48)) (fun _ hk => hk.2) (.slice Ao54 t264.length co54)) (fun _ hk => hk.2) (.slice Ao55 t267.length co55)) (fun _ h_ => h_.1)))); (case side12 => exact (Kd.R_reads' HO269.out).2.1); rintro e w67 ⟨rfl, hb⟩; refine ⟨_, rfl, ?_⟩; have n0_ := Aside0.mk (Kd.R_below (qR (Kd.R_mono (Kd.R_far (p := ⟨gb271, 2, none⟩) (Kd.R_far (p := ⟨gb271, 1, none⟩) (Kd.R_far (p := ⟨gb271, 0, none⟩) (Kd.R_types HO242.out BK271.out (by decide)) (fun _ hk => hk.2) (.slice Ao48 t261.length co48)) (fun _ hk => hk.2) (.slice Ao54 t264.length co54)) (fun _ hk => hk.2) (.slice Ao55 t267.length co55)) (fun _ h_ => h_.1))) hb); have n1_ := Aside0.mk (Kd.R_below (qR (Kd.R_mono (Kd.R_far (p := ⟨gb271, 2, none⟩) (Kd.R_far (p := ⟨gb271, 1, none⟩) (Kd.R_far (p := ⟨gb271, 0, none⟩) (Kd.R_types HO245.out BK271.out (by decide)) (fun _ hk => hk.2) (.slice Ao48 t261.length co48)) (fun _ hk => hk.2) (.slice Ao54 t264.length co54)) (fun _ hk => hk.2) (.slice Ao55 t267.length co55)) (fun _ h_ => h_.1))) hb); have n2_ := Aside0.mk (Kd.R_below (qR (Kd.R_mono (Kd.R_far (p := ⟨gb271, 2, none⟩) (Kd.R_far (p := ⟨gb271, 1, none⟩) (Kd.R_far (p := ⟨gb271, 0, none⟩) (Kd.R_types HO248.out BK271.out (by decide)) (fun _ hk => hk.2) (.slice Ao48 t261.length co48)) (fun _ hk => hk.2) (.slice Ao54 t264.length co54)) (fun _ hk => hk.2) (.slice Ao55 t267.length co55)) (fun _ h_ => h_.1))) hb); have n3_ := Aside0.mk (Kd.R_below (qR (Kd.R_mono (Kd.R_far (p := ⟨gb271, 2, none⟩) (Kd.R_far (p := ⟨gb271, 1, none⟩) (Kd.R_far (p := ⟨gb271, 0, none⟩) (Kd.R_types HO252.out BK271.out (by decide)) (fun _ hk => hk.2) (.slice Ao48 t261.length co48)) (fun _ hk => hk.2) (.slice Ao54 t264.length co54)) (fun _ hk => hk.2) (.slice Ao55 t267.length co55)) (fun _ h_ => h_.1))) hb); have n4_ := Aside0.mk (Kd.V_below (qV (Kd.V_mono (Kd.V_far (p := ⟨gb271, 2, none⟩) (Kd.V_far (p := ⟨gb271, 1, none⟩) (Kd.V_far (p := ⟨gb271, 0, none⟩) (Kd.V_mono HO255.out (fun k_ hk => (⟨hk, hk.2⟩ : _ ∧ k_ ≠ gb271))) (fun _ hk => hk.2) (.slice Ao48 t261.length co48)) (fun _ hk => hk.2) (.slice Ao54 t264.length co54)) (fun _ hk => hk.2) (.slice Ao55 t267.length co55)) (fun _ h_ => h_.1))) hb); have n5_ := Aside0.mk (Kd.R_below (qR (Kd.R_mono (Kd.R_far (p := ⟨gb271, 2, none⟩) (Kd.R_far (p := ⟨gb271, 1, none⟩) (Kd.R_far (p := ⟨gb271, 0, none⟩) (Kd.R_types HO258.out BK271.out (by decide)) (fun _ hk => hk.2) (.slice Ao48 t261.length co48)) (fun _ hk => hk.2) (.slice Ao54 t264.length co54)) (fun _ hk => hk.2) (.slice Ao55 t267.length co55)) (fun _ h_ => h_.1))) hb); have n6_ := Aside0.mk (Kd.R_below (qR (Kd.R_mono (Kd.R_far (p := ⟨gb271, 2, none⟩) (Kd.R_far (p := ⟨gb271, 1, none⟩) (Kd.R_far (p := ⟨gb271, 0, none⟩) (Kd.R_types HO263.out BK271.out (by decide)) (fun _ hk => hk.2) (.slice Ao48 t261.length co48)) (fun _ hk => hk.2) (.slice Ao54 t264.length co54)) (fun _ hk => hk.2) (.slice Ao55 t267.length co55)) (fun _ h_ => h_.1))) hb); have n7_ := Aside0.mk (Kd.R_below (qR (Kd.R_mono (Kd.R_far (p := ⟨gb271, 2, none⟩) (Kd.R_far (p := ⟨gb271, 1, none⟩) (Kd.R_far (p := ⟨gb271, 0, none⟩) (Kd.R_types HO266.out BK271.out (by decide)) (fun _ hk => hk.2) (.slice Ao48 t261.length co48)) (fun _ hk => hk.2) (.slice Ao54 t264.length co54)) (fun _ hk => hk.2) (.slice Ao55 t267.length co55)) (fun _ h_ => h_.1))) hb); have n8_ := Aside0.mk (Kd.R_below (qR (Kd.R_mono (Kd.R_far (p := ⟨gb271, 2, none⟩) (Kd.R_far (p := ⟨gb271, 1, none⟩) (Kd.R_far (p := ⟨gb271, 0, none⟩) (Kd.R_types HO269.out BK271.out (by decide)) (fun _ hk => hk.2) (.slice Ao48 t261.length co48)) (fun _ hk => hk.2) (.slice Ao54 t264.length co54)) (fun _ hk => hk.2) (.slice Ao55 t267.length co55)) (fun _ h_ => h_.1))) hb); have n9_ := Aside0.mk (blk_below (qf BK236.out) hb); have n10_ := Aside0.mk (blk_below (qf BK237.out) hb); have n11_ := Aside0.mk (blk_below (qf BK249.out) hb); have n12_ := Aside0.mk (blk_below (qf BK260.out) hb); have n13_ := Aside0.mk (blk_below (g := gb271) (o := .cells #[.slice Ao48 t261.length co48, .slice Ao54 t264.length co54, .slice Ao55 t267.length co55] 53 (0, 0)) (by (with_reducible repeat (first | refine blk_drewN ?_ _ | refine blk_drew ?_ | refine blk_alloc ?_ _)); refine blk_put (cs := #[.slice Ao48 t261.length co48, .slice Ao54 t264.length co54, .slice none 0 0]) ?_ 2 _ rfl; (with_reducible repeat (first | refine blk_drewN ?_ _ | refine blk_drew ?_ | refine blk_alloc ?_ _)); refine blk_put (cs := #[.slice Ao48 t261.length co48, .slice none 0 0, .slice none 0 0]) ?_ 1 _ rfl; (with_reducible repeat (first | refine blk_drewN ?_ _ | refine blk_drew ?_ | refine blk_alloc ?_ _)); refine blk_put (cs := #[.slice none 0 0, .slice none 0 0, .slice none 0 0]) ?_ 0 _ rfl; (with_reducible repeat (first | refine blk_drewN ?_ _ | refine blk_drew ?_ | refine blk_alloc ?_ _)); exact BK271.out) hb); have n14_ := Aside0.mk (below_step (qW HB.out) hb); clear HO242 HO245 HO248 HO252 HO255 HO258 HO263 HO266 HO269 BK236 BK237 BK249 BK260 BK271 HB; have HO242 := n0_; have HO245 := n1_; have HO248 := n2_; have HO252 := n3_; have HO255 := n4_; have HO258 := n5_; have HO263 := n6_; have HO266 := n7_; have HO269 := n8_; have BK236 := n9_; have BK237 := n10_; have BK249 := n11_; have BK260 := n12_; have BK271 := n13_; have HB := n14_; clear n0_ n1_ n2_ n3_ n4_ n5_ n6_ n7_ n8_ n9_ n10_ n11_ n12_ n13_ n14_; (try clear hb); (try clear hb2); (try clear hk); (try clear hi)))
      go_meet
      case rel => exact ⟨_, ((t259 != t270)), (by first | rfl | (simp; done) | (simp [*]; done)), H', ⟨by have := HJ6.out; first | omega | exact Nat.le_refl _⟩, ⟨by (with_reducible repeat (first | apply Kd.R_alloc | apply Kd.R_drewN | apply Kd.R_drew)); exact Kd.R_mono HO242.out (fun _ hk => ⟨hk.1.1.1.1, hk.1.1.1.2⟩)⟩, ⟨by (with_reducible repeat (first | apply Kd.R_alloc | apply Kd.R_drewN | apply Kd.R_drew)); exact Kd.R_mono HO245.out (fun _ hk => ⟨hk.1.1.1.1, hk.1.1.1.2⟩)⟩, ⟨by (with_reducible repeat (first | apply Kd.R_alloc | apply Kd.R_drewN | apply Kd.R_drew)); exact Kd.R_mono HO248.out (fun _ hk => trivial)⟩, ⟨qf BK236.out⟩, ⟨qf BK237.out⟩, ⟨qf BK249.out⟩, ⟨qW HB.out⟩⟩
     ·replace c57 := Bool.eq_false_iff.mpr c57
      subst c57
      have H1 : (garderobelaw17_ShapeMoves.j1 kj6 a2 a3 true l0_0 l0_1 l0_2 a5_0 a5_1 a5_2 a5_3 t240 t243 t246) = some r := by rw [if_neg (show ¬ (false = true) by decide)] at H; exact H
      clear H
      have H := H1
      clear H1
      have H' := Aside0.mk H
      clear H
      have hnb68 := NB260_236.out
      have hnc68 := NB236_260.out
      have hnb69 := NB260_237.out
      have hnc69 := NB237_260.out
      have hnb70 := NB260_249.out
      have hnc70 := NB249_260.out
      have hnb71 := NB260_271.out
      have hnc71 := NB271_260.out
      have hcz72_0 : w47.cell? ⟨gb260, 0, none⟩ = some (.slice Ao38 t250.length co38) := (blk_cell BK260.out 0).trans rfl
      have hcz72_1 : w47.cell? ⟨gb260, 1, none⟩ = some (.slice Ao43 t253.length co43) := (blk_cell BK260.out 1).trans rfl
      have hcz72_2 : w47.cell? ⟨gb260, 2, none⟩ = some (.slice Ao44 t256.length co44) := (blk_cell BK260.out 2).trans rfl
      have hfz72_0 := blk_frozen BK260.out 0
      have hfz72_1 := blk_frozen BK260.out 1
      have hfz72_2 := blk_frozen BK260.out 2
      have hnb73 := NB271_236.out
      have hnc73 := NB236_271.out
      have hnb74 := NB271_237.out
      have hnc74 := NB237_271.out
      have hnb75 := NB271_249.out
      have hnc75 := NB249_271.out
      have hcz76_0 : w47.cell? ⟨gb271, 0, none⟩ = some (.slice none 0 0) := (blk_cell BK271.out 0).trans rfl
      have hcz76_1 : w47.cell? ⟨gb271, 1, none⟩ = some (.slice none 0 0) := (blk_cell BK271.out 1).trans rfl
      have hcz76_2 : w47.cell? ⟨gb271, 2, none⟩ = some (.slice none 0 0) := (blk_cell BK271.out 2).trans rfl
      have hfz76_0 := blk_frozen BK271.out 0
      have hfz76_1 := blk_frozen BK271.out 1
      have hfz76_2 := blk_frozen BK271.out 2
      go_wp2_with (first | ((with_reducible refine gate_callee (f := 22) rfl ?_); refine goesL_ (some 51) rfl rfl Try.func22 (by kernel_rfl) rfl #[.agg #[.slice Ao38 t250.length co38, .slice Ao43 t253.length co43, .slice Ao44 t256.length co44], .agg #[.slice Ao48 t261.length co48, .slice Ao54 t264.length co54, .slice Ao55 t267.length co55]] rfl (by (try simp only [List.map_toArray, List.map_cons, List.map_nil]); first | done | rfl | (simp only [List.length_drop, List.length_take]; rfl)) ?_; (with_reducible refine (garderoberef17_Same.calls kj6 _ _ t250 _ _ t253 _ _ t256 _ _ t261 _ _ t264 _ _ t267 false _ ?side1 ?side2 ?side3 ?side4 ?side5 ?side6 ?side7 ?side8 ?side9 ?side10 ?side11 ?side12 A56.out).mono ?_); (case side1 => refine (Kd.R_reads' (e := 56) (base := w.heap.size) (ok := fun k_ => (((((True ∧ some k_ ≠ (.slice Ao29 t240.length co29 : Value).ownBlock) ∧ some k_ ≠ (.slice Ao33 t243.length co33 : Value).ownBlock) ∧ k_ ≠ gb237) ∧ some k_ ≠ (.slice Ao48 t261.length co48 : Value).ownBlock) ∧ some k_ ≠ (.slice Ao54 t264.length co54 : Value).ownBlock)) (n := t250.length) (c := co38) ?_).2.2; exact (qR (Kd.R_mono (Kd.R_far (p := ⟨gb271, 2, none⟩) (Kd.R_far (p := ⟨gb271, 1, none⟩) (Kd.R_far (p := ⟨gb271, 0, none⟩) (Kd.R_types HO252.out BK271.out (by decide)) (fun _ hk => hk.2) (.slice Ao48 t261.length co48)) (fun _ hk => hk.2) (.slice Ao54 t264.length co54)) (fun _ hk => hk.2) (.slice Ao55 t267.length co55)) (fun _ h_ => h_.1)))); (case side2 => exact (Kd.R_reads' HO252.out).2.1); (case side3 => refine (Kd.V_reads' (e := 56) (base := w.heap.size) (ok := fun k_ => ((((((some k_ ≠ (.slice Ao38 t250.length co38 : Value).ownBlock ∧ (some k_ ≠ (.slice Ao44 t256.length co44 : Value).ownBlock ∧ (some k_ ≠ (.slice Ao29 t240.length co29 : Value).ownBlock ∧ (some k_ ≠ (.slice Ao33 t243.length co33 : Value).ownBlock ∧ (some k_ ≠ (.slice Ao34 t246.length co34 : Value).ownBlock ∧ (k_ ≠ gb236 ∧ (k_ ≠ gb237 ∧ k_ ≠ gb249))))))) ∧ k_ ≠ gb260) ∧ some k_ ≠ (.slice Ao48 t261.length co48 : Value).ownBlock) ∧ some k_ ≠ (.slice Ao54 t264.length co54 : Value).ownBlock) ∧ some k_ ≠ (.slice Ao55 t267.length co55 : Value).ownBlock) ∧ k_ ≠ gb271)) (n := t253.length) (c := co43) ?_).2.2; exact (qV (Kd.V_mono (Kd.V_far (p := ⟨gb271, 2, none⟩) (Kd.V_far (p := ⟨gb271, 1, none⟩) (Kd.V_far (p := ⟨gb271, 0, none⟩) (Kd.V_mono HO255.out (fun k_ hk => (⟨hk, hk.2⟩ : _ ∧ k_ ≠ gb271))) (fun _ hk => hk.2) (.slice Ao48 t261.length co48)) (fun _ hk => hk.2) (.slice Ao54 t264.length co54)) (fun _ hk => hk.2) (.slice Ao55 t267.length co55)) (fun _ h_ => h_.1)))); (case side4 => exact (Kd.V_reads' HO255.out).2.1); (case side5 => refine (Kd.R_reads' (e := 3) (base := w.heap.size) (ok := fun k_ => ((True ∧ some k_ ≠ (.slice Ao34 t246.length co34 : Value).ownBlock) ∧ some k_ ≠ (.slice Ao55 t267.length co55 : Value).ownBlock)) (n := t256.length) (c := co44) ?_).2.2; exact (qR (Kd.R_mono (Kd.R_far (p := ⟨gb271, 2, none⟩) (Kd.R_far (p := ⟨gb271, 1, none⟩) (Kd.R_far (p := ⟨gb271, 0, none⟩) (Kd.R_types HO258.out BK271.out (by decide)) (fun _ hk => hk.2) (.slice Ao48 t261.length co48)) (fun _ hk => hk.2) (.slice Ao54 t264.length co54)) (fun _ hk => hk.2) (.slice Ao55 t267.length co55)) (fun _ h_ => h_.1)))); (case side6 => exact (Kd.R_reads' HO258.out).2.1); (case side7 => refine (Kd.R_reads' (e := 56) (base := w.heap.size) (ok := fun k_ => ((((some k_ ≠ (.slice Ao54 t264.length co54 : Value).ownBlock ∧ some k_ ≠ (.slice Ao29 t240.length co29 : Value).ownBlock) ∧ some k_ ≠ (.slice Ao33 t243.length co33 : Value).ownBlock) ∧ some k_ ≠ (.slice Ao38 t250.length co38 : Value).ownBlock) ∧ k_ ≠ gb237)) (n := t261.length) (c := co48) ?_).2.2; exact (qR (Kd.R_mono (Kd.R_far (p := ⟨gb271, 2, none⟩) (Kd.R_far (p := ⟨gb271, 1, none⟩) (Kd.R_far (p := ⟨gb271, 0, none⟩) (Kd.R_types HO263.out BK271.out (by decide)) (fun _ hk => hk.2) (.slice Ao48 t261.length co48)) (fun _ hk => hk.2) (.slice Ao54 t264.length co54)) (fun _ hk => hk.2) (.slice Ao55 t267.length co55)) (fun _ h_ => h_.1)))); (case side8 => exact (Kd.R_reads' HO263.out).2.1); (case side9 => refine (Kd.R_reads' (e := 56) (base := w.heap.size) (ok := fun k_ => ((((some k_ ≠ (.slice Ao48 t261.length co48 : Value).ownBlock ∧ some k_ ≠ (.slice Ao29 t240.length co29 : Value).ownBlock) ∧ some k_ ≠ (.slice Ao33 t243.length co33 : Value).ownBlock) ∧ some k_ ≠ (.slice Ao38 t250.length co38 : Value).ownBlock) ∧ k_ ≠ gb237)) (n := t264.length) (c := co54) ?_).2.2; exact (qR (Kd.R_mono (Kd.R_far (p := ⟨gb271, 2, none⟩) (Kd.R_far (p := ⟨gb271, 1, none⟩) (Kd.R_far (p := ⟨gb271, 0, none⟩) (Kd.R_types HO266.out BK271.out (by decide)) (fun _ hk => hk.2) (.slice Ao48 t261.length co48)) (fun _ hk => hk.2) (.slice Ao54 t264.length co54)) (fun _ hk => hk.2) (.slice Ao55 t267.length co55)) (fun _ h_ => h_.1)))); (case side10 => exact (Kd.R_reads' HO266.out).2.1); (case side11 => refine (Kd.R_reads' (e := 3) (base := w.heap.size) (ok := fun k_ => ((True ∧ some k_ ≠ (.slice Ao34 t246.length co34 : Value).ownBlock) ∧ some k_ ≠ (.slice Ao44 t256.length co44 : Value).ownBlock)) (n := t267.length) (c := co55) ?_).2.2; exact (qR (Kd.R_mono (Kd.R_far (p := ⟨gb271, 2, none⟩) (Kd.R_far (p := ⟨gb271, 1, none⟩) (Kd.R_far (p := ⟨gb271, 0, none⟩) (Kd.R_types HO269.out BK271.out (by decide)) (fun _ hk => hk.2) (.slice Ao48 t261.length co48)) (fun _ hk => hk.2) (.slice Ao54 t264.length co54)) (fun _ hk => hk.2) (.slice Ao55 t267.length co55)) (fun _ h_ => h_.1)))); (case side12 => exact (Kd.R_reads' HO269.out).2.1); rintro e w77 ⟨rfl, hb⟩; refine ⟨_, rfl, ?_⟩; have n0_ := Aside0.mk (Kd.R_below (qR (Kd.R_mono (Kd.R_far (p := ⟨gb271, 2, none⟩) (Kd.R_far (p := ⟨gb271, 1, none⟩) (Kd.R_far (p := ⟨gb271, 0, none⟩) (Kd.R_types HO242.out BK271.out (by decide)) (fun _ hk => hk.2) (.slice Ao48 t261.length co48)) (fun _ hk => hk.2) (.slice Ao54 t264.length co54)) (fun _ hk => hk.2) (.slice Ao55 t267.length co55)) (fun _ h_ => h_.1))) hb); have n1_ := Aside0.mk (Kd.R_below (qR (Kd.R_mono (Kd.R_far (p := ⟨gb271, 2, none⟩) (Kd.R_far (p := ⟨gb271, 1, none⟩) (Kd.R_far (p := ⟨gb271, 0, none⟩) (Kd.R_types HO245.out BK271.out (by decide)) (fun _ hk => hk.2) (.slice Ao48 t261.length co48)) (fun _ hk => hk.2) (.slice Ao54 t264.length co54)) (fun _ hk => hk.2) (.slice Ao55 t267.length co55)) (fun _ h_ => h_.1))) hb); have n2_ := Aside0.mk (Kd.R_below (qR (Kd.R_mono (Kd.R_far (p := ⟨gb271, 2, none⟩) (Kd.R_far (p := ⟨gb271, 1, none⟩) (Kd.R_far (p := ⟨gb271, 0, none⟩) (Kd.R_types HO248.out BK271.out (by decide)) (fun _ hk => hk.2) (.slice Ao48 t261.length co48)) (fun _ hk => hk.2) (.slice Ao54 t264.length co54)) (fun _ hk => hk.2) (.slice Ao55 t267.length co55)) (fun _ h_ => h_.1))) hb); have n3_ := Aside0.mk (Kd.R_below (qR (Kd.R_mono (Kd.R_far (p := ⟨gb271, 2, none⟩) (Kd.R_far (p := ⟨gb271, 1, none⟩) (Kd.R_far (p := ⟨gb271, 0, none⟩) (Kd.R_types HO252.out BK271.out (by decide)) (fun _ hk => hk.2) (.slice Ao48 t261.length co48)) (fun _ hk => hk.2) (.slice Ao54 t264.length co54)) (fun _ hk => hk.2) (.slice Ao55 t267.length co55)) (fun _ h_ => h_.1))) hb); have n4_ := Aside0.mk (Kd.V_below (qV (Kd.V_mono (Kd.V_far (p := ⟨gb271, 2, none⟩) (Kd.V_far (p := ⟨gb271, 1, none⟩) (Kd.V_far (p := ⟨gb271, 0, none⟩) (Kd.V_mono HO255.out (fun k_ hk => (⟨hk, hk.2⟩ : _ ∧ k_ ≠ gb271))) (fun _ hk => hk.2) (.slice Ao48 t261.length co48)) (fun _ hk => hk.2) (.slice Ao54 t264.length co54)) (fun _ hk => hk.2) (.slice Ao55 t267.length co55)) (fun _ h_ => h_.1))) hb); have n5_ := Aside0.mk (Kd.R_below (qR (Kd.R_mono (Kd.R_far (p := ⟨gb271, 2, none⟩) (Kd.R_far (p := ⟨gb271, 1, none⟩) (Kd.R_far (p := ⟨gb271, 0, none⟩) (Kd.R_types HO258.out BK271.out (by decide)) (fun _ hk => hk.2) (.slice Ao48 t261.length co48)) (fun _ hk => hk.2) (.slice Ao54 t264.length co54)) (fun _ hk => hk.2) (.slice Ao55 t267.length co55)) (fun _ h_ => h_.1))) hb); have n6_ := Aside0.mk (Kd.R_below (qR (Kd.R_mono (Kd.R_far (p := ⟨gb271, 2, none⟩) (Kd.R_far (p := ⟨gb271, 1, none⟩) (Kd.R_far (p := ⟨gb271, 0, none⟩) (Kd.R_types HO263.out BK271.out (by decide)) (fun _ hk => hk.2) (.slice Ao48 t261.length co48)) (fun _ hk => hk.2) (.slice Ao54 t264.length co54)) (fun _ hk => hk.2) (.slice Ao55 t267.length co55)) (fun _ h_ => h_.1))) hb); have n7_ := Aside0.mk (Kd.R_below (qR (Kd.R_mono (Kd.R_far (p := ⟨gb271, 2, none⟩) (Kd.R_far (p := ⟨gb271, 1, none⟩) (Kd.R_far (p := ⟨gb271, 0, none⟩) (Kd.R_types HO266.out BK271.out (by decide)) (fun _ hk => hk.2) (.slice Ao48 t261.length co48)) (fun _ hk => hk.2) (.slice Ao54 t264.length co54)) (fun _ hk => hk.2) (.slice Ao55 t267.length co55)) (fun _ h_ => h_.1))) hb); have n8_ := Aside0.mk (Kd.R_below (qR (Kd.R_mono (Kd.R_far (p := ⟨gb271, 2, none⟩) (Kd.R_far (p := ⟨gb271, 1, none⟩) (Kd.R_far (p := ⟨gb271, 0, none⟩) (Kd.R_types HO269.out BK271.out (by decide)) (fun _ hk => hk.2) (.slice Ao48 t261.length co48)) (fun _ hk => hk.2) (.slice Ao54 t264.length co54)) (fun _ hk => hk.2) (.slice Ao55 t267.length co55)) (fun _ h_ => h_.1))) hb); have n9_ := Aside0.mk (blk_below (qf BK236.out) hb); have n10_ := Aside0.mk (blk_below (qf BK237.out) hb); have n11_ := Aside0.mk (blk_below (qf BK249.out) hb); have n12_ := Aside0.mk (blk_below (qf BK260.out) hb); have n13_ := Aside0.mk (blk_below (g := gb271) (o := .cells #[.slice Ao48 t261.length co48, .slice Ao54 t264.length co54, .slice Ao55 t267.length co55] 53 (0, 0)) (by (with_reducible repeat (first | refine blk_drewN ?_ _ | refine blk_drew ?_ | refine blk_alloc ?_ _)); refine blk_put (cs := #[.slice Ao48 t261.length co48, .slice Ao54 t264.length co54, .slice none 0 0]) ?_ 2 _ rfl; (with_reducible repeat (first | refine blk_drewN ?_ _ | refine blk_drew ?_ | refine blk_alloc ?_ _)); refine blk_put (cs := #[.slice Ao48 t261.length co48, .slice none 0 0, .slice none 0 0]) ?_ 1 _ rfl; (with_reducible repeat (first | refine blk_drewN ?_ _ | refine blk_drew ?_ | refine blk_alloc ?_ _)); refine blk_put (cs := #[.slice none 0 0, .slice none 0 0, .slice none 0 0]) ?_ 0 _ rfl; (with_reducible repeat (first | refine blk_drewN ?_ _ | refine blk_drew ?_ | refine blk_alloc ?_ _)); exact BK271.out) hb); have n14_ := Aside0.mk (below_step (qW HB.out) hb); clear HO242 HO245 HO248 HO252 HO255 HO258 HO263 HO266 HO269 BK236 BK237 BK249 BK260 BK271 HB; have HO242 := n0_; have HO245 := n1_; have HO248 := n2_; have HO252 := n3_; have HO255 := n4_; have HO258 := n5_; have HO263 := n6_; have HO266 := n7_; have HO269 := n8_; have BK236 := n9_; have BK237 := n10_; have BK249 := n11_; have BK260 := n12_; have BK271 := n13_; have HB := n14_; clear n0_ n1_ n2_ n3_ n4_ n5_ n6_ n7_ n8_ n9_ n10_ n11_ n12_ n13_ n14_; (try clear hb); (try clear hb2); (try clear hk); (try clear hi)))
      go_meet
      case rel => exact ⟨_, (true), (by first | rfl | (simp; done) | (simp [*]; done)), H', ⟨by have := HJ6.out; first | omega | exact Nat.le_refl _⟩, ⟨by (with_reducible repeat (first | apply Kd.R_alloc | apply Kd.R_drewN | apply Kd.R_drew)); exact Kd.R_mono HO242.out (fun _ hk => ⟨hk.1.1.1.1, hk.1.1.1.2⟩)⟩, ⟨by (with_reducible repeat (first | apply Kd.R_alloc | apply Kd.R_drewN | apply Kd.R_drew)); exact Kd.R_mono HO245.out (fun _ hk => ⟨hk.1.1.1.1, hk.1.1.1.2⟩)⟩, ⟨by (with_reducible repeat (first | apply Kd.R_alloc | apply Kd.R_drewN | apply Kd.R_drew)); exact Kd.R_mono HO248.out (fun _ hk => trivial)⟩, ⟨qf BK236.out⟩, ⟨qf BK237.out⟩, ⟨qf BK249.out⟩, ⟨qW HB.out⟩⟩
    case rest =>
     clear HC24
     try clear c1
     try clear c2
     try clear p2
     try clear c3
     try clear c4
     try clear c5
     try clear c6
     try clear c7
     try clear c11
     try clear c12
     try clear c15
     try clear c17
     try clear c18
     try clear c19
     try clear c20
     try clear c21
     try clear c22
     try clear c25
     try clear c30
     try clear c31
     try clear c39
     try clear c40
     try clear c41
     try clear c49
     try clear c50
     try clear c51
     try clear c52
     try clear c57
     try clear c58
     try clear c59
     try clear c60
     try clear c61
     try clear c63
     try clear c64
     try clear c65
     try clear c68
     try clear c69
     try clear c70
     try clear c71
     try clear c73
     try clear c74
     try clear c75
     try clear hcz13_0
     try clear hcz13_1
     try clear hcz13_2
     try clear hcz16_0
     try clear hcz16_1
     try clear hcz16_2
     try clear hcz26_0
     try clear hcz26_1
     try clear hcz26_2
     try clear hcz32_0
     try clear hcz32_1
     try clear hcz32_2
     try clear hcz35_0
     try clear hcz35_1
     try clear hcz35_2
     try clear hcz42_0
     try clear hcz42_1
     try clear hcz42_2
     try clear hcz45_0
     try clear hcz45_1
     try clear hcz45_2
     try clear hcz53_0
     try clear hcz53_1
     try clear hcz53_2
     try clear hcz62_0
     try clear hcz62_1
     try clear hcz62_2
     try clear hcz66_0
     try clear hcz66_1
     try clear hcz66_2
     try clear hcz72_0
     try clear hcz72_1
     try clear hcz72_2
     try clear hcz76_0
     try clear hcz76_1
     try clear hcz76_2
     try clear hfz13_0
     try clear hfz13_1
     try clear hfz13_2
     try clear hfz16_0
     try clear hfz16_1
     try clear hfz16_2
     try clear hfz26_0
     try clear hfz26_1
     try clear hfz26_2
     try clear hfz32_0
     try clear hfz32_1
     try clear hfz32_2
     try clear hfz35_0
     try clear hfz35_1
     try clear hfz35_2
     try clear hfz42_0
     try clear hfz42_1
     try clear hfz42_2
     try clear hfz45_0
     try clear hfz45_1
     try clear hfz45_2
     try clear hfz53_0
     try clear hfz53_1
     try clear hfz53_2
     try clear hfz62_0
     try clear hfz62_1
     try clear hfz62_2
     try clear hfz66_0
     try clear hfz66_1
     try clear hfz66_2
     try clear hfz72_0
     try clear hfz72_1
     try clear hfz72_2
     try clear hfz76_0
     try clear hfz76_1
     try clear hfz76_2
     try clear p2
     obtain ⟨kq, x57_23, rfl, HA, HJ23, HO_250000, HO_250001, HO_250002, BK236, BK237, BK249, HB⟩ := hcut
     cases kq with
     | zero => exact absurd HA.out (by simp [garderobelaw17_ShapeMoves.j1])
     | succ kj23 =>
      have H := HA.out
      clear HA
      simp only [garderobelaw17_ShapeMoves.j1] at H
      by_cases c78 : x57_23 = true
      ·subst c78
       have H1 : (none) = some r := by rw [if_pos rfl] at H; exact H
       clear H
       have H := H1
       clear H1
       exact absurd H (by simp)
      ·replace c78 := Bool.eq_false_iff.mpr c78
       subst c78
       have H1 : ((shape_Pop.f l0_0 l0_1 l0_2 a2).bind fun bt273 => ((garderoberef17_Pop.f l0_0 l0_1 l0_2 a2).bind fun bt287 => ((garderoberef17_Same.f kj23 bt273.1 bt273.2.1 bt273.2.2.1 bt287.1 bt287.2.1 bt287.2.2.1).bind fun t301 => (if t301 = true then ((garderoberef17_Vals.f kj23 bt273.2.2.2.1 bt287.2.2.2.1).bind fun t302 => (if t302 = true then (garderobelaw17_ShapeMoves.j2 kj23 a3 (bt273.2.2.2.2 != bt287.2.2.2.2) l0_0 l0_1 l0_2 a5_0 a5_1 a5_2 a5_3 t240 t243 t246) else (garderobelaw17_ShapeMoves.j2 kj23 a3 true l0_0 l0_1 l0_2 a5_0 a5_1 a5_2 a5_3 t240 t243 t246))) else (garderobelaw17_ShapeMoves.j2 kj23 a3 true l0_0 l0_1 l0_2 a5_0 a5_1 a5_2 a5_3 t240 t243 t246))))) = some r := by rw [if_neg (show ¬ (false = true) by decide)] at H; exact H
       clear H
       have H := H1
       clear H1
       replace H := Option.bind_eq_some_iff.mp H
       obtain ⟨⟨t273, t276, t279, t282, t285⟩, A790, H⟩ := H
       replace H : ((garderoberef17_Pop.f l0_0 l0_1 l0_2 a2).bind fun bt287 => ((garderoberef17_Same.f kj23 t273 t276 t279 bt287.1 bt287.2.1 bt287.2.2.1).bind fun t301 => (if t301 = true then ((garderoberef17_Vals.f kj23 t282 bt287.2.2.2.1).bind fun t302 => (if t302 = true then (garderobelaw17_ShapeMoves.j2 kj23 a3 (t285 != bt287.2.2.2.2) l0_0 l0_1 l0_2 a5_0 a5_1 a5_2 a5_3 t240 t243 t246) else (garderobelaw17_ShapeMoves.j2 kj23 a3 true l0_0 l0_1 l0_2 a5_0 a5_1 a5_2 a5_3 t240 t243 t246))) else (garderobelaw17_ShapeMoves.j2 kj23 a3 true l0_0 l0_1 l0_2 a5_0 a5_1 a5_2 a5_3 t240 t243 t246)))) = some r := H
       have A79 := Aside0.mk A790
       clear A790
       replace H := Option.bind_eq_some_iff.mp H
       obtain ⟨⟨t287, t290, t293, t296, t299⟩, A800, H⟩ := H
       replace H : ((garderoberef17_Same.f kj23 t273 t276 t279 t287 t290 t293).bind fun t301 => (if t301 = true then ((garderoberef17_Vals.f kj23 t282 t296).bind fun t302 => (if t302 = true then (garderobelaw17_ShapeMoves.j2 kj23 a3 (t285 != t299) l0_0 l0_1 l0_2 a5_0 a5_1 a5_2 a5_3 t240 t243 t246) else (garderobelaw17_ShapeMoves.j2 kj23 a3 true l0_0 l0_1 l0_2 a5_0 a5_1 a5_2 a5_3 t240 t243 t246))) else (garderobelaw17_ShapeMoves.j2 kj23 a3 true l0_0 l0_1 l0_2 a5_0 a5_1 a5_2 a5_3 t240 t243 t246))) = some r := H
       have A80 := Aside0.mk A800
       clear A800
       have HC81 := Aside0.mk H
       clear H
       have hnb82 := NB236_237.out
       have hnc82 := NB237_236.out
       have hnb83 := NB236_249.out
       have hnc83 := NB249_236.out
       have hcz84_0 : wc.cell? ⟨gb236, 0, none⟩ = some (.slice A0_0 l0_0.length c0_0) := (blk_cell BK236.out 0).trans rfl
       have hcz84_1 : wc.cell? ⟨gb236, 1, none⟩ = some (.slice A0_1 l0_1.length c0_1) := (blk_cell BK236.out 1).trans rfl
       have hcz84_2 : wc.cell? ⟨gb236, 2, none⟩ = some (.slice A0_2 l0_2.length c0_2) := (blk_cell BK236.out 2).trans rfl
       have hfz84_0 := blk_frozen BK236.out 0
       have hfz84_1 := blk_frozen BK236.out 1
       have hfz84_2 := blk_frozen BK236.out 2
       go_upto_region 10 with (first | ((with_reducible refine gate_callee (f := 23) rfl ?_); refine goesL_ (some 61) rfl rfl Try.func23 (by kernel_rfl) rfl #[.agg #[.slice A0_0 l0_0.length c0_0, .slice A0_1 l0_1.length c0_1, .slice A0_2 l0_2.length c0_2], .int .i64 a2] rfl (by (try simp only [List.map_toArray, List.map_cons, List.map_nil]); first | done | rfl | (simp only [List.length_drop, List.length_take]; rfl)) ?_; (with_reducible refine (shape_Pop.calls _ _ l0_0 _ _ l0_1 _ _ l0_2 a2 t273 t276 t279 t282 t285 _ ?side1 ?side2 ?side3 ?side4 ?side5 ?side6 A79.out).mono ?_); (case side1 => exact qC (Kd.C_below HR0_0.out HB.out)); (case side2 => exact HC0_0.out); (case side3 => exact qC (Kd.C_below HR0_1.out HB.out)); (case side4 => exact HC0_1.out); (case side5 => exact qC (Kd.C_below HR0_2.out HB.out)); (case side6 => exact HC0_2.out); rintro e w85 ⟨v274, v277, v280, v283, rfl, ho0, ho1, ho2, ho3, hb⟩; refine ⟨_, rfl, ?_⟩; have n0_ := Aside0.mk (Kd.R_mono (Kd.R_told (Kd.R_told (Kd.R_old (qR HO_250000.out) hb) (Kd.R_base ho0)) (Kd.R_base ho3)) (fun _ h_ => h_.1)); have n1_ := Aside0.mk (Kd.R_mono (Kd.R_told (Kd.R_told (Kd.R_old (qR HO_250001.out) hb) (Kd.R_base ho0)) (Kd.R_base ho3)) (fun _ h_ => h_.1)); have n2_ := Aside0.mk (Kd.R_elder' (qR HO_250002.out) (Kd.R_base ho2) hb); have n3_ := Aside0.mk (Kd.R_lower (Kd.R_newB (Kd.R_new' (Kd.R_new' (Kd.R_mono (ok' := fun k_ => some k_ ≠ (v283 : Value).ownBlock) ho0 (fun _ hk_ => hk_.2)) (Kd.R_lt (qR HO_250000.out))) (Kd.R_lt (qR HO_250001.out))) (qb BK237.out)) (below_size (qW HB.out))); have n4_ := Aside0.mk (Kd.V_lower (Kd.V_mono (ok' := fun k_ => some k_ ≠ (v274 : Value).ownBlock ∧ some k_ ≠ (v280 : Value).ownBlock ∧ some k_ ≠ (v283 : Value).ownBlock ∧ some k_ ≠ (.slice Ao29 t240.length co29 : Value).ownBlock ∧ some k_ ≠ (.slice Ao33 t243.length co33 : Value).ownBlock ∧ some k_ ≠ (.slice Ao34 t246.length co34 : Value).ownBlock ∧ k_ ≠ gb236 ∧ k_ ≠ gb237 ∧ k_ ≠ gb249) ho1 (fun k_ hk_ => ⟨hk_.2.1, hk_.2.2.1, hk_.2.2.2, (Kd.fresh' (Kd.R_lt (qR HO_250000.out)) k_ hk_.1), (Kd.fresh' (Kd.R_lt (qR HO_250001.out)) k_ hk_.1), (Kd.fresh' (Kd.R_lt (qR HO_250002.out)) k_ hk_.1), (Kd.freshB (qb BK236.out) k_ hk_.1), (Kd.freshB (qb BK237.out) k_ hk_.1), (Kd.freshB (qb BK249.out) k_ hk_.1)⟩)) (below_size (qW HB.out))); have n5_ := Aside0.mk (Kd.R_lower (Kd.R_new' (Kd.R_mono (ok' := fun k_ => True) ho2 (fun _ hk_ => trivial)) (Kd.R_lt (qR HO_250002.out))) (below_size (qW HB.out))); have n6_ := Aside0.mk (Kd.R_lower (Kd.R_newB (Kd.R_new' (Kd.R_new' (Kd.R_mono (ok' := fun k_ => some k_ ≠ (v274 : Value).ownBlock) ho3 (fun _ hk_ => hk_.2)) (Kd.R_lt (qR HO_250000.out))) (Kd.R_lt (qR HO_250001.out))) (qb BK237.out)) (below_size (qW HB.out))); have n7_ := Aside0.mk (blk_below (qb BK236.out) hb); have n8_ := Aside0.mk (blk_below (qb BK237.out) hb); have n9_ := Aside0.mk (blk_below (qb BK249.out) hb); have n10_ := Aside0.mk (below_step (qW HB.out) hb); clear HO_250000 HO_250001 HO_250002 BK236 BK237 BK249 HB; have HO_250000 := n0_; have HO_250001 := n1_; have HO_250002 := n2_; have HO275 := n3_; have HO278 := n4_; have HO281 := n5_; have HO284 := n6_; have BK236 := n7_; have BK237 := n8_; have BK249 := n9_; have HB := n10_; clear n0_ n1_ n2_ n3_ n4_ n5_ n6_ n7_ n8_ n9_ n10_; (try clear hb); (try clear hb2); (try clear hk); (try clear hi); (try clear ho0); (try clear ho1); (try clear ho2); (try clear ho3)) | ((with_reducible refine gate_dst (N := 18) rfl ?_); (try (refine gate_guard (by rfl) ?_; dsimp only)); refine box_event ?hg (N := 18) ?hd (cs := #[.slice none 0 0, .slice none 0 0, .slice none 0 0]) (t := 53) ?hr ?_; (case hd => rfl); (case hg => rfl); (case hr => first | (go_simp; done) | (go_simp; rfl)); intro gb286 hg w86 hbox hb; have n0_ := Aside0.mk (Kd.R_below (qR HO_250000.out) hb); have n1_ := Aside0.mk (Kd.R_below (qR HO_250001.out) hb); have n2_ := Aside0.mk (Kd.R_below (qR HO_250002.out) hb); have n3_ := Aside0.mk (Kd.R_below (qR HO275.out) hb); have n4_ := Aside0.mk (Kd.V_below (Kd.V_elderB (qV HO278.out) gb286 (Nat.le_of_eq hg.symm)) hb); have n5_ := Aside0.mk (Kd.R_below (qR HO281.out) hb); have n6_ := Aside0.mk (Kd.R_below (qR HO284.out) hb); have n7_ := Aside0.mk (blk_below (qb BK236.out) hb); have n8_ := Aside0.mk (blk_below (qb BK237.out) hb); have n9_ := Aside0.mk (blk_below (qb BK249.out) hb); have n10_ := Aside0.mk (below_step (qW HB.out) hb); have n11_ := Aside0.mk (hbox); have n12_ := Aside0.mk ((by rw [hg]; exact (below_size (qW HB.out)) : w.heap.size ≤ gb286)); have n13_ := Aside0.mk ((by rw [hg]; exact (below_size (qW HB.out)) : w.heap.size ≤ gb286)); have n14_ := Aside0.mk ((by rw [hg]; exact Nat.ne_of_lt (blk_lt (qb BK236.out)) : gb236 ≠ gb286)); have n15_ := Aside0.mk ((by rw [hg]; exact Nat.ne_of_gt (blk_lt (qb BK236.out)) : gb286 ≠ gb236)); have n16_ := Aside0.mk ((by rw [hg]; exact Nat.ne_of_lt (blk_lt (qb BK237.out)) : gb237 ≠ gb286)); have n17_ := Aside0.mk ((by rw [hg]; exact Nat.ne_of_gt (blk_lt (qb BK237.out)) : gb286 ≠ gb237)); have n18_ := Aside0.mk ((by rw [hg]; exact Nat.ne_of_lt (blk_lt (qb BK249.out)) : gb249 ≠ gb286)); have n19_ := Aside0.mk ((by rw [hg]; exact Nat.ne_of_gt (blk_lt (qb BK249.out)) : gb286 ≠ gb249)); clear HO_250000 HO_250001 HO_250002 HO275 HO278 HO281 HO284 BK236 BK237 BK249 HB; have HO_250000 := n0_; have HO_250001 := n1_; have HO_250002 := n2_; have HO275 := n3_; have HO278 := n4_; have HO281 := n5_; have HO284 := n6_; have BK236 := n7_; have BK237 := n8_; have BK249 := n9_; have HB := n10_; have BK286 := n11_; have GW286 := n12_; have GE286 := n13_; have NB236_286 := n14_; have NB286_236 := n15_; have NB237_286 := n16_; have NB286_237 := n17_; have NB249_286 := n18_; have NB286_249 := n19_; clear n0_ n1_ n2_ n3_ n4_ n5_ n6_ n7_ n8_ n9_ n10_ n11_ n12_ n13_ n14_ n15_ n16_ n17_ n18_ n19_; clear hb hbox hg; obtain ⟨Ao87, co87, eo87⟩ := Kd.R_slice HO275.out; subst eo87; have hnb88 := NB286_236.out; have hnc88 := NB236_286.out; have hnb89 := NB286_237.out; have hnc89 := NB237_286.out; have hnb90 := NB286_249.out; have hnc90 := NB249_286.out; have hcz91_0 : w86.cell? ⟨gb286, 0, none⟩ = some (.slice none 0 0) := (blk_cell BK286.out 0).trans rfl; have hcz91_1 : w86.cell? ⟨gb286, 1, none⟩ = some (.slice none 0 0) := (blk_cell BK286.out 1).trans rfl; have hcz91_2 : w86.cell? ⟨gb286, 2, none⟩ = some (.slice none 0 0) := (blk_cell BK286.out 2).trans rfl; have hfz91_0 := blk_frozen BK286.out 0; have hfz91_1 := blk_frozen BK286.out 1; have hfz91_2 := blk_frozen BK286.out 2; obtain ⟨Ao92, co92, eo92⟩ := Kd.V_slice HO278.out; subst eo92; obtain ⟨Ao93, co93, eo93⟩ := Kd.R_slice HO281.out; subst eo93; have hcz94_0 : w86.cell? ⟨gb236, 0, none⟩ = some (.slice A0_0 l0_0.length c0_0) := (blk_cell BK236.out 0).trans rfl; have hcz94_1 : w86.cell? ⟨gb236, 1, none⟩ = some (.slice A0_1 l0_1.length c0_1) := (blk_cell BK236.out 1).trans rfl; have hcz94_2 : w86.cell? ⟨gb236, 2, none⟩ = some (.slice A0_2 l0_2.length c0_2) := (blk_cell BK236.out 2).trans rfl; have hfz94_0 := blk_frozen BK236.out 0; have hfz94_1 := blk_frozen BK236.out 1; have hfz94_2 := blk_frozen BK236.out 2) | ((with_reducible refine gate_callee (f := 24) rfl ?_); refine goesL_ (some 68) rfl rfl Try.func24 (by kernel_rfl) rfl #[.agg #[.slice A0_0 l0_0.length c0_0, .slice A0_1 l0_1.length c0_1, .slice A0_2 l0_2.length c0_2], .int .i64 a2] rfl (by (try simp only [List.map_toArray, List.map_cons, List.map_nil]); first | done | rfl | (simp only [List.length_drop, List.length_take]; rfl)) ?_; (with_reducible refine (garderoberef17_Pop.calls _ _ l0_0 _ _ l0_1 _ _ l0_2 a2 t287 t290 t293 t296 t299 _ ?side1 ?side2 ?side3 ?side4 ?side5 ?side6 A80.out).mono ?_); (case side1 => exact Kd.C_below HR0_0.out (qW HB.out)); (case side2 => exact HC0_0.out); (case side3 => exact Kd.C_below HR0_1.out (qW HB.out)); (case side4 => exact HC0_1.out); (case side5 => exact Kd.C_below HR0_2.out (qW HB.out)); (case side6 => exact HC0_2.out); rintro e w95 ⟨v288, v291, v294, v297, rfl, ho0, ho1, ho2, ho3, hb⟩; refine ⟨_, rfl, ?_⟩; have n0_ := Aside0.mk (Kd.R_elder' (qR (Kd.R_mono (Kd.R_far (p := ⟨gb286, 2, none⟩) (Kd.R_far (p := ⟨gb286, 1, none⟩) (Kd.R_far (p := ⟨gb286, 0, none⟩) (Kd.R_types HO_250000.out BK286.out (by decide)) (fun _ hk => hk.2) (.slice Ao87 t273.length co87)) (fun _ hk => hk.2) (.slice Ao92 t276.length co92)) (fun _ hk => hk.2) (.slice Ao93 t279.length co93)) (fun _ h_ => h_.1))) (Kd.R_base ho0) hb); have n1_ := Aside0.mk (Kd.R_elder' (qR (Kd.R_mono (Kd.R_far (p := ⟨gb286, 2, none⟩) (Kd.R_far (p := ⟨gb286, 1, none⟩) (Kd.R_far (p := ⟨gb286, 0, none⟩) (Kd.R_types HO_250001.out BK286.out (by decide)) (fun _ hk => hk.2) (.slice Ao87 t273.length co87)) (fun _ hk => hk.2) (.slice Ao92 t276.length co92)) (fun _ hk => hk.2) (.slice Ao93 t279.length co93)) (fun _ h_ => h_.1))) (Kd.R_base ho0) hb); have n2_ := Aside0.mk (Kd.R_elder' (qR (Kd.R_mono (Kd.R_far (p := ⟨gb286, 2, none⟩) (Kd.R_far (p := ⟨gb286, 1, none⟩) (Kd.R_far (p := ⟨gb286, 0, none⟩) (Kd.R_types HO_250002.out BK286.out (by decide)) (fun _ hk => hk.2) (.slice Ao87 t273.length co87)) (fun _ hk => hk.2) (.slice Ao92 t276.length co92)) (fun _ hk => hk.2) (.slice Ao93 t279.length co93)) (fun _ h_ => h_.1))) (Kd.R_base ho2) hb); have n3_ := Aside0.mk (Kd.R_elder' (qR (Kd.R_mono (Kd.R_far (p := ⟨gb286, 2, none⟩) (Kd.R_far (p := ⟨gb286, 1, none⟩) (Kd.R_far (p := ⟨gb286, 0, none⟩) (Kd.R_types HO275.out BK286.out (by decide)) (fun _ hk => hk.2) (.slice Ao87 t273.length co87)) (fun _ hk => hk.2) (.slice Ao92 t276.length co92)) (fun _ hk => hk.2) (.slice Ao93 t279.length co93)) (fun _ h_ => h_.1))) (Kd.R_base ho0) hb); have n4_ := Aside0.mk (Kd.V_mono (Kd.V_told (Kd.V_told (Kd.V_old (qV (Kd.V_mono (Kd.V_far (p := ⟨gb286, 2, none⟩) (Kd.V_far (p := ⟨gb286, 1, none⟩) (Kd.V_far (p := ⟨gb286, 0, none⟩) (Kd.V_mono HO278.out (fun k_ hk => (⟨hk, hk.2⟩ : _ ∧ k_ ≠ gb286))) (fun _ hk => hk.2) (.slice Ao87 t273.length co87)) (fun _ hk => hk.2) (.slice Ao92 t276.length co92)) (fun _ hk => hk.2) (.slice Ao93 t279.length co93)) (fun _ h_ => h_.1))) hb) (Kd.R_base ho0)) (Kd.R_base ho2)) (fun _ h_ => h_.1)); have n5_ := Aside0.mk (Kd.R_elder' (qR (Kd.R_mono (Kd.R_far (p := ⟨gb286, 2, none⟩) (Kd.R_far (p := ⟨gb286, 1, none⟩) (Kd.R_far (p := ⟨gb286, 0, none⟩) (Kd.R_types HO281.out BK286.out (by decide)) (fun _ hk => hk.2) (.slice Ao87 t273.length co87)) (fun _ hk => hk.2) (.slice Ao92 t276.length co92)) (fun _ hk => hk.2) (.slice Ao93 t279.length co93)) (fun _ h_ => h_.1))) (Kd.R_base ho2) hb); have n6_ := Aside0.mk (Kd.R_elder' (qR (Kd.R_mono (Kd.R_far (p := ⟨gb286, 2, none⟩) (Kd.R_far (p := ⟨gb286, 1, none⟩) (Kd.R_far (p := ⟨gb286, 0, none⟩) (Kd.R_types HO284.out BK286.out (by decide)) (fun _ hk => hk.2) (.slice Ao87 t273.length co87)) (fun _ hk => hk.2) (.slice Ao92 t276.length co92)) (fun _ hk => hk.2) (.slice Ao93 t279.length co93)) (fun _ h_ => h_.1))) (Kd.R_base ho0) hb); have n7_ := Aside0.mk (Kd.R_lower (Kd.R_newB (Kd.R_new' (Kd.R_new' (Kd.R_new' (Kd.R_new' (Kd.R_mono (ok' := fun k_ => True) ho0 (fun _ hk_ => trivial)) (Kd.R_lt (qR (Kd.R_mono (Kd.R_far (p := ⟨gb286, 2, none⟩) (Kd.R_far (p := ⟨gb286, 1, none⟩) (Kd.R_far (p := ⟨gb286, 0, none⟩) (Kd.R_types HO_250000.out BK286.out (by decide)) (fun _ hk => hk.2) (.slice Ao87 t273.length co87)) (fun _ hk => hk.2) (.slice Ao92 t276.length co92)) (fun _ hk => hk.2) (.slice Ao93 t279.length co93)) (fun _ h_ => h_.1))))) (Kd.R_lt (qR (Kd.R_mono (Kd.R_far (p := ⟨gb286, 2, none⟩) (Kd.R_far (p := ⟨gb286, 1, none⟩) (Kd.R_far (p := ⟨gb286, 0, none⟩) (Kd.R_types HO_250001.out BK286.out (by decide)) (fun _ hk => hk.2) (.slice Ao87 t273.length co87)) (fun _ hk => hk.2) (.slice Ao92 t276.length co92)) (fun _ hk => hk.2) (.slice Ao93 t279.length co93)) (fun _ h_ => h_.1))))) (Kd.R_lt (qR (Kd.R_mono (Kd.R_far (p := ⟨gb286, 2, none⟩) (Kd.R_far (p := ⟨gb286, 1, none⟩) (Kd.R_far (p := ⟨gb286, 0, none⟩) (Kd.R_types HO275.out BK286.out (by decide)) (fun _ hk => hk.2) (.slice Ao87 t273.length co87)) (fun _ hk => hk.2) (.slice Ao92 t276.length co92)) (fun _ hk => hk.2) (.slice Ao93 t279.length co93)) (fun _ h_ => h_.1))))) (Kd.R_lt (qR (Kd.R_mono (Kd.R_far (p := ⟨gb286, 2, none⟩) (Kd.R_far (p := ⟨gb286, 1, none⟩) (Kd.R_far (p := ⟨gb286, 0, none⟩) (Kd.R_types HO284.out BK286.out (by decide)) (fun _ hk => hk.2) (.slice Ao87 t273.length co87)) (fun _ hk => hk.2) (.slice Ao92 t276.length co92)) (fun _ hk => hk.2) (.slice Ao93 t279.length co93)) (fun _ h_ => h_.1))))) (qf BK237.out)) (below_size (qW HB.out))); have n8_ := Aside0.mk (Kd.V_lower (Kd.V_mono (ok' := fun k_ => some k_ ≠ (v288 : Value).ownBlock ∧ some k_ ≠ (v294 : Value).ownBlock ∧ some k_ ≠ (.slice Ao29 t240.length co29 : Value).ownBlock ∧ some k_ ≠ (.slice Ao33 t243.length co33 : Value).ownBlock ∧ some k_ ≠ (.slice Ao34 t246.length co34 : Value).ownBlock ∧ some k_ ≠ (.slice Ao87 t273.length co87 : Value).ownBlock ∧ some k_ ≠ (.slice Ao93 t279.length co93 : Value).ownBlock ∧ some k_ ≠ (v283 : Value).ownBlock ∧ k_ ≠ gb236 ∧ k_ ≠ gb237 ∧ k_ ≠ gb249 ∧ k_ ≠ gb286) ho1 (fun k_ hk_ => ⟨hk_.2.1, hk_.2.2, (Kd.fresh' (Kd.R_lt (qR (Kd.R_mono (Kd.R_far (p := ⟨gb286, 2, none⟩) (Kd.R_far (p := ⟨gb286, 1, none⟩) (Kd.R_far (p := ⟨gb286, 0, none⟩) (Kd.R_types HO_250000.out BK286.out (by decide)) (fun _ hk => hk.2) (.slice Ao87 t273.length co87)) (fun _ hk => hk.2) (.slice Ao92 t276.length co92)) (fun _ hk => hk.2) (.slice Ao93 t279.length co93)) (fun _ h_ => h_.1)))) k_ hk_.1), (Kd.fresh' (Kd.R_lt (qR (Kd.R_mono (Kd.R_far (p := ⟨gb286, 2, none⟩) (Kd.R_far (p := ⟨gb286, 1, none⟩) (Kd.R_far (p := ⟨gb286, 0, none⟩) (Kd.R_types HO_250001.out BK286.out (by decide)) (fun _ hk => hk.2) (.slice Ao87 t273.length co87)) (fun _ hk => hk.2) (.slice Ao92 t276.length co92)) (fun _ hk => hk.2) (.slice Ao93 t279.length co93)) (fun _ h_ => h_.1)))) k_ hk_.1), (Kd.fresh' (Kd.R_lt (qR (Kd.R_mono (Kd.R_far (p := ⟨gb286, 2, none⟩) (Kd.R_far (p := ⟨gb286, 1, none⟩) (Kd.R_far (p := ⟨gb286, 0, none⟩) (Kd.R_types HO_250002.out BK286.out (by decide)) (fun _ hk => hk.2) (.slice Ao87 t273.length co87)) (fun _ hk => hk.2) (.slice Ao92 t276.length co92)) (fun _ hk => hk.2) (.slice Ao93 t279.length co93)) (fun _ h_ => h_.1)))) k_ hk_.1), (Kd.fresh' (Kd.R_lt (qR (Kd.R_mono (Kd.R_far (p := ⟨gb286, 2, none⟩) (Kd.R_far (p := ⟨gb286, 1, none⟩) (Kd.R_far (p := ⟨gb286, 0, none⟩) (Kd.R_types HO275.out BK286.out (by decide)) (fun _ hk => hk.2) (.slice Ao87 t273.length co87)) (fun _ hk => hk.2) (.slice Ao92 t276.length co92)) (fun _ hk => hk.2) (.slice Ao93 t279.length co93)) (fun _ h_ => h_.1)))) k_ hk_.1), (Kd.fresh' (Kd.R_lt (qR (Kd.R_mono (Kd.R_far (p := ⟨gb286, 2, none⟩) (Kd.R_far (p := ⟨gb286, 1, none⟩) (Kd.R_far (p := ⟨gb286, 0, none⟩) (Kd.R_types HO281.out BK286.out (by decide)) (fun _ hk => hk.2) (.slice Ao87 t273.length co87)) (fun _ hk => hk.2) (.slice Ao92 t276.length co92)) (fun _ hk => hk.2) (.slice Ao93 t279.length co93)) (fun _ h_ => h_.1)))) k_ hk_.1), (Kd.fresh' (Kd.R_lt (qR (Kd.R_mono (Kd.R_far (p := ⟨gb286, 2, none⟩) (Kd.R_far (p := ⟨gb286, 1, none⟩) (Kd.R_far (p := ⟨gb286, 0, none⟩) (Kd.R_types HO284.out BK286.out (by decide)) (fun _ hk => hk.2) (.slice Ao87 t273.length co87)) (fun _ hk => hk.2) (.slice Ao92 t276.length co92)) (fun _ hk => hk.2) (.slice Ao93 t279.length co93)) (fun _ h_ => h_.1)))) k_ hk_.1), (Kd.freshB (qf BK236.out) k_ hk_.1), (Kd.freshB (qf BK237.out) k_ hk_.1), (Kd.freshB (qf BK249.out) k_ hk_.1), (Kd.freshB (g := gb286) (o := .cells #[.slice Ao87 t273.length co87, .slice Ao92 t276.length co92, .slice Ao93 t279.length co93] 53 (0, 0)) (by (with_reducible repeat (first | refine blk_drewN ?_ _ | refine blk_drew ?_ | refine blk_alloc ?_ _)); refine blk_put (cs := #[.slice Ao87 t273.length co87, .slice Ao92 t276.length co92, .slice none 0 0]) ?_ 2 _ rfl; (with_reducible repeat (first | refine blk_drewN ?_ _ | refine blk_drew ?_ | refine blk_alloc ?_ _)); refine blk_put (cs := #[.slice Ao87 t273.length co87, .slice none 0 0, .slice none 0 0]) ?_ 1 _ rfl; (with_reducible repeat (first | refine blk_drewN ?_ _ | refine blk_drew ?_ | refine blk_alloc ?_ _)); refine blk_put (cs := #[.slice none 0 0, .slice none 0 0, .slice none 0 0]) ?_ 0 _ rfl; (with_reducible repeat (first | refine blk_drewN ?_ _ | refine blk_drew ?_ | refine blk_alloc ?_ _)); exact BK286.out) k_ hk_.1)⟩)) (below_size (qW HB.out))); have n9_ := Aside0.mk (Kd.R_lower (Kd.R_new' (Kd.R_new' (Kd.R_mono (ok' := fun k_ => True) ho2 (fun _ hk_ => trivial)) (Kd.R_lt (qR (Kd.R_mono (Kd.R_far (p := ⟨gb286, 2, none⟩) (Kd.R_far (p := ⟨gb286, 1, none⟩) (Kd.R_far (p := ⟨gb286, 0, none⟩) (Kd.R_types HO_250002.out BK286.out (by decide)) (fun _ hk => hk.2) (.slice Ao87 t273.length co87)) (fun _ hk => hk.2) (.slice Ao92 t276.length co92)) (fun _ hk => hk.2) (.slice Ao93 t279.length co93)) (fun _ h_ => h_.1))))) (Kd.R_lt (qR (Kd.R_mono (Kd.R_far (p := ⟨gb286, 2, none⟩) (Kd.R_far (p := ⟨gb286, 1, none⟩) (Kd.R_far (p := ⟨gb286, 0, none⟩) (Kd.R_types HO281.out BK286.out (by decide)) (fun _ hk => hk.2) (.slice Ao87 t273.length co87)) (fun _ hk => hk.2) (.slice Ao92 t276.length co92)) (fun _ hk => hk.2) (.slice Ao93 t279.length co93)) (fun _ h_ => h_.1))))) (below_size (qW HB.out))); have n10_ := Aside0.mk (Kd.V_lower (Kd.V_mono (ok' := fun k_ => some k_ ≠ (v288 : Value).ownBlock ∧ some k_ ≠ (v294 : Value).ownBlock ∧ some k_ ≠ (.slice Ao29 t240.length co29 : Value).ownBlock ∧ some k_ ≠ (.slice Ao33 t243.length co33 : Value).ownBlock ∧ some k_ ≠ (.slice Ao34 t246.length co34 : Value).ownBlock ∧ some k_ ≠ (.slice Ao87 t273.length co87 : Value).ownBlock ∧ some k_ ≠ (.slice Ao93 t279.length co93 : Value).ownBlock ∧ some k_ ≠ (v283 : Value).ownBlock ∧ k_ ≠ gb236 ∧ k_ ≠ gb237 ∧ k_ ≠ gb249 ∧ k_ ≠ gb286) ho3 (fun k_ hk_ => ⟨hk_.2.1, hk_.2.2, (Kd.fresh' (Kd.R_lt (qR (Kd.R_mono (Kd.R_far (p := ⟨gb286, 2, none⟩) (Kd.R_far (p := ⟨gb286, 1, none⟩) (Kd.R_far (p := ⟨gb286, 0, none⟩) (Kd.R_types HO_250000.out BK286.out (by decide)) (fun _ hk => hk.2) (.slice Ao87 t273.length co87)) (fun _ hk => hk.2) (.slice Ao92 t276.length co92)) (fun _ hk => hk.2) (.slice Ao93 t279.length co93)) (fun _ h_ => h_.1)))) k_ hk_.1), (Kd.fresh' (Kd.R_lt (qR (Kd.R_mono (Kd.R_far (p := ⟨gb286, 2, none⟩) (Kd.R_far (p := ⟨gb286, 1, none⟩) (Kd.R_far (p := ⟨gb286, 0, none⟩) (Kd.R_types HO_250001.out BK286.out (by decide)) (fun _ hk => hk.2) (.slice Ao87 t273.length co87)) (fun _ hk => hk.2) (.slice Ao92 t276.length co92)) (fun _ hk => hk.2) (.slice Ao93 t279.length co93)) (fun _ h_ => h_.1)))) k_ hk_.1), (Kd.fresh' (Kd.R_lt (qR (Kd.R_mono (Kd.R_far (p := ⟨gb286, 2, none⟩) (Kd.R_far (p := ⟨gb286, 1, none⟩) (Kd.R_far (p := ⟨gb286, 0, none⟩) (Kd.R_types HO_250002.out BK286.out (by decide)) (fun _ hk => hk.2) (.slice Ao87 t273.length co87)) (fun _ hk => hk.2) (.slice Ao92 t276.length co92)) (fun _ hk => hk.2) (.slice Ao93 t279.length co93)) (fun _ h_ => h_.1)))) k_ hk_.1), (Kd.fresh' (Kd.R_lt (qR (Kd.R_mono (Kd.R_far (p := ⟨gb286, 2, none⟩) (Kd.R_far (p := ⟨gb286, 1, none⟩) (Kd.R_far (p := ⟨gb286, 0, none⟩) (Kd.R_types HO275.out BK286.out (by decide)) (fun _ hk => hk.2) (.slice Ao87 t273.length co87)) (fun _ hk => hk.2) (.slice Ao92 t276.length co92)) (fun _ hk => hk.2) (.slice Ao93 t279.length co93)) (fun _ h_ => h_.1)))) k_ hk_.1), (Kd.fresh' (Kd.R_lt (qR (Kd.R_mono (Kd.R_far (p := ⟨gb286, 2, none⟩) (Kd.R_far (p := ⟨gb286, 1, none⟩) (Kd.R_far (p := ⟨gb286, 0, none⟩) (Kd.R_types HO281.out BK286.out (by decide)) (fun _ hk => hk.2) (.slice Ao87 t273.length co87)) (fun _ hk => hk.2) (.slice Ao92 t276.length co92)) (fun _ hk => hk.2) (.slice Ao93 t279.length co93)) (fun _ h_ => h_.1)))) k_ hk_.1), (Kd.fresh' (Kd.R_lt (qR (Kd.R_mono (Kd.R_far (p := ⟨gb286, 2, none⟩) (Kd.R_far (p := ⟨gb286, 1, none⟩) (Kd.R_far (p := ⟨gb286, 0, none⟩) (Kd.R_types HO284.out BK286.out (by decide)) (fun _ hk => hk.2) (.slice Ao87 t273.length co87)) (fun _ hk => hk.2) (.slice Ao92 t276.length co92)) (fun _ hk => hk.2) (.slice Ao93 t279.length co93)) (fun _ h_ => h_.1)))) k_ hk_.1), (Kd.freshB (qf BK236.out) k_ hk_.1), (Kd.freshB (qf BK237.out) k_ hk_.1), (Kd.freshB (qf BK249.out) k_ hk_.1), (Kd.freshB (g := gb286) (o := .cells #[.slice Ao87 t273.length co87, .slice Ao92 t276.length co92, .slice Ao93 t279.length co93] 53 (0, 0)) (by (with_reducible repeat (first | refine blk_drewN ?_ _ | refine blk_drew ?_ | refine blk_alloc ?_ _)); refine blk_put (cs := #[.slice Ao87 t273.length co87, .slice Ao92 t276.length co92, .slice none 0 0]) ?_ 2 _ rfl; (with_reducible repeat (first | refine blk_drewN ?_ _ | refine blk_drew ?_ | refine blk_alloc ?_ _)); refine blk_put (cs := #[.slice Ao87 t273.length co87, .slice none 0 0, .slice none 0 0]) ?_ 1 _ rfl; (with_reducible repeat (first | refine blk_drewN ?_ _ | refine blk_drew ?_ | refine blk_alloc ?_ _)); refine blk_put (cs := #[.slice none 0 0, .slice none 0 0, .slice none 0 0]) ?_ 0 _ rfl; (with_reducible repeat (first | refine blk_drewN ?_ _ | refine blk_drew ?_ | refine blk_alloc ?_ _)); exact BK286.out) k_ hk_.1)⟩)) (below_size (qW HB.out))); have n11_ := Aside0.mk (blk_below (qf BK236.out) hb); have n12_ := Aside0.mk (blk_below (qf BK237.out) hb); have n13_ := Aside0.mk (blk_below (qf BK249.out) hb); have n14_ := Aside0.mk (blk_below (g := gb286) (o := .cells #[.slice Ao87 t273.length co87, .slice Ao92 t276.length co92, .slice Ao93 t279.length co93] 53 (0, 0)) (by (with_reducible repeat (first | refine blk_drewN ?_ _ | refine blk_drew ?_ | refine blk_alloc ?_ _)); refine blk_put (cs := #[.slice Ao87 t273.length co87, .slice Ao92 t276.length co92, .slice none 0 0]) ?_ 2 _ rfl; (with_reducible repeat (first | refine blk_drewN ?_ _ | refine blk_drew ?_ | refine blk_alloc ?_ _)); refine blk_put (cs := #[.slice Ao87 t273.length co87, .slice none 0 0, .slice none 0 0]) ?_ 1 _ rfl; (with_reducible repeat (first | refine blk_drewN ?_ _ | refine blk_drew ?_ | refine blk_alloc ?_ _)); refine blk_put (cs := #[.slice none 0 0, .slice none 0 0, .slice none 0 0]) ?_ 0 _ rfl; (with_reducible repeat (first | refine blk_drewN ?_ _ | refine blk_drew ?_ | refine blk_alloc ?_ _)); exact BK286.out) hb); have n15_ := Aside0.mk (below_step (qW HB.out) hb); clear HO_250000 HO_250001 HO_250002 HO275 HO278 HO281 HO284 BK236 BK237 BK249 BK286 HB; have HO_250000 := n0_; have HO_250001 := n1_; have HO_250002 := n2_; have HO275 := n3_; have HO278 := n4_; have HO281 := n5_; have HO284 := n6_; have HO289 := n7_; have HO292 := n8_; have HO295 := n9_; have HO298 := n10_; have BK236 := n11_; have BK237 := n12_; have BK249 := n13_; have BK286 := n14_; have HB := n15_; clear n0_ n1_ n2_ n3_ n4_ n5_ n6_ n7_ n8_ n9_ n10_ n11_ n12_ n13_ n14_ n15_; (try clear hb); (try clear hb2); (try clear hk); (try clear hi); (try clear ho0); (try clear ho1); (try clear ho2); (try clear ho3)) | ((with_reducible refine gate_dst (N := 20) rfl ?_); (try (refine gate_guard (by rfl) ?_; dsimp only)); refine box_event ?hg (N := 20) ?hd (cs := #[.slice none 0 0, .slice none 0 0, .slice none 0 0]) (t := 53) ?hr ?_; (case hd => rfl); (case hg => rfl); (case hr => first | (go_simp; done) | (go_simp; rfl)); intro gb300 hg w96 hbox hb; have n0_ := Aside0.mk (Kd.R_below (qR HO_250000.out) hb); have n1_ := Aside0.mk (Kd.R_below (qR HO_250001.out) hb); have n2_ := Aside0.mk (Kd.R_below (qR HO_250002.out) hb); have n3_ := Aside0.mk (Kd.R_below (qR HO275.out) hb); have n4_ := Aside0.mk (Kd.V_below (Kd.V_elderB (qV HO278.out) gb300 (Nat.le_of_eq hg.symm)) hb); have n5_ := Aside0.mk (Kd.R_below (qR HO281.out) hb); have n6_ := Aside0.mk (Kd.R_below (qR HO284.out) hb); have n7_ := Aside0.mk (Kd.R_below (qR HO289.out) hb); have n8_ := Aside0.mk (Kd.V_below (Kd.V_elderB (qV HO292.out) gb300 (Nat.le_of_eq hg.symm)) hb); have n9_ := Aside0.mk (Kd.R_below (qR HO295.out) hb); have n10_ := Aside0.mk (Kd.V_below (Kd.V_elderB (qV HO298.out) gb300 (Nat.le_of_eq hg.symm)) hb); have n11_ := Aside0.mk (blk_below (qb BK236.out) hb); have n12_ := Aside0.mk (blk_below (qb BK237.out) hb); have n13_ := Aside0.mk (blk_below (qb BK249.out) hb); have n14_ := Aside0.mk (blk_below (qb BK286.out) hb); have n15_ := Aside0.mk (below_step (qW HB.out) hb); have n16_ := Aside0.mk (hbox); have n17_ := Aside0.mk ((by rw [hg]; exact (below_size (qW HB.out)) : w.heap.size ≤ gb300)); have n18_ := Aside0.mk ((by rw [hg]; exact (below_size (qW HB.out)) : w.heap.size ≤ gb300)); have n19_ := Aside0.mk ((by rw [hg]; exact Nat.ne_of_lt (blk_lt (qb BK236.out)) : gb236 ≠ gb300)); have n20_ := Aside0.mk ((by rw [hg]; exact Nat.ne_of_gt (blk_lt (qb BK236.out)) : gb300 ≠ gb236)); have n21_ := Aside0.mk ((by rw [hg]; exact Nat.ne_of_lt (blk_lt (qb BK237.out)) : gb237 ≠ gb300)); have n22_ := Aside0.mk ((by rw [hg]; exact Nat.ne_of_gt (blk_lt (qb BK237.out)) : gb300 ≠ gb237)); have n23_ := Aside0.mk ((by rw [hg]; exact Nat.ne_of_lt (blk_lt (qb BK249.out)) : gb249 ≠ gb300)); have n24_ := Aside0.mk ((by rw [hg]; exact Nat.ne_of_gt (blk_lt (qb BK249.out)) : gb300 ≠ gb249)); have n25_ := Aside0.mk ((by rw [hg]; exact Nat.ne_of_lt (blk_lt (qb BK286.out)) : gb286 ≠ gb300)); have n26_ := Aside0.mk ((by rw [hg]; exact Nat.ne_of_gt (blk_lt (qb BK286.out)) : gb300 ≠ gb286)); clear HO_250000 HO_250001 HO_250002 HO275 HO278 HO281 HO284 HO289 HO292 HO295 HO298 BK236 BK237 BK249 BK286 HB; have HO_250000 := n0_; have HO_250001 := n1_; have HO_250002 := n2_; have HO275 := n3_; have HO278 := n4_; have HO281 := n5_; have HO284 := n6_; have HO289 := n7_; have HO292 := n8_; have HO295 := n9_; have HO298 := n10_; have BK236 := n11_; have BK237 := n12_; have BK249 := n13_; have BK286 := n14_; have HB := n15_; have BK300 := n16_; have GW300 := n17_; have GE300 := n18_; have NB236_300 := n19_; have NB300_236 := n20_; have NB237_300 := n21_; have NB300_237 := n22_; have NB249_300 := n23_; have NB300_249 := n24_; have NB286_300 := n25_; have NB300_286 := n26_; clear n0_ n1_ n2_ n3_ n4_ n5_ n6_ n7_ n8_ n9_ n10_ n11_ n12_ n13_ n14_ n15_ n16_ n17_ n18_ n19_ n20_ n21_ n22_ n23_ n24_ n25_ n26_; clear hb hbox hg; obtain ⟨Ao97, co97, eo97⟩ := Kd.R_slice HO289.out; subst eo97; have hnb98 := NB300_236.out; have hnc98 := NB236_300.out; have hnb99 := NB300_237.out; have hnc99 := NB237_300.out; have hnb100 := NB300_249.out; have hnc100 := NB249_300.out; have hnb101 := NB300_286.out; have hnc101 := NB286_300.out; have hcz102_0 : w96.cell? ⟨gb300, 0, none⟩ = some (.slice none 0 0) := (blk_cell BK300.out 0).trans rfl; have hcz102_1 : w96.cell? ⟨gb300, 1, none⟩ = some (.slice none 0 0) := (blk_cell BK300.out 1).trans rfl; have hcz102_2 : w96.cell? ⟨gb300, 2, none⟩ = some (.slice none 0 0) := (blk_cell BK300.out 2).trans rfl; have hfz102_0 := blk_frozen BK300.out 0; have hfz102_1 := blk_frozen BK300.out 1; have hfz102_2 := blk_frozen BK300.out 2; obtain ⟨Ao103, co103, eo103⟩ := Kd.V_slice HO292.out; subst eo103; obtain ⟨Ao104, co104, eo104⟩ := Kd.R_slice HO295.out; subst eo104))
       (try simp only [Act.put, List.setIfInBounds_toArray, List.set_cons_zero, List.set_cons_succ])
       go_cut [86] (fun v86 wc => ∃ (kq : Nat) (x86_80 : Bool), v86 = .bool x86_80 ∧ Aside0 (garderobelaw17_ShapeMoves.j2 kq a3 x86_80 l0_0 l0_1 l0_2 a5_0 a5_1 a5_2 a5_3 t240 t243 t246 = some r) ∧ Aside0 (kq ≤ kj23) ∧ Aside0 (Kd.R k56 56 wc w.heap.size (fun k_ => some k_ ≠ ((.slice Ao33 t243.length co33) : Value).ownBlock ∧ k_ ≠ gb237) (.slice Ao29 t240.length co29) t240) ∧ Aside0 (Kd.R k56 56 wc w.heap.size (fun k_ => some k_ ≠ ((.slice Ao29 t240.length co29) : Value).ownBlock ∧ k_ ≠ gb237) (.slice Ao33 t243.length co33) t243) ∧ Aside0 (Kd.R (Kd.int .i64) 3 wc w.heap.size (fun _ => True) (.slice Ao34 t246.length co34) t246) ∧ Aside0 (wc.heap[gb236]? = some (.cells #[(.slice A0_0 l0_0.length c0_0), (.slice A0_1 l0_1.length c0_1), (.slice A0_2 l0_2.length c0_2)] 53 (0, 0))) ∧ Aside0 (wc.heap[gb237]? = some (.cells #[.int .u8 a5_0, .int .u8 a5_1, .int .u16 a5_2, .int .i64 a5_3] 56 (0, 0))) ∧ Aside0 (wc.heap[gb249]? = some (.cells #[(.slice Ao29 t240.length co29), (.slice Ao33 t243.length co33), (.slice Ao34 t246.length co34)] 53 (0, 0))) ∧ Aside0 (Below w.heap.size w wc))
       case first =>
        have H := HC81.out
        clear HC81
        replace H := Option.bind_eq_some_iff.mp H
        obtain ⟨t301, A1050, H⟩ := H
        replace H : (if t301 = true then ((garderoberef17_Vals.f kj23 t282 t296).bind fun t302 => (if t302 = true then (garderobelaw17_ShapeMoves.j2 kj23 a3 (t285 != t299) l0_0 l0_1 l0_2 a5_0 a5_1 a5_2 a5_3 t240 t243 t246) else (garderobelaw17_ShapeMoves.j2 kj23 a3 true l0_0 l0_1 l0_2 a5_0 a5_1 a5_2 a5_3 t240 t243 t246))) else (garderobelaw17_ShapeMoves.j2 kj23 a3 true l0_0 l0_1 l0_2 a5_0 a5_1 a5_2 a5_3 t240 t243 t246)) = some r := H
        have A105 := Aside0.mk A1050
        clear A1050
        by_cases c106 : t301 = true
        ·subst c106
         have H1 : ((garderoberef17_Vals.f kj23 t282 t296).bind fun t302 => (if t302 = true then (garderobelaw17_ShapeMoves.j2 kj23 a3 (t285 != t299) l0_0 l0_1 l0_2 a5_0 a5_1 a5_2 a5_3 t240 t243 t246) else (garderobelaw17_ShapeMoves.j2 kj23 a3 true l0_0 l0_1 l0_2 a5_0 a5_1 a5_2 a5_3 t240 t243 t246))) = some r := by rw [if_pos rfl] at H; exact H
         clear H
         have H := H1
         clear H1
         replace H := Option.bind_eq_some_iff.mp H
         obtain ⟨t302, A1070, H⟩ := H
         replace H : (if t302 = true then (garderobelaw17_ShapeMoves.j2 kj23 a3 (t285 != t299) l0_0 l0_1 l0_2 a5_0 a5_1 a5_2 a5_3 t240 t243 t246) else (garderobelaw17_ShapeMoves.j2 kj23 a3 true l0_0 l0_1 l0_2 a5_0 a5_1 a5_2 a5_3 t240 t243 t246)) = some r := H
         have A107 := Aside0.mk A1070
         clear A1070
         by_cases c108 : t302 = true
         ·subst c108
          have H1 : (garderobelaw17_ShapeMoves.j2 kj23 a3 (t285 != t299) l0_0 l0_1 l0_2 a5_0 a5_1 a5_2 a5_3 t240 t243 t246) = some r := by rw [if_pos rfl] at H; exact H
          clear H
          have H := H1
          clear H1
          have H' := Aside0.mk H
          clear H
          have hnb109 := NB286_236.out
          have hnc109 := NB236_286.out
          have hnb110 := NB286_237.out
          have hnc110 := NB237_286.out
          have hnb111 := NB286_249.out
          have hnc111 := NB249_286.out
          have hnb112 := NB286_300.out
          have hnc112 := NB300_286.out
          have hcz113_0 : w96.cell? ⟨gb286, 0, none⟩ = some (.slice Ao87 t273.length co87) := (blk_cell BK286.out 0).trans rfl
          have hcz113_1 : w96.cell? ⟨gb286, 1, none⟩ = some (.slice Ao92 t276.length co92) := (blk_cell BK286.out 1).trans rfl
          have hcz113_2 : w96.cell? ⟨gb286, 2, none⟩ = some (.slice Ao93 t279.length co93) := (blk_cell BK286.out 2).trans rfl
          have hfz113_0 := blk_frozen BK286.out 0
          have hfz113_1 := blk_frozen BK286.out 1
          have hfz113_2 := blk_frozen BK286.out 2
          have hnb114 := NB300_236.out
          have hnc114 := NB236_300.out
          have hnb115 := NB300_237.out
          have hnc115 := NB237_300.out
          have hnb116 := NB300_249.out
          have hnc116 := NB249_300.out
          have hcz117_0 : w96.cell? ⟨gb300, 0, none⟩ = some (.slice none 0 0) := (blk_cell BK300.out 0).trans rfl
          have hcz117_1 : w96.cell? ⟨gb300, 1, none⟩ = some (.slice none 0 0) := (blk_cell BK300.out 1).trans rfl
          have hcz117_2 : w96.cell? ⟨gb300, 2, none⟩ = some (.slice none 0 0) := (blk_cell BK300.out 2).trans rfl
          have hfz117_0 := blk_frozen BK300.out 0
          have hfz117_1 := blk_frozen BK300.out 1
          have hfz117_2 := blk_frozen BK300.out 2
          go_wp2_with (first | ((with_reducible refine gate_callee (f := 22) rfl ?_); refine goesL_ (some 74) rfl rfl Try.func22 (by kernel_rfl) rfl #[.agg #[.slice Ao87 t273.length co87, .slice Ao92 t276.length co92, .slice Ao93 t279.length co93], .agg #[.slice Ao97 t287.length co97, .slice Ao103 t290.length co103, .slice Ao104 t293.length co104]] rfl (by (try simp only [List.map_toArray, List.map_cons, List.map_nil]); first | done | rfl | (simp only [List.length_drop, List.length_take]; rfl)) ?_; (with_reducible refine (garderoberef17_Same.calls kj23 _ _ t273 _ _ t276 _ _ t279 _ _ t287 _ _ t290 _ _ t293 true _ ?side1 ?side2 ?side3 ?side4 ?side5 ?side6 ?side7 ?side8 ?side9 ?side10 ?side11 ?side12 A105.out).mono ?_); (case side1 => refine (Kd.R_reads' (e := 56) (base := w.heap.size) (ok := fun k_ => ((((some k_ ≠ (v283 : Value).ownBlock ∧ some k_ ≠ (.slice Ao29 t240.length co29 : Value).ownBlock) ∧ some k_ ≠ (.slice Ao33 t243.length co33 : Value).ownBlock) ∧ k_ ≠ gb237) ∧ some k_ ≠ (.slice Ao97 t287.length co97 : Value).ownBlock)) (n := t273.length) (c := co87) ?_).2.2; exact (qR (Kd.R_mono (Kd.R_far (p := ⟨gb300, 2, none⟩) (Kd.R_far (p := ⟨gb300, 1, none⟩) (Kd.R_far (p := ⟨gb300, 0, none⟩) (Kd.R_types HO275.out BK300.out (by decide)) (fun _ hk => hk.2) (.slice Ao97 t287.length co97)) (fun _ hk => hk.2) (.slice Ao103 t290.length co103)) (fun _ hk => hk.2) (.slice Ao104 t293.length co104)) (fun _ h_ => h_.1)))); (case side2 => exact (Kd.R_reads' HO275.out).2.1); (case side3 => refine (Kd.V_reads' (e := 56) (base := w.heap.size) (ok := fun k_ => (((((some k_ ≠ (.slice Ao87 t273.length co87 : Value).ownBlock ∧ (some k_ ≠ (.slice Ao93 t279.length co93 : Value).ownBlock ∧ (some k_ ≠ (v283 : Value).ownBlock ∧ (some k_ ≠ (.slice Ao29 t240.length co29 : Value).ownBlock ∧ (some k_ ≠ (.slice Ao33 t243.length co33 : Value).ownBlock ∧ (some k_ ≠ (.slice Ao34 t246.length co34 : Value).ownBlock ∧ (k_ ≠ gb236 ∧ (k_ ≠ gb237 ∧ k_ ≠ gb249)))))))) ∧ k_ ≠ gb286) ∧ some k_ ≠ (.slice Ao97 t287.length co97 : Value).ownBlock) ∧ some k_ ≠ (.slice Ao104 t293.length co104 : Value).ownBlock) ∧ k_ ≠ gb300)) (n := t276.length) (c := co92) ?_).2.2; exact (qV (Kd.V_mono (Kd.V_far (p := ⟨gb300, 2, none⟩) (Kd.V_far (p := ⟨gb300, 1, none⟩) (Kd.V_far (p := ⟨gb300, 0, none⟩) (Kd.V_mono HO278.out (fun k_ hk => (⟨hk, hk.2⟩ : _ ∧ k_ ≠ gb300))) (fun _ hk => hk.2) (.slice Ao97 t287.length co97)) (fun _ hk => hk.2) (.slice Ao103 t290.length co103)) (fun _ hk => hk.2) (.slice Ao104 t293.length co104)) (fun _ h_ => h_.1)))); (case side4 => exact (Kd.V_reads' HO278.out).2.1); (case side5 => refine (Kd.R_reads' (e := 3) (base := w.heap.size) (ok := fun k_ => ((True ∧ some k_ ≠ (.slice Ao34 t246.length co34 : Value).ownBlock) ∧ some k_ ≠ (.slice Ao104 t293.length co104 : Value).ownBlock)) (n := t279.length) (c := co93) ?_).2.2; exact (qR (Kd.R_mono (Kd.R_far (p := ⟨gb300, 2, none⟩) (Kd.R_far (p := ⟨gb300, 1, none⟩) (Kd.R_far (p := ⟨gb300, 0, none⟩) (Kd.R_types HO281.out BK300.out (by decide)) (fun _ hk => hk.2) (.slice Ao97 t287.length co97)) (fun _ hk => hk.2) (.slice Ao103 t290.length co103)) (fun _ hk => hk.2) (.slice Ao104 t293.length co104)) (fun _ h_ => h_.1)))); (case side6 => exact (Kd.R_reads' HO281.out).2.1); (case side7 => refine (Kd.R_reads' (e := 56) (base := w.heap.size) (ok := fun k_ => (((((True ∧ some k_ ≠ (.slice Ao29 t240.length co29 : Value).ownBlock) ∧ some k_ ≠ (.slice Ao33 t243.length co33 : Value).ownBlock) ∧ some k_ ≠ (.slice Ao87 t273.length co87 : Value).ownBlock) ∧ some k_ ≠ (v283 : Value).ownBlock) ∧ k_ ≠ gb237)) (n := t287.length) (c := co97) ?_).2.2; exact (qR (Kd.R_mono (Kd.R_far (p := ⟨gb300, 2, none⟩) (Kd.R_far (p := ⟨gb300, 1, none⟩) (Kd.R_far (p := ⟨gb300, 0, none⟩) (Kd.R_types HO289.out BK300.out (by decide)) (fun _ hk => hk.2) (.slice Ao97 t287.length co97)) (fun _ hk => hk.2) (.slice Ao103 t290.length co103)) (fun _ hk => hk.2) (.slice Ao104 t293.length co104)) (fun _ h_ => h_.1)))); (case side8 => exact (Kd.R_reads' HO289.out).2.1); (case side9 => refine (Kd.V_reads' (e := 56) (base := w.heap.size) (ok := fun k_ => ((some k_ ≠ (.slice Ao97 t287.length co97 : Value).ownBlock ∧ (some k_ ≠ (.slice Ao104 t293.length co104 : Value).ownBlock ∧ (some k_ ≠ (.slice Ao29 t240.length co29 : Value).ownBlock ∧ (some k_ ≠ (.slice Ao33 t243.length co33 : Value).ownBlock ∧ (some k_ ≠ (.slice Ao34 t246.length co34 : Value).ownBlock ∧ (some k_ ≠ (.slice Ao87 t273.length co87 : Value).ownBlock ∧ (some k_ ≠ (.slice Ao93 t279.length co93 : Value).ownBlock ∧ (some k_ ≠ (v283 : Value).ownBlock ∧ (k_ ≠ gb236 ∧ (k_ ≠ gb237 ∧ (k_ ≠ gb249 ∧ k_ ≠ gb286))))))))))) ∧ k_ ≠ gb300)) (n := t290.length) (c := co103) ?_).2.2; exact (qV (Kd.V_mono (Kd.V_far (p := ⟨gb300, 2, none⟩) (Kd.V_far (p := ⟨gb300, 1, none⟩) (Kd.V_far (p := ⟨gb300, 0, none⟩) (Kd.V_mono HO292.out (fun k_ hk => (⟨hk, hk.2⟩ : _ ∧ k_ ≠ gb300))) (fun _ hk => hk.2) (.slice Ao97 t287.length co97)) (fun _ hk => hk.2) (.slice Ao103 t290.length co103)) (fun _ hk => hk.2) (.slice Ao104 t293.length co104)) (fun _ h_ => h_.1)))); (case side10 => exact (Kd.V_reads' HO292.out).2.1); (case side11 => refine (Kd.R_reads' (e := 3) (base := w.heap.size) (ok := fun k_ => ((True ∧ some k_ ≠ (.slice Ao34 t246.length co34 : Value).ownBlock) ∧ some k_ ≠ (.slice Ao93 t279.length co93 : Value).ownBlock)) (n := t293.length) (c := co104) ?_).2.2; exact (qR (Kd.R_mono (Kd.R_far (p := ⟨gb300, 2, none⟩) (Kd.R_far (p := ⟨gb300, 1, none⟩) (Kd.R_far (p := ⟨gb300, 0, none⟩) (Kd.R_types HO295.out BK300.out (by decide)) (fun _ hk => hk.2) (.slice Ao97 t287.length co97)) (fun _ hk => hk.2) (.slice Ao103 t290.length co103)) (fun _ hk => hk.2) (.slice Ao104 t293.length co104)) (fun _ h_ => h_.1)))); (case side12 => exact (Kd.R_reads' HO295.out).2.1); rintro e w118 ⟨rfl, hb⟩; refine ⟨_, rfl, ?_⟩; have n0_ := Aside0.mk (Kd.R_below (qR (Kd.R_mono (Kd.R_far (p := ⟨gb300, 2, none⟩) (Kd.R_far (p := ⟨gb300, 1, none⟩) (Kd.R_far (p := ⟨gb300, 0, none⟩) (Kd.R_types HO_250000.out BK300.out (by decide)) (fun _ hk => hk.2) (.slice Ao97 t287.length co97)) (fun _ hk => hk.2) (.slice Ao103 t290.length co103)) (fun _ hk => hk.2) (.slice Ao104 t293.length co104)) (fun _ h_ => h_.1))) hb); have n1_ := Aside0.mk (Kd.R_below (qR (Kd.R_mono (Kd.R_far (p := ⟨gb300, 2, none⟩) (Kd.R_far (p := ⟨gb300, 1, none⟩) (Kd.R_far (p := ⟨gb300, 0, none⟩) (Kd.R_types HO_250001.out BK300.out (by decide)) (fun _ hk => hk.2) (.slice Ao97 t287.length co97)) (fun _ hk => hk.2) (.slice Ao103 t290.length co103)) (fun _ hk => hk.2) (.slice Ao104 t293.length co104)) (fun _ h_ => h_.1))) hb); have n2_ := Aside0.mk (Kd.R_below (qR (Kd.R_mono (Kd.R_far (p := ⟨gb300, 2, none⟩) (Kd.R_far (p := ⟨gb300, 1, none⟩) (Kd.R_far (p := ⟨gb300, 0, none⟩) (Kd.R_types HO_250002.out BK300.out (by decide)) (fun _ hk => hk.2) (.slice Ao97 t287.length co97)) (fun _ hk => hk.2) (.slice Ao103 t290.length co103)) (fun _ hk => hk.2) (.slice Ao104 t293.length co104)) (fun _ h_ => h_.1))) hb); have n3_ := Aside0.mk (Kd.R_below (qR (Kd.R_mono (Kd.R_far (p := ⟨gb300, 2, none⟩) (Kd.R_far (p := ⟨gb300, 1, none⟩) (Kd.R_far (p := ⟨gb300, 0, none⟩) (Kd.R_types HO275.out BK300.out (by decide)) (fun _ hk => hk.2) (.slice Ao97 t287.length co97)) (fun _ hk => hk.2) (.slice Ao103 t290.length co103)) (fun _ hk => hk.2) (.slice Ao104 t293.length co104)) (fun _ h_ => h_.1))) hb); have n4_ := Aside0.mk (Kd.V_below (qV (Kd.V_mono (Kd.V_far (p := ⟨gb300, 2, none⟩) (Kd.V_far (p := ⟨gb300, 1, none⟩) (Kd.V_far (p := ⟨gb300, 0, none⟩) (Kd.V_mono HO278.out (fun k_ hk => (⟨hk, hk.2⟩ : _ ∧ k_ ≠ gb300))) (fun _ hk => hk.2) (.slice Ao97 t287.length co97)) (fun _ hk => hk.2) (.slice Ao103 t290.length co103)) (fun _ hk => hk.2) (.slice Ao104 t293.length co104)) (fun _ h_ => h_.1))) hb); have n5_ := Aside0.mk (Kd.R_below (qR (Kd.R_mono (Kd.R_far (p := ⟨gb300, 2, none⟩) (Kd.R_far (p := ⟨gb300, 1, none⟩) (Kd.R_far (p := ⟨gb300, 0, none⟩) (Kd.R_types HO281.out BK300.out (by decide)) (fun _ hk => hk.2) (.slice Ao97 t287.length co97)) (fun _ hk => hk.2) (.slice Ao103 t290.length co103)) (fun _ hk => hk.2) (.slice Ao104 t293.length co104)) (fun _ h_ => h_.1))) hb); have n6_ := Aside0.mk (Kd.R_below (qR (Kd.R_mono (Kd.R_far (p := ⟨gb300, 2, none⟩) (Kd.R_far (p := ⟨gb300, 1, none⟩) (Kd.R_far (p := ⟨gb300, 0, none⟩) (Kd.R_types HO284.out BK300.out (by decide)) (fun _ hk => hk.2) (.slice Ao97 t287.length co97)) (fun _ hk => hk.2) (.slice Ao103 t290.length co103)) (fun _ hk => hk.2) (.slice Ao104 t293.length co104)) (fun _ h_ => h_.1))) hb); have n7_ := Aside0.mk (Kd.R_below (qR (Kd.R_mono (Kd.R_far (p := ⟨gb300, 2, none⟩) (Kd.R_far (p := ⟨gb300, 1, none⟩) (Kd.R_far (p := ⟨gb300, 0, none⟩) (Kd.R_types HO289.out BK300.out (by decide)) (fun _ hk => hk.2) (.slice Ao97 t287.length co97)) (fun _ hk => hk.2) (.slice Ao103 t290.length co103)) (fun _ hk => hk.2) (.slice Ao104 t293.length co104)) (fun _ h_ => h_.1))) hb); have n8_ := Aside0.mk (Kd.V_below (qV (Kd.V_mono (Kd.V_far (p := ⟨gb300, 2, none⟩) (Kd.V_far (p := ⟨gb300, 1, none⟩) (Kd.V_far (p := ⟨gb300, 0, none⟩) (Kd.V_mono HO292.out (fun k_ hk => (⟨hk, hk.2⟩ : _ ∧ k_ ≠ gb300))) (fun _ hk => hk.2) (.slice Ao97 t287.length co97)) (fun _ hk => hk.2) (.slice Ao103 t290.length co103)) (fun _ hk => hk.2) (.slice Ao104 t293.length co104)) (fun _ h_ => h_.1))) hb); have n9_ := Aside0.mk (Kd.R_below (qR (Kd.R_mono (Kd.R_far (p := ⟨gb300, 2, none⟩) (Kd.R_far (p := ⟨gb300, 1, none⟩) (Kd.R_far (p := ⟨gb300, 0, none⟩) (Kd.R_types HO295.out BK300.out (by decide)) (fun _ hk => hk.2) (.slice Ao97 t287.length co97)) (fun _ hk => hk.2) (.slice Ao103 t290.length co103)) (fun _ hk => hk.2) (.slice Ao104 t293.length co104)) (fun _ h_ => h_.1))) hb); have n10_ := Aside0.mk (Kd.V_below (qV (Kd.V_mono (Kd.V_far (p := ⟨gb300, 2, none⟩) (Kd.V_far (p := ⟨gb300, 1, none⟩) (Kd.V_far (p := ⟨gb300, 0, none⟩) (Kd.V_mono HO298.out (fun k_ hk => (⟨hk, hk.2⟩ : _ ∧ k_ ≠ gb300))) (fun _ hk => hk.2) (.slice Ao97 t287.length co97)) (fun _ hk => hk.2) (.slice Ao103 t290.length co103)) (fun _ hk => hk.2) (.slice Ao104 t293.length co104)) (fun _ h_ => h_.1))) hb); have n11_ := Aside0.mk (blk_below (qf BK236.out) hb); have n12_ := Aside0.mk (blk_below (qf BK237.out) hb); have n13_ := Aside0.mk (blk_below (qf BK249.out) hb); have n14_ := Aside0.mk (blk_below (qf BK286.out) hb); have n15_ := Aside0.mk (blk_below (g := gb300) (o := .cells #[.slice Ao97 t287.length co97, .slice Ao103 t290.length co103, .slice Ao104 t293.length co104] 53 (0, 0)) (by (with_reducible repeat (first | refine blk_drewN ?_ _ | refine blk_drew ?_ | refine blk_alloc ?_ _)); refine blk_put (cs := #[.slice Ao97 t287.length co97, .slice Ao103 t290.length co103, .slice none 0 0]) ?_ 2 _ rfl; (with_reducible repeat (first | refine blk_drewN ?_ _ | refine blk_drew ?_ | refine blk_alloc ?_ _)); refine blk_put (cs := #[.slice Ao97 t287.length co97, .slice none 0 0, .slice none 0 0]) ?_ 1 _ rfl; (with_reducible repeat (first | refine blk_drewN ?_ _ | refine blk_drew ?_ | refine blk_alloc ?_ _)); refine blk_put (cs := #[.slice none 0 0, .slice none 0 0, .slice none 0 0]) ?_ 0 _ rfl; (with_reducible repeat (first | refine blk_drewN ?_ _ | refine blk_drew ?_ | refine blk_alloc ?_ _)); exact BK300.out) hb); have n16_ := Aside0.mk (below_step (qW HB.out) hb); clear HO_250000 HO_250001 HO_250002 HO275 HO278 HO281 HO284 HO289 HO292 HO295 HO298 BK236 BK237 BK249 BK286 BK300 HB; have HO_250000 := n0_; have HO_250001 := n1_; have HO_250002 := n2_; have HO275 := n3_; have HO278 := n4_; have HO281 := n5_; have HO284 := n6_; have HO289 := n7_; have HO292 := n8_; have HO295 := n9_; have HO298 := n10_; have BK236 := n11_; have BK237 := n12_; have BK249 := n13_; have BK286 := n14_; have BK300 := n15_; have HB := n16_; clear n0_ n1_ n2_ n3_ n4_ n5_ n6_ n7_ n8_ n9_ n10_ n11_ n12_ n13_ n14_ n15_ n16_; (try clear hb); (try clear hb2); (try clear hk); (try clear hi); obtain ⟨Ao119, co119, eo119⟩ := Kd.R_slice HO284.out; subst eo119; obtain ⟨Ao120, co120, eo120⟩ := Kd.V_slice HO298.out; subst eo120) | (go_at_call 25; (with_reducible refine (garderoberef17_Vals.calls kj23 _ _ t282 _ _ t296 true _ ?side1 ?side2 ?side3 ?side4 A107.out).mono ?_); (case side1 => exact qC (Kd.R_reads' HO284.out).2.2); (case side2 => exact (Kd.R_reads' HO284.out).2.1); (case side3 => exact qC (Kd.V_reads' HO298.out).2.2); (case side4 => exact (Kd.V_reads' HO298.out).2.1); rintro e w' ⟨rfl, ⟨nd, rfl⟩⟩))
          go_meet
          case rel => exact ⟨_, ((t285 != t299)), (by first | rfl | (simp; done) | (simp [*]; done)), H', ⟨by have := HJ6.out; have := HJ23.out; first | omega | exact Nat.le_refl _⟩, ⟨by (with_reducible repeat (first | apply Kd.R_alloc | apply Kd.R_drewN | apply Kd.R_drew)); exact Kd.R_mono HO_250000.out (fun _ hk => ⟨hk.1.1.1.1, hk.1.1.1.2⟩)⟩, ⟨by (with_reducible repeat (first | apply Kd.R_alloc | apply Kd.R_drewN | apply Kd.R_drew)); exact Kd.R_mono HO_250001.out (fun _ hk => ⟨hk.1.1.1.1, hk.1.1.1.2⟩)⟩, ⟨by (with_reducible repeat (first | apply Kd.R_alloc | apply Kd.R_drewN | apply Kd.R_drew)); exact Kd.R_mono HO_250002.out (fun _ hk => trivial)⟩, ⟨qf BK236.out⟩, ⟨qf BK237.out⟩, ⟨qf BK249.out⟩, ⟨qW HB.out⟩⟩
         ·replace c108 := Bool.eq_false_iff.mpr c108
          subst c108
          have H1 : (garderobelaw17_ShapeMoves.j2 kj23 a3 true l0_0 l0_1 l0_2 a5_0 a5_1 a5_2 a5_3 t240 t243 t246) = some r := by rw [if_neg (show ¬ (false = true) by decide)] at H; exact H
          clear H
          have H := H1
          clear H1
          have H' := Aside0.mk H
          clear H
          have hnb121 := NB286_236.out
          have hnc121 := NB236_286.out
          have hnb122 := NB286_237.out
          have hnc122 := NB237_286.out
          have hnb123 := NB286_249.out
          have hnc123 := NB249_286.out
          have hnb124 := NB286_300.out
          have hnc124 := NB300_286.out
          have hcz125_0 : w96.cell? ⟨gb286, 0, none⟩ = some (.slice Ao87 t273.length co87) := (blk_cell BK286.out 0).trans rfl
          have hcz125_1 : w96.cell? ⟨gb286, 1, none⟩ = some (.slice Ao92 t276.length co92) := (blk_cell BK286.out 1).trans rfl
          have hcz125_2 : w96.cell? ⟨gb286, 2, none⟩ = some (.slice Ao93 t279.length co93) := (blk_cell BK286.out 2).trans rfl
          have hfz125_0 := blk_frozen BK286.out 0
          have hfz125_1 := blk_frozen BK286.out 1
          have hfz125_2 := blk_frozen BK286.out 2
          have hnb126 := NB300_236.out
          have hnc126 := NB236_300.out
          have hnb127 := NB300_237.out
          have hnc127 := NB237_300.out
          have hnb128 := NB300_249.out
          have hnc128 := NB249_300.out
          have hcz129_0 : w96.cell? ⟨gb300, 0, none⟩ = some (.slice none 0 0) := (blk_cell BK300.out 0).trans rfl
          have hcz129_1 : w96.cell? ⟨gb300, 1, none⟩ = some (.slice none 0 0) := (blk_cell BK300.out 1).trans rfl
          have hcz129_2 : w96.cell? ⟨gb300, 2, none⟩ = some (.slice none 0 0) := (blk_cell BK300.out 2).trans rfl
          have hfz129_0 := blk_frozen BK300.out 0
          have hfz129_1 := blk_frozen BK300.out 1
          have hfz129_2 := blk_frozen BK300.out 2
          go_wp2_with (first | ((with_reducible refine gate_callee (f := 22) rfl ?_); refine goesL_ (some 74) rfl rfl Try.func22 (by kernel_rfl) rfl #[.agg #[.slice Ao87 t273.length co87, .slice Ao92 t276.length co92, .slice Ao93 t279.length co93], .agg #[.slice Ao97 t287.length co97, .slice Ao103 t290.length co103, .slice Ao104 t293.length co104]] rfl (by (try simp only [List.map_toArray, List.map_cons, List.map_nil]); first | done | rfl | (simp only [List.length_drop, List.length_take]; rfl)) ?_; (with_reducible refine (garderoberef17_Same.calls kj23 _ _ t273 _ _ t276 _ _ t279 _ _ t287 _ _ t290 _ _ t293 true _ ?side1 ?side2 ?side3 ?side4 ?side5 ?side6 ?side7 ?side8 ?side9 ?side10 ?side11 ?side12 A105.out).mono ?_); (case side1 => refine (Kd.R_reads' (e := 56) (base := w.heap.size) (ok := fun k_ => ((((some k_ ≠ (v283 : Value).ownBlock ∧ some k_ ≠ (.slice Ao29 t240.length co29 : Value).ownBlock) ∧ some k_ ≠ (.slice Ao33 t243.length co33 : Value).ownBlock) ∧ k_ ≠ gb237) ∧ some k_ ≠ (.slice Ao97 t287.length co97 : Value).ownBlock)) (n := t273.length) (c := co87) ?_).2.2; exact (qR (Kd.R_mono (Kd.R_far (p := ⟨gb300, 2, none⟩) (Kd.R_far (p := ⟨gb300, 1, none⟩) (Kd.R_far (p := ⟨gb300, 0, none⟩) (Kd.R_types HO275.out BK300.out (by decide)) (fun _ hk => hk.2) (.slice Ao97 t287.length co97)) (fun _ hk => hk.2) (.slice Ao103 t290.length co103)) (fun _ hk => hk.2) (.slice Ao104 t293.length co104)) (fun _ h_ => h_.1)))); (case side2 => exact (Kd.R_reads' HO275.out).2.1); (case side3 => refine (Kd.V_reads' (e := 56) (base := w.heap.size) (ok := fun k_ => (((((some k_ ≠ (.slice Ao87 t273.length co87 : Value).ownBlock ∧ (some k_ ≠ (.slice Ao93 t279.length co93 : Value).ownBlock ∧ (some k_ ≠ (v283 : Value).ownBlock ∧ (some k_ ≠ (.slice Ao29 t240.length co29 : Value).ownBlock ∧ (some k_ ≠ (.slice Ao33 t243.length co33 : Value).ownBlock ∧ (some k_ ≠ (.slice Ao34 t246.length co34 : Value).ownBlock ∧ (k_ ≠ gb236 ∧ (k_ ≠ gb237 ∧ k_ ≠ gb249)))))))) ∧ k_ ≠ gb286) ∧ some k_ ≠ (.slice Ao97 t287.length co97 : Value).ownBlock) ∧ some k_ ≠ (.slice Ao104 t293.length co104 : Value).ownBlock) ∧ k_ ≠ gb300)) (n := t276.length) (c := co92) ?_).2.2; exact (qV (Kd.V_mono (Kd.V_far (p := ⟨gb300, 2, none⟩) (Kd.V_far (p := ⟨gb300, 1, none⟩) (Kd.V_far (p := ⟨gb300, 0, none⟩) (Kd.V_mono HO278.out (fun k_ hk => (⟨hk, hk.2⟩ : _ ∧ k_ ≠ gb300))) (fun _ hk => hk.2) (.slice Ao97 t287.length co97)) (fun _ hk => hk.2) (.slice Ao103 t290.length co103)) (fun _ hk => hk.2) (.slice Ao104 t293.length co104)) (fun _ h_ => h_.1)))); (case side4 => exact (Kd.V_reads' HO278.out).2.1); (case side5 => refine (Kd.R_reads' (e := 3) (base := w.heap.size) (ok := fun k_ => ((True ∧ some k_ ≠ (.slice Ao34 t246.length co34 : Value).ownBlock) ∧ some k_ ≠ (.slice Ao104 t293.length co104 : Value).ownBlock)) (n := t279.length) (c := co93) ?_).2.2; exact (qR (Kd.R_mono (Kd.R_far (p := ⟨gb300, 2, none⟩) (Kd.R_far (p := ⟨gb300, 1, none⟩) (Kd.R_far (p := ⟨gb300, 0, none⟩) (Kd.R_types HO281.out BK300.out (by decide)) (fun _ hk => hk.2) (.slice Ao97 t287.length co97)) (fun _ hk => hk.2) (.slice Ao103 t290.length co103)) (fun _ hk => hk.2) (.slice Ao104 t293.length co104)) (fun _ h_ => h_.1)))); (case side6 => exact (Kd.R_reads' HO281.out).2.1); (case side7 => refine (Kd.R_reads' (e := 56) (base := w.heap.size) (ok := fun k_ => (((((True ∧ some k_ ≠ (.slice Ao29 t240.length co29 : Value).ownBlock) ∧ some k_ ≠ (.slice Ao33 t243.length co33 : Value).ownBlock) ∧ some k_ ≠ (.slice Ao87 t273.length co87 : Value).ownBlock) ∧ some k_ ≠ (v283 : Value).ownBlock) ∧ k_ ≠ gb237)) (n := t287.length) (c := co97) ?_).2.2; exact (qR (Kd.R_mono (Kd.R_far (p := ⟨gb300, 2, none⟩) (Kd.R_far (p := ⟨gb300, 1, none⟩) (Kd.R_far (p := ⟨gb300, 0, none⟩) (Kd.R_types HO289.out BK300.out (by decide)) (fun _ hk => hk.2) (.slice Ao97 t287.length co97)) (fun _ hk => hk.2) (.slice Ao103 t290.length co103)) (fun _ hk => hk.2) (.slice Ao104 t293.length co104)) (fun _ h_ => h_.1)))); (case side8 => exact (Kd.R_reads' HO289.out).2.1); (case side9 => refine (Kd.V_reads' (e := 56) (base := w.heap.size) (ok := fun k_ => ((some k_ ≠ (.slice Ao97 t287.length co97 : Value).ownBlock ∧ (some k_ ≠ (.slice Ao104 t293.length co104 : Value).ownBlock ∧ (some k_ ≠ (.slice Ao29 t240.length co29 : Value).ownBlock ∧ (some k_ ≠ (.slice Ao33 t243.length co33 : Value).ownBlock ∧ (some k_ ≠ (.slice Ao34 t246.length co34 : Value).ownBlock ∧ (some k_ ≠ (.slice Ao87 t273.length co87 : Value).ownBlock ∧ (some k_ ≠ (.slice Ao93 t279.length co93 : Value).ownBlock ∧ (some k_ ≠ (v283 : Value).ownBlock ∧ (k_ ≠ gb236 ∧ (k_ ≠ gb237 ∧ (k_ ≠ gb249 ∧ k_ ≠ gb286))))))))))) ∧ k_ ≠ gb300)) (n := t290.length) (c := co103) ?_).2.2; exact (qV (Kd.V_mono (Kd.V_far (p := ⟨gb300, 2, none⟩) (Kd.V_far (p := ⟨gb300, 1, none⟩) (Kd.V_far (p := ⟨gb300, 0, none⟩) (Kd.V_mono HO292.out (fun k_ hk => (⟨hk, hk.2⟩ : _ ∧ k_ ≠ gb300))) (fun _ hk => hk.2) (.slice Ao97 t287.length co97)) (fun _ hk => hk.2) (.slice Ao103 t290.length co103)) (fun _ hk => hk.2) (.slice Ao104 t293.length co104)) (fun _ h_ => h_.1)))); (case side10 => exact (Kd.V_reads' HO292.out).2.1); (case side11 => refine (Kd.R_reads' (e := 3) (base := w.heap.size) (ok := fun k_ => ((True ∧ some k_ ≠ (.slice Ao34 t246.length co34 : Value).ownBlock) ∧ some k_ ≠ (.slice Ao93 t279.length co93 : Value).ownBlock)) (n := t293.length) (c := co104) ?_).2.2; exact (qR (Kd.R_mono (Kd.R_far (p := ⟨gb300, 2, none⟩) (Kd.R_far (p := ⟨gb300, 1, none⟩) (Kd.R_far (p := ⟨gb300, 0, none⟩) (Kd.R_types HO295.out BK300.out (by decide)) (fun _ hk => hk.2) (.slice Ao97 t287.length co97)) (fun _ hk => hk.2) (.slice Ao103 t290.length co103)) (fun _ hk => hk.2) (.slice Ao104 t293.length co104)) (fun _ h_ => h_.1)))); (case side12 => exact (Kd.R_reads' HO295.out).2.1); rintro e w130 ⟨rfl, hb⟩; refine ⟨_, rfl, ?_⟩; have n0_ := Aside0.mk (Kd.R_below (qR (Kd.R_mono (Kd.R_far (p := ⟨gb300, 2, none⟩) (Kd.R_far (p := ⟨gb300, 1, none⟩) (Kd.R_far (p := ⟨gb300, 0, none⟩) (Kd.R_types HO_250000.out BK300.out (by decide)) (fun _ hk => hk.2) (.slice Ao97 t287.length co97)) (fun _ hk => hk.2) (.slice Ao103 t290.length co103)) (fun _ hk => hk.2) (.slice Ao104 t293.length co104)) (fun _ h_ => h_.1))) hb); have n1_ := Aside0.mk (Kd.R_below (qR (Kd.R_mono (Kd.R_far (p := ⟨gb300, 2, none⟩) (Kd.R_far (p := ⟨gb300, 1, none⟩) (Kd.R_far (p := ⟨gb300, 0, none⟩) (Kd.R_types HO_250001.out BK300.out (by decide)) (fun _ hk => hk.2) (.slice Ao97 t287.length co97)) (fun _ hk => hk.2) (.slice Ao103 t290.length co103)) (fun _ hk => hk.2) (.slice Ao104 t293.length co104)) (fun _ h_ => h_.1))) hb); have n2_ := Aside0.mk (Kd.R_below (qR (Kd.R_mono (Kd.R_far (p := ⟨gb300, 2, none⟩) (Kd.R_far (p := ⟨gb300, 1, none⟩) (Kd.R_far (p := ⟨gb300, 0, none⟩) (Kd.R_types HO_250002.out BK300.out (by decide)) (fun _ hk => hk.2) (.slice Ao97 t287.length co97)) (fun _ hk => hk.2) (.slice Ao103 t290.length co103)) (fun _ hk => hk.2) (.slice Ao104 t293.length co104)) (fun _ h_ => h_.1))) hb); have n3_ := Aside0.mk (Kd.R_below (qR (Kd.R_mono (Kd.R_far (p := ⟨gb300, 2, none⟩) (Kd.R_far (p := ⟨gb300, 1, none⟩) (Kd.R_far (p := ⟨gb300, 0, none⟩) (Kd.R_types HO275.out BK300.out (by decide)) (fun _ hk => hk.2) (.slice Ao97 t287.length co97)) (fun _ hk => hk.2) (.slice Ao103 t290.length co103)) (fun _ hk => hk.2) (.slice Ao104 t293.length co104)) (fun _ h_ => h_.1))) hb); have n4_ := Aside0.mk (Kd.V_below (qV (Kd.V_mono (Kd.V_far (p := ⟨gb300, 2, none⟩) (Kd.V_far (p := ⟨gb300, 1, none⟩) (Kd.V_far (p := ⟨gb300, 0, none⟩) (Kd.V_mono HO278.out (fun k_ hk => (⟨hk, hk.2⟩ : _ ∧ k_ ≠ gb300))) (fun _ hk => hk.2) (.slice Ao97 t287.length co97)) (fun _ hk => hk.2) (.slice Ao103 t290.length co103)) (fun _ hk => hk.2) (.slice Ao104 t293.length co104)) (fun _ h_ => h_.1))) hb); have n5_ := Aside0.mk (Kd.R_below (qR (Kd.R_mono (Kd.R_far (p := ⟨gb300, 2, none⟩) (Kd.R_far (p := ⟨gb300, 1, none⟩) (Kd.R_far (p := ⟨gb300, 0, none⟩) (Kd.R_types HO281.out BK300.out (by decide)) (fun _ hk => hk.2) (.slice Ao97 t287.length co97)) (fun _ hk => hk.2) (.slice Ao103 t290.length co103)) (fun _ hk => hk.2) (.slice Ao104 t293.length co104)) (fun _ h_ => h_.1))) hb); have n6_ := Aside0.mk (Kd.R_below (qR (Kd.R_mono (Kd.R_far (p := ⟨gb300, 2, none⟩) (Kd.R_far (p := ⟨gb300, 1, none⟩) (Kd.R_far (p := ⟨gb300, 0, none⟩) (Kd.R_types HO284.out BK300.out (by decide)) (fun _ hk => hk.2) (.slice Ao97 t287.length co97)) (fun _ hk => hk.2) (.slice Ao103 t290.length co103)) (fun _ hk => hk.2) (.slice Ao104 t293.length co104)) (fun _ h_ => h_.1))) hb); have n7_ := Aside0.mk (Kd.R_below (qR (Kd.R_mono (Kd.R_far (p := ⟨gb300, 2, none⟩) (Kd.R_far (p := ⟨gb300, 1, none⟩) (Kd.R_far (p := ⟨gb300, 0, none⟩) (Kd.R_types HO289.out BK300.out (by decide)) (fun _ hk => hk.2) (.slice Ao97 t287.length co97)) (fun _ hk => hk.2) (.slice Ao103 t290.length co103)) (fun _ hk => hk.2) (.slice Ao104 t293.length co104)) (fun _ h_ => h_.1))) hb); have n8_ := Aside0.mk (Kd.V_below (qV (Kd.V_mono (Kd.V_far (p := ⟨gb300, 2, none⟩) (Kd.V_far (p := ⟨gb300, 1, none⟩) (Kd.V_far (p := ⟨gb300, 0, none⟩) (Kd.V_mono HO292.out (fun k_ hk => (⟨hk, hk.2⟩ : _ ∧ k_ ≠ gb300))) (fun _ hk => hk.2) (.slice Ao97 t287.length co97)) (fun _ hk => hk.2) (.slice Ao103 t290.length co103)) (fun _ hk => hk.2) (.slice Ao104 t293.length co104)) (fun _ h_ => h_.1))) hb); have n9_ := Aside0.mk (Kd.R_below (qR (Kd.R_mono (Kd.R_far (p := ⟨gb300, 2, none⟩) (Kd.R_far (p := ⟨gb300, 1, none⟩) (Kd.R_far (p := ⟨gb300, 0, none⟩) (Kd.R_types HO295.out BK300.out (by decide)) (fun _ hk => hk.2) (.slice Ao97 t287.length co97)) (fun _ hk => hk.2) (.slice Ao103 t290.length co103)) (fun _ hk => hk.2) (.slice Ao104 t293.length co104)) (fun _ h_ => h_.1))) hb); have n10_ := Aside0.mk (Kd.V_below (qV (Kd.V_mono (Kd.V_far (p := ⟨gb300, 2, none⟩) (Kd.V_far (p := ⟨gb300, 1, none⟩) (Kd.V_far (p := ⟨gb300, 0, none⟩) (Kd.V_mono HO298.out (fun k_ hk => (⟨hk, hk.2⟩ : _ ∧ k_ ≠ gb300))) (fun _ hk => hk.2) (.slice Ao97 t287.length co97)) (fun _ hk => hk.2) (.slice Ao103 t290.length co103)) (fun _ hk => hk.2) (.slice Ao104 t293.length co104)) (fun _ h_ => h_.1))) hb); have n11_ := Aside0.mk (blk_below (qf BK236.out) hb); have n12_ := Aside0.mk (blk_below (qf BK237.out) hb); have n13_ := Aside0.mk (blk_below (qf BK249.out) hb); have n14_ := Aside0.mk (blk_below (qf BK286.out) hb); have n15_ := Aside0.mk (blk_below (g := gb300) (o := .cells #[.slice Ao97 t287.length co97, .slice Ao103 t290.length co103, .slice Ao104 t293.length co104] 53 (0, 0)) (by (with_reducible repeat (first | refine blk_drewN ?_ _ | refine blk_drew ?_ | refine blk_alloc ?_ _)); refine blk_put (cs := #[.slice Ao97 t287.length co97, .slice Ao103 t290.length co103, .slice none 0 0]) ?_ 2 _ rfl; (with_reducible repeat (first | refine blk_drewN ?_ _ | refine blk_drew ?_ | refine blk_alloc ?_ _)); refine blk_put (cs := #[.slice Ao97 t287.length co97, .slice none 0 0, .slice none 0 0]) ?_ 1 _ rfl; (with_reducible repeat (first | refine blk_drewN ?_ _ | refine blk_drew ?_ | refine blk_alloc ?_ _)); refine blk_put (cs := #[.slice none 0 0, .slice none 0 0, .slice none 0 0]) ?_ 0 _ rfl; (with_reducible repeat (first | refine blk_drewN ?_ _ | refine blk_drew ?_ | refine blk_alloc ?_ _)); exact BK300.out) hb); have n16_ := Aside0.mk (below_step (qW HB.out) hb); clear HO_250000 HO_250001 HO_250002 HO275 HO278 HO281 HO284 HO289 HO292 HO295 HO298 BK236 BK237 BK249 BK286 BK300 HB; have HO_250000 := n0_; have HO_250001 := n1_; have HO_250002 := n2_; have HO275 := n3_; have HO278 := n4_; have HO281 := n5_; have HO284 := n6_; have HO289 := n7_; have HO292 := n8_; have HO295 := n9_; have HO298 := n10_; have BK236 := n11_; have BK237 := n12_; have BK249 := n13_; have BK286 := n14_; have BK300 := n15_; have HB := n16_; clear n0_ n1_ n2_ n3_ n4_ n5_ n6_ n7_ n8_ n9_ n10_ n11_ n12_ n13_ n14_ n15_ n16_; (try clear hb); (try clear hb2); (try clear hk); (try clear hi); obtain ⟨Ao131, co131, eo131⟩ := Kd.R_slice HO284.out; subst eo131; obtain ⟨Ao132, co132, eo132⟩ := Kd.V_slice HO298.out; subst eo132) | (go_at_call 25; (with_reducible refine (garderoberef17_Vals.calls kj23 _ _ t282 _ _ t296 false _ ?side1 ?side2 ?side3 ?side4 A107.out).mono ?_); (case side1 => exact qC (Kd.R_reads' HO284.out).2.2); (case side2 => exact (Kd.R_reads' HO284.out).2.1); (case side3 => exact qC (Kd.V_reads' HO298.out).2.2); (case side4 => exact (Kd.V_reads' HO298.out).2.1); rintro e w' ⟨rfl, ⟨nd, rfl⟩⟩))
          go_meet
          case rel => exact ⟨_, (true), (by first | rfl | (simp; done) | (simp [*]; done)), H', ⟨by have := HJ6.out; have := HJ23.out; first | omega | exact Nat.le_refl _⟩, ⟨by (with_reducible repeat (first | apply Kd.R_alloc | apply Kd.R_drewN | apply Kd.R_drew)); exact Kd.R_mono HO_250000.out (fun _ hk => ⟨hk.1.1.1.1, hk.1.1.1.2⟩)⟩, ⟨by (with_reducible repeat (first | apply Kd.R_alloc | apply Kd.R_drewN | apply Kd.R_drew)); exact Kd.R_mono HO_250001.out (fun _ hk => ⟨hk.1.1.1.1, hk.1.1.1.2⟩)⟩, ⟨by (with_reducible repeat (first | apply Kd.R_alloc | apply Kd.R_drewN | apply Kd.R_drew)); exact Kd.R_mono HO_250002.out (fun _ hk => trivial)⟩, ⟨qf BK236.out⟩, ⟨qf BK237.out⟩, ⟨qf BK249.out⟩, ⟨qW HB.out⟩⟩
        ·replace c106 := Bool.eq_false_iff.mpr c106
         subst c106
         have H1 : (garderobelaw17_ShapeMoves.j2 kj23 a3 true l0_0 l0_1 l0_2 a5_0 a5_1 a5_2 a5_3 t240 t243 t246) = some r := by rw [if_neg (show ¬ (false = true) by decide)] at H; exact H
         clear H
         have H := H1
         clear H1
         have H' := Aside0.mk H
         clear H
         have hnb133 := NB286_236.out
         have hnc133 := NB236_286.out
         have hnb134 := NB286_237.out
         have hnc134 := NB237_286.out
         have hnb135 := NB286_249.out
         have hnc135 := NB249_286.out
         have hnb136 := NB286_300.out
         have hnc136 := NB300_286.out
         have hcz137_0 : w96.cell? ⟨gb286, 0, none⟩ = some (.slice Ao87 t273.length co87) := (blk_cell BK286.out 0).trans rfl
         have hcz137_1 : w96.cell? ⟨gb286, 1, none⟩ = some (.slice Ao92 t276.length co92) := (blk_cell BK286.out 1).trans rfl
         have hcz137_2 : w96.cell? ⟨gb286, 2, none⟩ = some (.slice Ao93 t279.length co93) := (blk_cell BK286.out 2).trans rfl
         have hfz137_0 := blk_frozen BK286.out 0
         have hfz137_1 := blk_frozen BK286.out 1
         have hfz137_2 := blk_frozen BK286.out 2
         have hnb138 := NB300_236.out
         have hnc138 := NB236_300.out
         have hnb139 := NB300_237.out
         have hnc139 := NB237_300.out
         have hnb140 := NB300_249.out
         have hnc140 := NB249_300.out
         have hcz141_0 : w96.cell? ⟨gb300, 0, none⟩ = some (.slice none 0 0) := (blk_cell BK300.out 0).trans rfl
         have hcz141_1 : w96.cell? ⟨gb300, 1, none⟩ = some (.slice none 0 0) := (blk_cell BK300.out 1).trans rfl
         have hcz141_2 : w96.cell? ⟨gb300, 2, none⟩ = some (.slice none 0 0) := (blk_cell BK300.out 2).trans rfl
         have hfz141_0 := blk_frozen BK300.out 0
         have hfz141_1 := blk_frozen BK300.out 1
         have hfz141_2 := blk_frozen BK300.out 2
         go_wp2_with (first | ((with_reducible refine gate_callee (f := 22) rfl ?_); refine goesL_ (some 74) rfl rfl Try.func22 (by kernel_rfl) rfl #[.agg #[.slice Ao87 t273.length co87, .slice Ao92 t276.length co92, .slice Ao93 t279.length co93], .agg #[.slice Ao97 t287.length co97, .slice Ao103 t290.length co103, .slice Ao104 t293.length co104]] rfl (by (try simp only [List.map_toArray, List.map_cons, List.map_nil]); first | done | rfl | (simp only [List.length_drop, List.length_take]; rfl)) ?_; (with_reducible refine (garderoberef17_Same.calls kj23 _ _ t273 _ _ t276 _ _ t279 _ _ t287 _ _ t290 _ _ t293 false _ ?side1 ?side2 ?side3 ?side4 ?side5 ?side6 ?side7 ?side8 ?side9 ?side10 ?side11 ?side12 A105.out).mono ?_); (case side1 => refine (Kd.R_reads' (e := 56) (base := w.heap.size) (ok := fun k_ => ((((some k_ ≠ (v283 : Value).ownBlock ∧ some k_ ≠ (.slice Ao29 t240.length co29 : Value).ownBlock) ∧ some k_ ≠ (.slice Ao33 t243.length co33 : Value).ownBlock) ∧ k_ ≠ gb237) ∧ some k_ ≠ (.slice Ao97 t287.length co97 : Value).ownBlock)) (n := t273.length) (c := co87) ?_).2.2; exact (qR (Kd.R_mono (Kd.R_far (p := ⟨gb300, 2, none⟩) (Kd.R_far (p := ⟨gb300, 1, none⟩) (Kd.R_far (p := ⟨gb300, 0, none⟩) (Kd.R_types HO275.out BK300.out (by decide)) (fun _ hk => hk.2) (.slice Ao97 t287.length co97)) (fun _ hk => hk.2) (.slice Ao103 t290.length co103)) (fun _ hk => hk.2) (.slice Ao104 t293.length co104)) (fun _ h_ => h_.1)))); (case side2 => exact (Kd.R_reads' HO275.out).2.1); (case side3 => refine (Kd.V_reads' (e := 56) (base := w.heap.size) (ok := fun k_ => (((((some k_ ≠ (.slice Ao87 t273.length co87 : Value).ownBlock ∧ (some k_ ≠ (.slice Ao93 t279.length co93 : Value).ownBlock ∧ (some k_ ≠ (v283 : Value).ownBlock ∧ (some k_ ≠ (.slice Ao29 t240.length co29 : Value).ownBlock ∧ (some k_ ≠ (.slice Ao33 t243.length co33 : Value).ownBlock ∧ (some k_ ≠ (.slice Ao34 t246.length co34 : Value).ownBlock ∧ (k_ ≠ gb236 ∧ (k_ ≠ gb237 ∧ k_ ≠ gb249)))))))) ∧ k_ ≠ gb286) ∧ some k_ ≠ (.slice Ao97 t287.length co97 : Value).ownBlock) ∧ some k_ ≠ (.slice Ao104 t293.length co104 : Value).ownBlock) ∧ k_ ≠ gb300)) (n := t276.length) (c := co92) ?_).2.2; exact (qV (Kd.V_mono (Kd.V_far (p := ⟨gb300, 2, none⟩) (Kd.V_far (p := ⟨gb300, 1, none⟩) (Kd.V_far (p := ⟨gb300, 0, none⟩) (Kd.V_mono HO278.out (fun k_ hk => (⟨hk, hk.2⟩ : _ ∧ k_ ≠ gb300))) (fun _ hk => hk.2) (.slice Ao97 t287.length co97)) (fun _ hk => hk.2) (.slice Ao103 t290.length co103)) (fun _ hk => hk.2) (.slice Ao104 t293.length co104)) (fun _ h_ => h_.1)))); (case side4 => exact (Kd.V_reads' HO278.out).2.1); (case side5 => refine (Kd.R_reads' (e := 3) (base := w.heap.size) (ok := fun k_ => ((True ∧ some k_ ≠ (.slice Ao34 t246.length co34 : Value).ownBlock) ∧ some k_ ≠ (.slice Ao104 t293.length co104 : Value).ownBlock)) (n := t279.length) (c := co93) ?_).2.2; exact (qR (Kd.R_mono (Kd.R_far (p := ⟨gb300, 2, none⟩) (Kd.R_far (p := ⟨gb300, 1, none⟩) (Kd.R_far (p := ⟨gb300, 0, none⟩) (Kd.R_types HO281.out BK300.out (by decide)) (fun _ hk => hk.2) (.slice Ao97 t287.length co97)) (fun _ hk => hk.2) (.slice Ao103 t290.length co103)) (fun _ hk => hk.2) (.slice Ao104 t293.length co104)) (fun _ h_ => h_.1)))); (case side6 => exact (Kd.R_reads' HO281.out).2.1); (case side7 => refine (Kd.R_reads' (e := 56) (base := w.heap.size) (ok := fun k_ => (((((True ∧ some k_ ≠ (.slice Ao29 t240.length co29 : Value).ownBlock) ∧ some k_ ≠ (.slice Ao33 t243.length co33 : Value).ownBlock) ∧ some k_ ≠ (.slice Ao87 t273.length co87 : Value).ownBlock) ∧ some k_ ≠ (v283 : Value).ownBlock) ∧ k_ ≠ gb237)) (n := t287.length) (c := co97) ?_).2.2; exact (qR (Kd.R_mono (Kd.R_far (p := ⟨gb300, 2, none⟩) (Kd.R_far (p := ⟨gb300, 1, none⟩) (Kd.R_far (p := ⟨gb300, 0, none⟩) (Kd.R_types HO289.out BK300.out (by decide)) (fun _ hk => hk.2) (.slice Ao97 t287.length co97)) (fun _ hk => hk.2) (.slice Ao103 t290.length co103)) (fun _ hk => hk.2) (.slice Ao104 t293.length co104)) (fun _ h_ => h_.1)))); (case side8 => exact (Kd.R_reads' HO289.out).2.1); (case side9 => refine (Kd.V_reads' (e := 56) (base := w.heap.size) (ok := fun k_ => ((some k_ ≠ (.slice Ao97 t287.length co97 : Value).ownBlock ∧ (some k_ ≠ (.slice Ao104 t293.length co104 : Value).ownBlock ∧ (some k_ ≠ (.slice Ao29 t240.length co29 : Value).ownBlock ∧ (some k_ ≠ (.slice Ao33 t243.length co33 : Value).ownBlock ∧ (some k_ ≠ (.slice Ao34 t246.length co34 : Value).ownBlock ∧ (some k_ ≠ (.slice Ao87 t273.length co87 : Value).ownBlock ∧ (some k_ ≠ (.slice Ao93 t279.length co93 : Value).ownBlock ∧ (some k_ ≠ (v283 : Value).ownBlock ∧ (k_ ≠ gb236 ∧ (k_ ≠ gb237 ∧ (k_ ≠ gb249 ∧ k_ ≠ gb286))))))))))) ∧ k_ ≠ gb300)) (n := t290.length) (c := co103) ?_).2.2; exact (qV (Kd.V_mono (Kd.V_far (p := ⟨gb300, 2, none⟩) (Kd.V_far (p := ⟨gb300, 1, none⟩) (Kd.V_far (p := ⟨gb300, 0, none⟩) (Kd.V_mono HO292.out (fun k_ hk => (⟨hk, hk.2⟩ : _ ∧ k_ ≠ gb300))) (fun _ hk => hk.2) (.slice Ao97 t287.length co97)) (fun _ hk => hk.2) (.slice Ao103 t290.length co103)) (fun _ hk => hk.2) (.slice Ao104 t293.length co104)) (fun _ h_ => h_.1)))); (case side10 => exact (Kd.V_reads' HO292.out).2.1); (case side11 => refine (Kd.R_reads' (e := 3) (base := w.heap.size) (ok := fun k_ => ((True ∧ some k_ ≠ (.slice Ao34 t246.length co34 : Value).ownBlock) ∧ some k_ ≠ (.slice Ao93 t279.length co93 : Value).ownBlock)) (n := t293.length) (c := co104) ?_).2.2; exact (qR (Kd.R_mono (Kd.R_far (p := ⟨gb300, 2, none⟩) (Kd.R_far (p := ⟨gb300, 1, none⟩) (Kd.R_far (p := ⟨gb300, 0, none⟩) (Kd.R_types HO295.out BK300.out (by decide)) (fun _ hk => hk.2) (.slice Ao97 t287.length co97)) (fun _ hk => hk.2) (.slice Ao103 t290.length co103)) (fun _ hk => hk.2) (.slice Ao104 t293.length co104)) (fun _ h_ => h_.1)))); (case side12 => exact (Kd.R_reads' HO295.out).2.1); rintro e w142 ⟨rfl, hb⟩; refine ⟨_, rfl, ?_⟩; have n0_ := Aside0.mk (Kd.R_below (qR (Kd.R_mono (Kd.R_far (p := ⟨gb300, 2, none⟩) (Kd.R_far (p := ⟨gb300, 1, none⟩) (Kd.R_far (p := ⟨gb300, 0, none⟩) (Kd.R_types HO_250000.out BK300.out (by decide)) (fun _ hk => hk.2) (.slice Ao97 t287.length co97)) (fun _ hk => hk.2) (.slice Ao103 t290.length co103)) (fun _ hk => hk.2) (.slice Ao104 t293.length co104)) (fun _ h_ => h_.1))) hb); have n1_ := Aside0.mk (Kd.R_below (qR (Kd.R_mono (Kd.R_far (p := ⟨gb300, 2, none⟩) (Kd.R_far (p := ⟨gb300, 1, none⟩) (Kd.R_far (p := ⟨gb300, 0, none⟩) (Kd.R_types HO_250001.out BK300.out (by decide)) (fun _ hk => hk.2) (.slice Ao97 t287.length co97)) (fun _ hk => hk.2) (.slice Ao103 t290.length co103)) (fun _ hk => hk.2) (.slice Ao104 t293.length co104)) (fun _ h_ => h_.1))) hb); have n2_ := Aside0.mk (Kd.R_below (qR (Kd.R_mono (Kd.R_far (p := ⟨gb300, 2, none⟩) (Kd.R_far (p := ⟨gb300, 1, none⟩) (Kd.R_far (p := ⟨gb300, 0, none⟩) (Kd.R_types HO_250002.out BK300.out (by decide)) (fun _ hk => hk.2) (.slice Ao97 t287.length co97)) (fun _ hk => hk.2) (.slice Ao103 t290.length co103)) (fun _ hk => hk.2) (.slice Ao104 t293.length co104)) (fun _ h_ => h_.1))) hb); have n3_ := Aside0.mk (Kd.R_below (qR (Kd.R_mono (Kd.R_far (p := ⟨gb300, 2, none⟩) (Kd.R_far (p := ⟨gb300, 1, none⟩) (Kd.R_far (p := ⟨gb300, 0, none⟩) (Kd.R_types HO275.out BK300.out (by decide)) (fun _ hk => hk.2) (.slice Ao97 t287.length co97)) (fun _ hk => hk.2) (.slice Ao103 t290.length co103)) (fun _ hk => hk.2) (.slice Ao104 t293.length co104)) (fun _ h_ => h_.1))) hb); have n4_ := Aside0.mk (Kd.V_below (qV (Kd.V_mono (Kd.V_far (p := ⟨gb300, 2, none⟩) (Kd.V_far (p := ⟨gb300, 1, none⟩) (Kd.V_far (p := ⟨gb300, 0, none⟩) (Kd.V_mono HO278.out (fun k_ hk => (⟨hk, hk.2⟩ : _ ∧ k_ ≠ gb300))) (fun _ hk => hk.2) (.slice Ao97 t287.length co97)) (fun _ hk => hk.2) (.slice Ao103 t290.length co103)) (fun _ hk => hk.2) (.slice Ao104 t293.length co104)) (fun _ h_ => h_.1))) hb); have n5_ := Aside0.mk (Kd.R_below (qR (Kd.R_mono (Kd.R_far (p := ⟨gb300, 2, none⟩) (Kd.R_far (p := ⟨gb300, 1, none⟩) (Kd.R_far (p := ⟨gb300, 0, none⟩) (Kd.R_types HO281.out BK300.out (by decide)) (fun _ hk => hk.2) (.slice Ao97 t287.length co97)) (fun _ hk => hk.2) (.slice Ao103 t290.length co103)) (fun _ hk => hk.2) (.slice Ao104 t293.length co104)) (fun _ h_ => h_.1))) hb); have n6_ := Aside0.mk (Kd.R_below (qR (Kd.R_mono (Kd.R_far (p := ⟨gb300, 2, none⟩) (Kd.R_far (p := ⟨gb300, 1, none⟩) (Kd.R_far (p := ⟨gb300, 0, none⟩) (Kd.R_types HO284.out BK300.out (by decide)) (fun _ hk => hk.2) (.slice Ao97 t287.length co97)) (fun _ hk => hk.2) (.slice Ao103 t290.length co103)) (fun _ hk => hk.2) (.slice Ao104 t293.length co104)) (fun _ h_ => h_.1))) hb); have n7_ := Aside0.mk (Kd.R_below (qR (Kd.R_mono (Kd.R_far (p := ⟨gb300, 2, none⟩) (Kd.R_far (p := ⟨gb300, 1, none⟩) (Kd.R_far (p := ⟨gb300, 0, none⟩) (Kd.R_types HO289.out BK300.out (by decide)) (fun _ hk => hk.2) (.slice Ao97 t287.length co97)) (fun _ hk => hk.2) (.slice Ao103 t290.length co103)) (fun _ hk => hk.2) (.slice Ao104 t293.length co104)) (fun _ h_ => h_.1))) hb); have n8_ := Aside0.mk (Kd.V_below (qV (Kd.V_mono (Kd.V_far (p := ⟨gb300, 2, none⟩) (Kd.V_far (p := ⟨gb300, 1, none⟩) (Kd.V_far (p := ⟨gb300, 0, none⟩) (Kd.V_mono HO292.out (fun k_ hk => (⟨hk, hk.2⟩ : _ ∧ k_ ≠ gb300))) (fun _ hk => hk.2) (.slice Ao97 t287.length co97)) (fun _ hk => hk.2) (.slice Ao103 t290.length co103)) (fun _ hk => hk.2) (.slice Ao104 t293.length co104)) (fun _ h_ => h_.1))) hb); have n9_ := Aside0.mk (Kd.R_below (qR (Kd.R_mono (Kd.R_far (p := ⟨gb300, 2, none⟩) (Kd.R_far (p := ⟨gb300, 1, none⟩) (Kd.R_far (p := ⟨gb300, 0, none⟩) (Kd.R_types HO295.out BK300.out (by decide)) (fun _ hk => hk.2) (.slice Ao97 t287.length co97)) (fun _ hk => hk.2) (.slice Ao103 t290.length co103)) (fun _ hk => hk.2) (.slice Ao104 t293.length co104)) (fun _ h_ => h_.1))) hb); have n10_ := Aside0.mk (Kd.V_below (qV (Kd.V_mono (Kd.V_far (p := ⟨gb300, 2, none⟩) (Kd.V_far (p := ⟨gb300, 1, none⟩) (Kd.V_far (p := ⟨gb300, 0, none⟩) (Kd.V_mono HO298.out (fun k_ hk => (⟨hk, hk.2⟩ : _ ∧ k_ ≠ gb300))) (fun _ hk => hk.2) (.slice Ao97 t287.length co97)) (fun _ hk => hk.2) (.slice Ao103 t290.length co103)) (fun _ hk => hk.2) (.slice Ao104 t293.length co104)) (fun _ h_ => h_.1))) hb); have n11_ := Aside0.mk (blk_below (qf BK236.out) hb); have n12_ := Aside0.mk (blk_below (qf BK237.out) hb); have n13_ := Aside0.mk (blk_below (qf BK249.out) hb); have n14_ := Aside0.mk (blk_below (qf BK286.out) hb); have n15_ := Aside0.mk (blk_below (g := gb300) (o := .cells #[.slice Ao97 t287.length co97, .slice Ao103 t290.length co103, .slice Ao104 t293.length co104] 53 (0, 0)) (by (with_reducible repeat (first | refine blk_drewN ?_ _ | refine blk_drew ?_ | refine blk_alloc ?_ _)); refine blk_put (cs := #[.slice Ao97 t287.length co97, .slice Ao103 t290.length co103, .slice none 0 0]) ?_ 2 _ rfl; (with_reducible repeat (first | refine blk_drewN ?_ _ | refine blk_drew ?_ | refine blk_alloc ?_ _)); refine blk_put (cs := #[.slice Ao97 t287.length co97, .slice none 0 0, .slice none 0 0]) ?_ 1 _ rfl; (with_reducible repeat (first | refine blk_drewN ?_ _ | refine blk_drew ?_ | refine blk_alloc ?_ _)); refine blk_put (cs := #[.slice none 0 0, .slice none 0 0, .slice none 0 0]) ?_ 0 _ rfl; (with_reducible repeat (first | refine blk_drewN ?_ _ | refine blk_drew ?_ | refine blk_alloc ?_ _)); exact BK300.out) hb); have n16_ := Aside0.mk (below_step (qW HB.out) hb); clear HO_250000 HO_250001 HO_250002 HO275 HO278 HO281 HO284 HO289 HO292 HO295 HO298 BK236 BK237 BK249 BK286 BK300 HB; have HO_250000 := n0_; have HO_250001 := n1_; have HO_250002 := n2_; have HO275 := n3_; have HO278 := n4_; have HO281 := n5_; have HO284 := n6_; have HO289 := n7_; have HO292 := n8_; have HO295 := n9_; have HO298 := n10_; have BK236 := n11_; have BK237 := n12_; have BK249 := n13_; have BK286 := n14_; have BK300 := n15_; have HB := n16_; clear n0_ n1_ n2_ n3_ n4_ n5_ n6_ n7_ n8_ n9_ n10_ n11_ n12_ n13_ n14_ n15_ n16_; (try clear hb); (try clear hb2); (try clear hk); (try clear hi)))
         go_meet
         case rel => exact ⟨_, (true), (by first | rfl | (simp; done) | (simp [*]; done)), H', ⟨by have := HJ6.out; have := HJ23.out; first | omega | exact Nat.le_refl _⟩, ⟨by (with_reducible repeat (first | apply Kd.R_alloc | apply Kd.R_drewN | apply Kd.R_drew)); exact Kd.R_mono HO_250000.out (fun _ hk => ⟨hk.1.1.1.1, hk.1.1.1.2⟩)⟩, ⟨by (with_reducible repeat (first | apply Kd.R_alloc | apply Kd.R_drewN | apply Kd.R_drew)); exact Kd.R_mono HO_250001.out (fun _ hk => ⟨hk.1.1.1.1, hk.1.1.1.2⟩)⟩, ⟨by (with_reducible repeat (first | apply Kd.R_alloc | apply Kd.R_drewN | apply Kd.R_drew)); exact Kd.R_mono HO_250002.out (fun _ hk => trivial)⟩, ⟨qf BK236.out⟩, ⟨qf BK237.out⟩, ⟨qf BK249.out⟩, ⟨qW HB.out⟩⟩
       case rest =>
        clear HC81
        try clear c1
        try clear c2
        try clear p2
        try clear c3
        try clear c4
        try clear c5
        try clear c6
        try clear c7
        try clear c8
        try clear c9
        try clear c10
        try clear c11
        try clear c12
        try clear c13
        try clear c14
        try clear c15
        try clear c17
        try clear c18
        try clear c19
        try clear c20
        try clear c21
        try clear c22
        try clear c23
        try clear c24
        try clear c25
        try clear c30
        try clear c31
        try clear c39
        try clear c40
        try clear c41
        try clear c49
        try clear c50
        try clear c51
        try clear c52
        try clear c57
        try clear c58
        try clear c59
        try clear c60
        try clear c61
        try clear c63
        try clear c64
        try clear c65
        try clear c68
        try clear c69
        try clear c70
        try clear c71
        try clear c73
        try clear c74
        try clear c75
        try clear c78
        try clear c82
        try clear c83
        try clear c88
        try clear c89
        try clear c90
        try clear c98
        try clear c99
        try clear c100
        try clear c101
        try clear c106
        try clear c108
        try clear c109
        try clear c110
        try clear c111
        try clear c112
        try clear c114
        try clear c115
        try clear c116
        try clear c121
        try clear c122
        try clear c123
        try clear c124
        try clear c126
        try clear c127
        try clear c128
        try clear c133
        try clear c134
        try clear c135
        try clear c136
        try clear c138
        try clear c139
        try clear c140
        try clear hcz102_0
        try clear hcz102_1
        try clear hcz102_2
        try clear hcz113_0
        try clear hcz113_1
        try clear hcz113_2
        try clear hcz117_0
        try clear hcz117_1
        try clear hcz117_2
        try clear hcz125_0
        try clear hcz125_1
        try clear hcz125_2
        try clear hcz129_0
        try clear hcz129_1
        try clear hcz129_2
        try clear hcz137_0
        try clear hcz137_1
        try clear hcz137_2
        try clear hcz13_0
        try clear hcz13_1
        try clear hcz13_2
        try clear hcz141_0
        try clear hcz141_1
        try clear hcz141_2
        try clear hcz16_0
        try clear hcz16_1
        try clear hcz16_2
        try clear hcz26_0
        try clear hcz26_1
        try clear hcz26_2
        try clear hcz32_0
        try clear hcz32_1
        try clear hcz32_2
        try clear hcz35_0
        try clear hcz35_1
        try clear hcz35_2
        try clear hcz42_0
        try clear hcz42_1
        try clear hcz42_2
        try clear hcz45_0
        try clear hcz45_1
        try clear hcz45_2
        try clear hcz53_0
        try clear hcz53_1
        try clear hcz53_2
        try clear hcz62_0
        try clear hcz62_1
        try clear hcz62_2
        try clear hcz66_0
        try clear hcz66_1
        try clear hcz66_2
        try clear hcz72_0
        try clear hcz72_1
        try clear hcz72_2
        try clear hcz76_0
        try clear hcz76_1
        try clear hcz76_2
        try clear hcz84_0
        try clear hcz84_1
        try clear hcz84_2
        try clear hcz91_0
        try clear hcz91_1
        try clear hcz91_2
        try clear hcz94_0
        try clear hcz94_1
        try clear hcz94_2
        try clear hfz102_0
        try clear hfz102_1
        try clear hfz102_2
        try clear hfz113_0
        try clear hfz113_1
        try clear hfz113_2
        try clear hfz117_0
        try clear hfz117_1
        try clear hfz117_2
        try clear hfz125_0
        try clear hfz125_1
        try clear hfz125_2
        try clear hfz129_0
        try clear hfz129_1
        try clear hfz129_2
        try clear hfz137_0
        try clear hfz137_1
        try clear hfz137_2
        try clear hfz13_0
        try clear hfz13_1
        try clear hfz13_2
        try clear hfz141_0
        try clear hfz141_1
        try clear hfz141_2
        try clear hfz16_0
        try clear hfz16_1
        try clear hfz16_2
        try clear hfz26_0
        try clear hfz26_1
        try clear hfz26_2
        try clear hfz32_0
        try clear hfz32_1
        try clear hfz32_2
        try clear hfz35_0
        try clear hfz35_1
        try clear hfz35_2
        try clear hfz42_0
        try clear hfz42_1
        try clear hfz42_2
        try clear hfz45_0
        try clear hfz45_1
        try clear hfz45_2
        try clear hfz53_0
        try clear hfz53_1
        try clear hfz53_2
        try clear hfz62_0
        try clear hfz62_1
        try clear hfz62_2
        try clear hfz66_0
        try clear hfz66_1
        try clear hfz66_2
        try clear hfz72_0
        try clear hfz72_1
        try clear hfz72_2
        try clear hfz76_0
        try clear hfz76_1
        try clear hfz76_2
        try clear hfz84_0
        try clear hfz84_1
        try clear hfz84_2
        try clear hfz91_0
        try clear hfz91_1
        try clear hfz91_2
        try clear hfz94_0
        try clear hfz94_1
        try clear hfz94_2
        try clear p2
        obtain ⟨kq, x86_80, rfl, HA, HJ80, HO_250000, HO_250001, HO_250002, BK236, BK237, BK249, HB⟩ := hcut
        cases kq with
        | zero => exact absurd HA.out (by simp [garderobelaw17_ShapeMoves.j2])
        | succ kj80 =>
         have H := HA.out
         clear HA
         simp only [garderobelaw17_ShapeMoves.j2] at H
         by_cases c143 : x86_80 = true
         ·subst c143
          have H1 : (none) = some r := by rw [if_pos rfl] at H; exact H
          clear H
          have H := H1
          clear H1
          exact absurd H (by simp)
         ·replace c143 := Bool.eq_false_iff.mpr c143
          subst c143
          have H1 : ((shape_Get.f l0_0 l0_1 l0_2 a3).bind fun bt303 => ((shape_Set.f l0_0 l0_1 l0_2 a3 a5_0 a5_1 a5_2 a5_3).bind fun bt309 => (if a3 < 0 then (garderobelaw17_ShapeMoves.j3 kj80 a3 bt303.2.2.2.2 bt309.2.2.2 true l0_0 l0_1 l0_2 a5_0 a5_1 a5_2 a5_3 t240 t243 t246 bt303.1 bt303.2.1 bt303.2.2.1 bt303.2.2.2.1 bt309.1 bt309.2.1 bt309.2.2.1) else (garderobelaw17_ShapeMoves.j3 kj80 a3 bt303.2.2.2.2 bt309.2.2.2 (decide (a3 ≥ (l0_0.length : Int))) l0_0 l0_1 l0_2 a5_0 a5_1 a5_2 a5_3 t240 t243 t246 bt303.1 bt303.2.1 bt303.2.2.1 bt303.2.2.2.1 bt309.1 bt309.2.1 bt309.2.2.1)))) = some r := by rw [if_neg (show ¬ (false = true) by decide)] at H; exact H
          clear H
          have H := H1
          clear H1
          replace H := Option.bind_eq_some_iff.mp H
          obtain ⟨⟨t303, t304, t305, t306, t307⟩, A1440, H⟩ := H
          replace H : ((shape_Set.f l0_0 l0_1 l0_2 a3 a5_0 a5_1 a5_2 a5_3).bind fun bt309 => (if a3 < 0 then (garderobelaw17_ShapeMoves.j3 kj80 a3 t307 bt309.2.2.2 true l0_0 l0_1 l0_2 a5_0 a5_1 a5_2 a5_3 t240 t243 t246 t303 t304 t305 t306 bt309.1 bt309.2.1 bt309.2.2.1) else (garderobelaw17_ShapeMoves.j3 kj80 a3 t307 bt309.2.2.2 (decide (a3 ≥ (l0_0.length : Int))) l0_0 l0_1 l0_2 a5_0 a5_1 a5_2 a5_3 t240 t243 t246 t303 t304 t305 t306 bt309.1 bt309.2.1 bt309.2.2.1))) = some r := H
          have A144 := Aside0.mk A1440
          clear A1440
          replace H := Option.bind_eq_some_iff.mp H
          obtain ⟨⟨t309, t312, t315, t318⟩, A1450, H⟩ := H
          replace H : (if a3 < 0 then (garderobelaw17_ShapeMoves.j3 kj80 a3 t307 t318 true l0_0 l0_1 l0_2 a5_0 a5_1 a5_2 a5_3 t240 t243 t246 t303 t304 t305 t306 t309 t312 t315) else (garderobelaw17_ShapeMoves.j3 kj80 a3 t307 t318 (decide (a3 ≥ (l0_0.length : Int))) l0_0 l0_1 l0_2 a5_0 a5_1 a5_2 a5_3 t240 t243 t246 t303 t304 t305 t306 t309 t312 t315)) = some r := H
          have A145 := Aside0.mk A1450
          clear A1450
          have HC146 := Aside0.mk H
          clear H
          have hnb147 := NB236_237.out
          have hnc147 := NB237_236.out
          have hnb148 := NB236_249.out
          have hnc148 := NB249_236.out
          have hcz149_0 : wc.cell? ⟨gb236, 0, none⟩ = some (.slice A0_0 l0_0.length c0_0) := (blk_cell BK236.out 0).trans rfl
          have hcz149_1 : wc.cell? ⟨gb236, 1, none⟩ = some (.slice A0_1 l0_1.length c0_1) := (blk_cell BK236.out 1).trans rfl
          have hcz149_2 : wc.cell? ⟨gb236, 2, none⟩ = some (.slice A0_2 l0_2.length c0_2) := (blk_cell BK236.out 2).trans rfl
          have hfz149_0 := blk_frozen BK236.out 0
          have hfz149_1 := blk_frozen BK236.out 1
          have hfz149_2 := blk_frozen BK236.out 2
          go_upto_region 14 with (first | ((with_reducible refine gate_callee (f := 26) rfl ?_); refine goesL_ (some 90) rfl rfl Try.func26 (by kernel_rfl) rfl #[.agg #[.slice A0_0 l0_0.length c0_0, .slice A0_1 l0_1.length c0_1, .slice A0_2 l0_2.length c0_2], .int .i64 a3] rfl (by (try simp only [List.map_toArray, List.map_cons, List.map_nil]); first | done | rfl | (simp only [List.length_drop, List.length_take]; rfl)) ?_; (with_reducible refine (shape_Get.calls _ _ l0_0 _ _ l0_1 _ _ l0_2 a3 t303 t304 t305 t306 t307 _ ?side1 ?side2 ?side3 ?side4 ?side5 ?side6 A144.out).mono ?_); (case side1 => exact qC (Kd.C_below HR0_0.out HB.out)); (case side2 => exact HC0_0.out); (case side3 => exact qC (Kd.C_below HR0_1.out HB.out)); (case side4 => exact HC0_1.out); (case side5 => exact qC (Kd.C_below HR0_2.out HB.out)); (case side6 => exact HC0_2.out); rintro e w150 ⟨rfl, hb⟩; refine ⟨_, rfl, ?_⟩; have n0_ := Aside0.mk (Kd.R_below (qR HO_250000.out) hb); have n1_ := Aside0.mk (Kd.R_below (qR HO_250001.out) hb); have n2_ := Aside0.mk (Kd.R_below (qR HO_250002.out) hb); have n3_ := Aside0.mk (blk_below (qb BK236.out) hb); have n4_ := Aside0.mk (blk_below (qb BK237.out) hb); have n5_ := Aside0.mk (blk_below (qb BK249.out) hb); have n6_ := Aside0.mk (below_step (qW HB.out) hb); clear HO_250000 HO_250001 HO_250002 BK236 BK237 BK249 HB; have HO_250000 := n0_; have HO_250001 := n1_; have HO_250002 := n2_; have BK236 := n3_; have BK237 := n4_; have BK249 := n5_; have HB := n6_; clear n0_ n1_ n2_ n3_ n4_ n5_ n6_; (try clear hb); (try clear hb2); (try clear hk); (try clear hi)) | ((with_reducible refine gate_dst (N := 22) rfl ?_); (try (refine gate_guard (by rfl) ?_; dsimp only)); refine box_event ?hg (N := 22) ?hd (cs := #[.int .u8 0, .int .u8 0, .int .u16 0, .int .i64 0]) (t := 56) ?hr ?_; (case hd => rfl); (case hg => rfl); (case hr => first | (go_simp; done) | (go_simp; rfl)); intro gb308 hg w151 hbox hb; have n0_ := Aside0.mk (Kd.R_below (Kd.R_elderB (qR HO_250000.out) gb308 (Nat.le_of_eq hg.symm)) hb); have n1_ := Aside0.mk (Kd.R_below (Kd.R_elderB (qR HO_250001.out) gb308 (Nat.le_of_eq hg.symm)) hb); have n2_ := Aside0.mk (Kd.R_below (qR HO_250002.out) hb); have n3_ := Aside0.mk (blk_below (qb BK236.out) hb); have n4_ := Aside0.mk (blk_below (qb BK237.out) hb); have n5_ := Aside0.mk (blk_below (qb BK249.out) hb); have n6_ := Aside0.mk (below_step (qW HB.out) hb); have n7_ := Aside0.mk (hbox); have n8_ := Aside0.mk ((by rw [hg]; exact (below_size (qW HB.out)) : w.heap.size ≤ gb308)); have n9_ := Aside0.mk ((by rw [hg]; exact (below_size (qW HB.out)) : w.heap.size ≤ gb308)); have n10_ := Aside0.mk ((by rw [hg]; exact Nat.ne_of_lt (blk_lt (qb BK236.out)) : gb236 ≠ gb308)); have n11_ := Aside0.mk ((by rw [hg]; exact Nat.ne_of_gt (blk_lt (qb BK236.out)) : gb308 ≠ gb236)); have n12_ := Aside0.mk ((by rw [hg]; exact Nat.ne_of_lt (blk_lt (qb BK237.out)) : gb237 ≠ gb308)); have n13_ := Aside0.mk ((by rw [hg]; exact Nat.ne_of_gt (blk_lt (qb BK237.out)) : gb308 ≠ gb237)); have n14_ := Aside0.mk ((by rw [hg]; exact Nat.ne_of_lt (blk_lt (qb BK249.out)) : gb249 ≠ gb308)); have n15_ := Aside0.mk ((by rw [hg]; exact Nat.ne_of_gt (blk_lt (qb BK249.out)) : gb308 ≠ gb249)); clear HO_250000 HO_250001 HO_250002 BK236 BK237 BK249 HB; have HO_250000 := n0_; have HO_250001 := n1_; have HO_250002 := n2_; have BK236 := n3_; have BK237 := n4_; have BK249 := n5_; have HB := n6_; have BK308 := n7_; have GW308 := n8_; have GE308 := n9_; have NB236_308 := n10_; have NB308_236 := n11_; have NB237_308 := n12_; have NB308_237 := n13_; have NB249_308 := n14_; have NB308_249 := n15_; clear n0_ n1_ n2_ n3_ n4_ n5_ n6_ n7_ n8_ n9_ n10_ n11_ n12_ n13_ n14_ n15_; clear hb hbox hg; have hnb152 := NB308_236.out; have hnc152 := NB236_308.out; have hnb153 := NB308_237.out; have hnc153 := NB237_308.out; have hnb154 := NB308_249.out; have hnc154 := NB249_308.out; have hcz155_0 : w151.cell? ⟨gb308, 0, none⟩ = some (.int .u8 0) := (blk_cell BK308.out 0).trans rfl; have hcz155_1 : w151.cell? ⟨gb308, 1, none⟩ = some (.int .u8 0) := (blk_cell BK308.out 1).trans rfl; have hcz155_2 : w151.cell? ⟨gb308, 2, none⟩ = some (.int .u16 0) := (blk_cell BK308.out 2).trans rfl; have hcz155_3 : w151.cell? ⟨gb308, 3, none⟩ = some (.int .i64 0) := (blk_cell BK308.out 3).trans rfl; have hfz155_0 := blk_frozen BK308.out 0; have hfz155_1 := blk_frozen BK308.out 1; have hfz155_2 := blk_frozen BK308.out 2; have hfz155_3 := blk_frozen BK308.out 3; have hcz156_0 : w151.cell? ⟨gb236, 0, none⟩ = some (.slice A0_0 l0_0.length c0_0) := (blk_cell BK236.out 0).trans rfl; have hcz156_1 : w151.cell? ⟨gb236, 1, none⟩ = some (.slice A0_1 l0_1.length c0_1) := (blk_cell BK236.out 1).trans rfl; have hcz156_2 : w151.cell? ⟨gb236, 2, none⟩ = some (.slice A0_2 l0_2.length c0_2) := (blk_cell BK236.out 2).trans rfl; have hfz156_0 := blk_frozen BK236.out 0; have hfz156_1 := blk_frozen BK236.out 1; have hfz156_2 := blk_frozen BK236.out 2; have hnb157 := NB237_249.out; have hnc157 := NB249_237.out; have hcz158_0 : w151.cell? ⟨gb237, 0, none⟩ = some (.int .u8 a5_0) := (blk_cell BK237.out 0).trans rfl; have hcz158_1 : w151.cell? ⟨gb237, 1, none⟩ = some (.int .u8 a5_1) := (blk_cell BK237.out 1).trans rfl; have hcz158_2 : w151.cell? ⟨gb237, 2, none⟩ = some (.int .u16 a5_2) := (blk_cell BK237.out 2).trans rfl; have hcz158_3 : w151.cell? ⟨gb237, 3, none⟩ = some (.int .i64 a5_3) := (blk_cell BK237.out 3).trans rfl; have hfz158_0 := blk_frozen BK237.out 0; have hfz158_1 := blk_frozen BK237.out 1; have hfz158_2 := blk_frozen BK237.out 2; have hfz158_3 := blk_frozen BK237.out 3) | ((with_reducible refine gate_callee (f := 27) rfl ?_); refine goesL_ (some 97) rfl rfl Try.func27 (by kernel_rfl) rfl #[.agg #[.slice A0_0 l0_0.length c0_0, .slice A0_1 l0_1.length c0_1, .slice A0_2 l0_2.length c0_2], .int .i64 a3, .agg #[.int .u8 a5_0, .int .u8 a5_1, .int .u16 a5_2, .int .i64 a5_3]] rfl (by (try simp only [List.map_toArray, List.map_cons, List.map_nil]); first | done | rfl | (simp only [List.length_drop, List.length_take]; rfl)) ?_; (with_reducible refine (shape_Set.calls _ _ l0_0 _ _ l0_1 _ _ l0_2 a3 a5_0 a5_1 a5_2 a5_3 t309 t312 t315 t318 _ ?side1 ?side2 ?side3 ?side4 ?side5 ?side6 A145.out).mono ?_); (case side1 => exact Kd.C_below HR0_0.out (qW HB.out)); (case side2 => exact HC0_0.out); (case side3 => exact Kd.C_below HR0_1.out (qW HB.out)); (case side4 => exact HC0_1.out); (case side5 => exact Kd.C_below HR0_2.out (qW HB.out)); (case side6 => exact HC0_2.out); rintro e w159 ⟨v310, v313, v316, rfl, ho0, ho1, ho2, hb⟩; refine ⟨_, rfl, ?_⟩; have n0_ := Aside0.mk (Kd.R_mono (Kd.R_told (Kd.R_told (Kd.R_old (qR (Kd.R_mono (Kd.R_far (p := ⟨gb308, 3, none⟩) (Kd.R_far (p := ⟨gb308, 2, none⟩) (Kd.R_far (p := ⟨gb308, 1, none⟩) (Kd.R_far (p := ⟨gb308, 0, none⟩) (Kd.R_mono HO_250000.out (fun k_ hk => (⟨hk, hk.2⟩ : _ ∧ k_ ≠ gb308))) (fun _ hk => hk.2) (.int .u8 t303)) (fun _ hk => hk.2) (.int .u8 t304)) (fun _ hk => hk.2) (.int .u16 t305)) (fun _ hk => hk.2) (.int .i64 t306)) (fun _ h_ => h_.1))) hb) (Kd.R_base ho0)) (Kd.R_base ho1)) (fun _ h_ => h_.1)); have n1_ := Aside0.mk (Kd.R_mono (Kd.R_told (Kd.R_told (Kd.R_old (qR (Kd.R_mono (Kd.R_far (p := ⟨gb308, 3, none⟩) (Kd.R_far (p := ⟨gb308, 2, none⟩) (Kd.R_far (p := ⟨gb308, 1, none⟩) (Kd.R_far (p := ⟨gb308, 0, none⟩) (Kd.R_mono HO_250001.out (fun k_ hk => (⟨hk, hk.2⟩ : _ ∧ k_ ≠ gb308))) (fun _ hk => hk.2) (.int .u8 t303)) (fun _ hk => hk.2) (.int .u8 t304)) (fun _ hk => hk.2) (.int .u16 t305)) (fun _ hk => hk.2) (.int .i64 t306)) (fun _ h_ => h_.1))) hb) (Kd.R_base ho0)) (Kd.R_base ho1)) (fun _ h_ => h_.1)); have n2_ := Aside0.mk (Kd.R_elder' (qR (Kd.R_mono (Kd.R_far (p := ⟨gb308, 3, none⟩) (Kd.R_far (p := ⟨gb308, 2, none⟩) (Kd.R_far (p := ⟨gb308, 1, none⟩) (Kd.R_far (p := ⟨gb308, 0, none⟩) (Kd.R_types HO_250002.out BK308.out (by decide)) (fun _ hk => hk.2) (.int .u8 t303)) (fun _ hk => hk.2) (.int .u8 t304)) (fun _ hk => hk.2) (.int .u16 t305)) (fun _ hk => hk.2) (.int .i64 t306)) (fun _ h_ => h_.1))) (Kd.R_base ho2) hb); have n3_ := Aside0.mk (Kd.R_lower (Kd.R_newB (Kd.R_newB (Kd.R_new' (Kd.R_new' ho0 (Kd.R_lt (qR (Kd.R_mono (Kd.R_far (p := ⟨gb308, 3, none⟩) (Kd.R_far (p := ⟨gb308, 2, none⟩) (Kd.R_far (p := ⟨gb308, 1, none⟩) (Kd.R_far (p := ⟨gb308, 0, none⟩) (Kd.R_mono HO_250000.out (fun k_ hk => (⟨hk, hk.2⟩ : _ ∧ k_ ≠ gb308))) (fun _ hk => hk.2) (.int .u8 t303)) (fun _ hk => hk.2) (.int .u8 t304)) (fun _ hk => hk.2) (.int .u16 t305)) (fun _ hk => hk.2) (.int .i64 t306)) (fun _ h_ => h_.1))))) (Kd.R_lt (qR (Kd.R_mono (Kd.R_far (p := ⟨gb308, 3, none⟩) (Kd.R_far (p := ⟨gb308, 2, none⟩) (Kd.R_far (p := ⟨gb308, 1, none⟩) (Kd.R_far (p := ⟨gb308, 0, none⟩) (Kd.R_mono HO_250001.out (fun k_ hk => (⟨hk, hk.2⟩ : _ ∧ k_ ≠ gb308))) (fun _ hk => hk.2) (.int .u8 t303)) (fun _ hk => hk.2) (.int .u8 t304)) (fun _ hk => hk.2) (.int .u16 t305)) (fun _ hk => hk.2) (.int .i64 t306)) (fun _ h_ => h_.1))))) (qf BK237.out)) (g := gb308) (o := .cells #[.int .u8 t303, .int .u8 t304, .int .u16 t305, .int .i64 t306] 56 (0, 0)) (by (with_reducible repeat (first | refine blk_drewN ?_ _ | refine blk_drew ?_ | refine blk_alloc ?_ _)); refine blk_put (cs := #[.int .u8 t303, .int .u8 t304, .int .u16 t305, .int .i64 0]) ?_ 3 _ rfl; (with_reducible repeat (first | refine blk_drewN ?_ _ | refine blk_drew ?_ | refine blk_alloc ?_ _)); refine blk_put (cs := #[.int .u8 t303, .int .u8 t304, .int .u16 0, .int .i64 0]) ?_ 2 _ rfl; (with_reducible repeat (first | refine blk_drewN ?_ _ | refine blk_drew ?_ | refine blk_alloc ?_ _)); refine blk_put (cs := #[.int .u8 t303, .int .u8 0, .int .u16 0, .int .i64 0]) ?_ 1 _ rfl; (with_reducible repeat (first | refine blk_drewN ?_ _ | refine blk_drew ?_ | refine blk_alloc ?_ _)); refine blk_put (cs := #[.int .u8 0, .int .u8 0, .int .u16 0, .int .i64 0]) ?_ 0 _ rfl; (with_reducible repeat (first | refine blk_drewN ?_ _ | refine blk_drew ?_ | refine blk_alloc ?_ _)); exact BK308.out)) (below_size (qW HB.out))); have n4_ := Aside0.mk (Kd.R_lower (Kd.R_newB (Kd.R_newB (Kd.R_new' (Kd.R_new' ho1 (Kd.R_lt (qR (Kd.R_mono (Kd.R_far (p := ⟨gb308, 3, none⟩) (Kd.R_far (p := ⟨gb308, 2, none⟩) (Kd.R_far (p := ⟨gb308, 1, none⟩) (Kd.R_far (p := ⟨gb308, 0, none⟩) (Kd.R_mono HO_250000.out (fun k_ hk => (⟨hk, hk.2⟩ : _ ∧ k_ ≠ gb308))) (fun _ hk => hk.2) (.int .u8 t303)) (fun _ hk => hk.2) (.int .u8 t304)) (fun _ hk => hk.2) (.int .u16 t305)) (fun _ hk => hk.2) (.int .i64 t306)) (fun _ h_ => h_.1))))) (Kd.R_lt (qR (Kd.R_mono (Kd.R_far (p := ⟨gb308, 3, none⟩) (Kd.R_far (p := ⟨gb308, 2, none⟩) (Kd.R_far (p := ⟨gb308, 1, none⟩) (Kd.R_far (p := ⟨gb308, 0, none⟩) (Kd.R_mono HO_250001.out (fun k_ hk => (⟨hk, hk.2⟩ : _ ∧ k_ ≠ gb308))) (fun _ hk => hk.2) (.int .u8 t303)) (fun _ hk => hk.2) (.int .u8 t304)) (fun _ hk => hk.2) (.int .u16 t305)) (fun _ hk => hk.2) (.int .i64 t306)) (fun _ h_ => h_.1))))) (qf BK237.out)) (g := gb308) (o := .cells #[.int .u8 t303, .int .u8 t304, .int .u16 t305, .int .i64 t306] 56 (0, 0)) (by (with_reducible repeat (first | refine blk_drewN ?_ _ | refine blk_drew ?_ | refine blk_alloc ?_ _)); refine blk_put (cs := #[.int .u8 t303, .int .u8 t304, .int .u16 t305, .int .i64 0]) ?_ 3 _ rfl; (with_reducible repeat (first | refine blk_drewN ?_ _ | refine blk_drew ?_ | refine blk_alloc ?_ _)); refine blk_put (cs := #[.int .u8 t303, .int .u8 t304, .int .u16 0, .int .i64 0]) ?_ 2 _ rfl; (with_reducible repeat (first | refine blk_drewN ?_ _ | refine blk_drew ?_ | refine blk_alloc ?_ _)); refine blk_put (cs := #[.int .u8 t303, .int .u8 0, .int .u16 0, .int .i64 0]) ?_ 1 _ rfl; (with_reducible repeat (first | refine blk_drewN ?_ _ | refine blk_drew ?_ | refine blk_alloc ?_ _)); refine blk_put (cs := #[.int .u8 0, .int .u8 0, .int .u16 0, .int .i64 0]) ?_ 0 _ rfl; (with_reducible repeat (first | refine blk_drewN ?_ _ | refine blk_drew ?_ | refine blk_alloc ?_ _)); exact BK308.out)) (below_size (qW HB.out))); have n5_ := Aside0.mk (Kd.R_lower (Kd.R_new' ho2 (Kd.R_lt (qR (Kd.R_mono (Kd.R_far (p := ⟨gb308, 3, none⟩) (Kd.R_far (p := ⟨gb308, 2, none⟩) (Kd.R_far (p := ⟨gb308, 1, none⟩) (Kd.R_far (p := ⟨gb308, 0, none⟩) (Kd.R_types HO_250002.out BK308.out (by decide)) (fun _ hk => hk.2) (.int .u8 t303)) (fun _ hk => hk.2) (.int .u8 t304)) (fun _ hk => hk.2) (.int .u16 t305)) (fun _ hk => hk.2) (.int .i64 t306)) (fun _ h_ => h_.1))))) (below_size (qW HB.out))); have n6_ := Aside0.mk (blk_below (qf BK236.out) hb); have n7_ := Aside0.mk (blk_below (qf BK237.out) hb); have n8_ := Aside0.mk (blk_below (qf BK249.out) hb); have n9_ := Aside0.mk (blk_below (g := gb308) (o := .cells #[.int .u8 t303, .int .u8 t304, .int .u16 t305, .int .i64 t306] 56 (0, 0)) (by (with_reducible repeat (first | refine blk_drewN ?_ _ | refine blk_drew ?_ | refine blk_alloc ?_ _)); refine blk_put (cs := #[.int .u8 t303, .int .u8 t304, .int .u16 t305, .int .i64 0]) ?_ 3 _ rfl; (with_reducible repeat (first | refine blk_drewN ?_ _ | refine blk_drew ?_ | refine blk_alloc ?_ _)); refine blk_put (cs := #[.int .u8 t303, .int .u8 t304, .int .u16 0, .int .i64 0]) ?_ 2 _ rfl; (with_reducible repeat (first | refine blk_drewN ?_ _ | refine blk_drew ?_ | refine blk_alloc ?_ _)); refine blk_put (cs := #[.int .u8 t303, .int .u8 0, .int .u16 0, .int .i64 0]) ?_ 1 _ rfl; (with_reducible repeat (first | refine blk_drewN ?_ _ | refine blk_drew ?_ | refine blk_alloc ?_ _)); refine blk_put (cs := #[.int .u8 0, .int .u8 0, .int .u16 0, .int .i64 0]) ?_ 0 _ rfl; (with_reducible repeat (first | refine blk_drewN ?_ _ | refine blk_drew ?_ | refine blk_alloc ?_ _)); exact BK308.out) hb); have n10_ := Aside0.mk (below_step (qW HB.out) hb); clear HO_250000 HO_250001 HO_250002 BK236 BK237 BK249 BK308 HB; have HO_250000 := n0_; have HO_250001 := n1_; have HO_250002 := n2_; have HO311 := n3_; have HO314 := n4_; have HO317 := n5_; have BK236 := n6_; have BK237 := n7_; have BK249 := n8_; have BK308 := n9_; have HB := n10_; clear n0_ n1_ n2_ n3_ n4_ n5_ n6_ n7_ n8_ n9_ n10_; (try clear hb); (try clear hb2); (try clear hk); (try clear hi); (try clear ho0); (try clear ho1); (try clear ho2)) | ((with_reducible refine gate_dst (N := 23) rfl ?_); (try (refine gate_guard (by rfl) ?_; dsimp only)); refine box_event ?hg (N := 23) ?hd (cs := #[.slice none 0 0, .slice none 0 0, .slice none 0 0]) (t := 53) ?hr ?_; (case hd => rfl); (case hg => rfl); (case hr => first | (go_simp; done) | (go_simp; rfl)); intro gb319 hg w160 hbox hb; have n0_ := Aside0.mk (Kd.R_below (qR HO_250000.out) hb); have n1_ := Aside0.mk (Kd.R_below (qR HO_250001.out) hb); have n2_ := Aside0.mk (Kd.R_below (qR HO_250002.out) hb); have n3_ := Aside0.mk (Kd.R_below (qR HO311.out) hb); have n4_ := Aside0.mk (Kd.R_below (qR HO314.out) hb); have n5_ := Aside0.mk (Kd.R_below (qR HO317.out) hb); have n6_ := Aside0.mk (blk_below (qb BK236.out) hb); have n7_ := Aside0.mk (blk_below (qb BK237.out) hb); have n8_ := Aside0.mk (blk_below (qb BK249.out) hb); have n9_ := Aside0.mk (blk_below (qb BK308.out) hb); have n10_ := Aside0.mk (below_step (qW HB.out) hb); have n11_ := Aside0.mk (hbox); have n12_ := Aside0.mk ((by rw [hg]; exact (below_size (qW HB.out)) : w.heap.size ≤ gb319)); have n13_ := Aside0.mk ((by rw [hg]; exact (below_size (qW HB.out)) : w.heap.size ≤ gb319)); have n14_ := Aside0.mk ((by rw [hg]; exact Nat.ne_of_lt (blk_lt (qb BK236.out)) : gb236 ≠ gb319)); have n15_ := Aside0.mk ((by rw [hg]; exact Nat.ne_of_gt (blk_lt (qb BK236.out)) : gb319 ≠ gb236)); have n16_ := Aside0.mk ((by rw [hg]; exact Nat.ne_of_lt (blk_lt (qb BK237.out)) : gb237 ≠ gb319)); have n17_ := Aside0.mk ((by rw [hg]; exact Nat.ne_of_gt (blk_lt (qb BK237.out)) : gb319 ≠ gb237)); have n18_ := Aside0.mk ((by rw [hg]; exact Nat.ne_of_lt (blk_lt (qb BK249.out)) : gb249 ≠ gb319)); have n19_ := Aside0.mk ((by rw [hg]; exact Nat.ne_of_gt (blk_lt (qb BK249.out)) : gb319 ≠ gb249)); have n20_ := Aside0.mk ((by rw [hg]; exact Nat.ne_of_lt (blk_lt (qb BK308.out)) : gb308 ≠ gb319)); have n21_ := Aside0.mk ((by rw [hg]; exact Nat.ne_of_gt (blk_lt (qb BK308.out)) : gb319 ≠ gb308)); clear HO_250000 HO_250001 HO_250002 HO311 HO314 HO317 BK236 BK237 BK249 BK308 HB; have HO_250000 := n0_; have HO_250001 := n1_; have HO_250002 := n2_; have HO311 := n3_; have HO314 := n4_; have HO317 := n5_; have BK236 := n6_; have BK237 := n7_; have BK249 := n8_; have BK308 := n9_; have HB := n10_; have BK319 := n11_; have GW319 := n12_; have GE319 := n13_; have NB236_319 := n14_; have NB319_236 := n15_; have NB237_319 := n16_; have NB319_237 := n17_; have NB249_319 := n18_; have NB319_249 := n19_; have NB308_319 := n20_; have NB319_308 := n21_; clear n0_ n1_ n2_ n3_ n4_ n5_ n6_ n7_ n8_ n9_ n10_ n11_ n12_ n13_ n14_ n15_ n16_ n17_ n18_ n19_ n20_ n21_; clear hb hbox hg; obtain ⟨Ao161, co161, eo161⟩ := Kd.R_slice HO311.out; subst eo161; have hnb162 := NB319_236.out; have hnc162 := NB236_319.out; have hnb163 := NB319_237.out; have hnc163 := NB237_319.out; have hnb164 := NB319_249.out; have hnc164 := NB249_319.out; have hnb165 := NB319_308.out; have hnc165 := NB308_319.out; have hcz166_0 : w160.cell? ⟨gb319, 0, none⟩ = some (.slice none 0 0) := (blk_cell BK319.out 0).trans rfl; have hcz166_1 : w160.cell? ⟨gb319, 1, none⟩ = some (.slice none 0 0) := (blk_cell BK319.out 1).trans rfl; have hcz166_2 : w160.cell? ⟨gb319, 2, none⟩ = some (.slice none 0 0) := (blk_cell BK319.out 2).trans rfl; have hfz166_0 := blk_frozen BK319.out 0; have hfz166_1 := blk_frozen BK319.out 1; have hfz166_2 := blk_frozen BK319.out 2; obtain ⟨Ao167, co167, eo167⟩ := Kd.R_slice HO314.out; subst eo167; obtain ⟨Ao168, co168, eo168⟩ := Kd.R_slice HO317.out; subst eo168))
          (try simp only [Act.put, List.setIfInBounds_toArray, List.set_cons_zero, List.set_cons_succ])
          go_cut [108] (fun v108 wc => ∃ (kq : Nat) (x108_145 : Bool), v108 = .bool x108_145 ∧ Aside0 (garderobelaw17_ShapeMoves.j3 kq a3 t307 t318 x108_145 l0_0 l0_1 l0_2 a5_0 a5_1 a5_2 a5_3 t240 t243 t246 t303 t304 t305 t306 t309 t312 t315 = some r) ∧ Aside0 (kq ≤ kj80) ∧ Aside0 (Kd.R k56 56 wc w.heap.size (fun k_ => some k_ ≠ ((.slice Ao33 t243.length co33) : Value).ownBlock ∧ some k_ ≠ ((.slice Ao161 t309.length co161) : Value).ownBlock ∧ some k_ ≠ ((.slice Ao167 t312.length co167) : Value).ownBlock ∧ k_ ≠ gb237 ∧ k_ ≠ gb308) (.slice Ao29 t240.length co29) t240) ∧ Aside0 (Kd.R k56 56 wc w.heap.size (fun k_ => some k_ ≠ ((.slice Ao29 t240.length co29) : Value).ownBlock ∧ some k_ ≠ ((.slice Ao161 t309.length co161) : Value).ownBlock ∧ some k_ ≠ ((.slice Ao167 t312.length co167) : Value).ownBlock ∧ k_ ≠ gb237 ∧ k_ ≠ gb308) (.slice Ao33 t243.length co33) t243) ∧ Aside0 (Kd.R (Kd.int .i64) 3 wc w.heap.size (fun k_ => some k_ ≠ ((.slice Ao168 t315.length co168) : Value).ownBlock) (.slice Ao34 t246.length co34) t246) ∧ Aside0 (Kd.R k56 56 wc w.heap.size (fun k_ => some k_ ≠ ((.slice Ao29 t240.length co29) : Value).ownBlock ∧ some k_ ≠ ((.slice Ao33 t243.length co33) : Value).ownBlock ∧ some k_ ≠ ((.slice Ao167 t312.length co167) : Value).ownBlock ∧ k_ ≠ gb237 ∧ k_ ≠ gb308) (.slice Ao161 t309.length co161) t309) ∧ Aside0 (Kd.R k56 56 wc w.heap.size (fun k_ => some k_ ≠ ((.slice Ao29 t240.length co29) : Value).ownBlock ∧ some k_ ≠ ((.slice Ao33 t243.length co33) : Value).ownBlock ∧ some k_ ≠ ((.slice Ao161 t309.length co161) : Value).ownBlock ∧ k_ ≠ gb237 ∧ k_ ≠ gb308) (.slice Ao167 t312.length co167) t312) ∧ Aside0 (Kd.R (Kd.int .i64) 3 wc w.heap.size (fun k_ => some k_ ≠ ((.slice Ao34 t246.length co34) : Value).ownBlock) (.slice Ao168 t315.length co168) t315) ∧ Aside0 (wc.heap[gb236]? = some (.cells #[(.slice A0_0 l0_0.length c0_0), (.slice A0_1 l0_1.length c0_1), (.slice A0_2 l0_2.length c0_2)] 53 (0, 0))) ∧ Aside0 (wc.heap[gb237]? = some (.cells #[.int .u8 a5_0, .int .u8 a5_1, .int .u16 a5_2, .int .i64 a5_3] 56 (0, 0))) ∧ Aside0 (wc.heap[gb249]? = some (.cells #[(.slice Ao29 t240.length co29), (.slice Ao33 t243.length co33), (.slice Ao34 t246.length co34)] 53 (0, 0))) ∧ Aside0 (wc.heap[gb308]? = some (.cells #[.int .u8 t303, .int .u8 t304, .int .u16 t305, .int .i64 t306] 56 (0, 0))) ∧ Aside0 (wc.heap[gb319]? = some (.cells #[(.slice Ao161 t309.length co161), (.slice Ao167 t312.length co167), (.slice Ao168 t315.length co168)] 53 (0, 0))) ∧ Aside0 (Below w.heap.size w wc))
          case first =>
           have H := HC146.out
           clear HC146
           by_cases c169 : a3 < 0
           ·rw [if_pos c169] at H
            have c169b0 : decide (a3 < 0) = true := decide_eq_true c169
            clear c169
            (first | rw [c169b0] | (simp only [i64_w, i32_w]; rw [c169b0]) | skip)
            have H' := Aside0.mk H
            clear H
            go_wp2
            go_meet
            case rel => exact ⟨_, (true), (by first | rfl | (simp; done) | (simp [*]; done)), H', ⟨by have := HJ6.out; have := HJ23.out; have := HJ80.out; first | omega | exact Nat.le_refl _⟩, ⟨by (with_reducible repeat (first | apply Kd.R_alloc | apply Kd.R_drewN | apply Kd.R_drew)); exact Kd.R_mono (Kd.R_far (p := ⟨gb319, 2, none⟩) (Kd.R_far (p := ⟨gb319, 1, none⟩) (Kd.R_far (p := ⟨gb319, 0, none⟩) (Kd.R_types HO_250000.out BK319.out (by decide)) (fun _ hk => hk.2) (.slice Ao161 t309.length co161)) (fun _ hk => hk.2) (.slice Ao167 t312.length co167)) (fun _ hk => hk.2) (.slice Ao168 t315.length co168)) (fun _ hk => ⟨hk.1.1.1.1.1, ⟨hk.1.1.2, ⟨hk.1.2, ⟨hk.1.1.1.1.2, hk.1.1.1.2⟩⟩⟩⟩)⟩, ⟨by (with_reducible repeat (first | apply Kd.R_alloc | apply Kd.R_drewN | apply Kd.R_drew)); exact Kd.R_mono (Kd.R_far (p := ⟨gb319, 2, none⟩) (Kd.R_far (p := ⟨gb319, 1, none⟩) (Kd.R_far (p := ⟨gb319, 0, none⟩) (Kd.R_types HO_250001.out BK319.out (by decide)) (fun _ hk => hk.2) (.slice Ao161 t309.length co161)) (fun _ hk => hk.2) (.slice Ao167 t312.length co167)) (fun _ hk => hk.2) (.slice Ao168 t315.length co168)) (fun _ hk => ⟨hk.1.1.1.1.1, ⟨hk.1.1.2, ⟨hk.1.2, ⟨hk.1.1.1.1.2, hk.1.1.1.2⟩⟩⟩⟩)⟩, ⟨by (with_reducible repeat (first | apply Kd.R_alloc | apply Kd.R_drewN | apply Kd.R_drew)); exact Kd.R_mono (Kd.R_far (p := ⟨gb319, 2, none⟩) (Kd.R_far (p := ⟨gb319, 1, none⟩) (Kd.R_far (p := ⟨gb319, 0, none⟩) (Kd.R_types HO_250002.out BK319.out (by decide)) (fun _ hk => hk.2) (.slice Ao161 t309.length co161)) (fun _ hk => hk.2) (.slice Ao167 t312.length co167)) (fun _ hk => hk.2) (.slice Ao168 t315.length co168)) (fun _ hk => hk.1.2)⟩, ⟨by (with_reducible repeat (first | apply Kd.R_alloc | apply Kd.R_drewN | apply Kd.R_drew)); exact Kd.R_mono (Kd.R_far (p := ⟨gb319, 2, none⟩) (Kd.R_far (p := ⟨gb319, 1, none⟩) (Kd.R_far (p := ⟨gb319, 0, none⟩) (Kd.R_types HO311.out BK319.out (by decide)) (fun _ hk => hk.2) (.slice Ao161 t309.length co161)) (fun _ hk => hk.2) (.slice Ao167 t312.length co167)) (fun _ hk => hk.2) (.slice Ao168 t315.length co168)) (fun _ hk => ⟨hk.1.1.1.1.2, ⟨hk.1.1.1.2, ⟨hk.1.1.1.1.1, ⟨hk.1.1.2, hk.1.2⟩⟩⟩⟩)⟩, ⟨by (with_reducible repeat (first | apply Kd.R_alloc | apply Kd.R_drewN | apply Kd.R_drew)); exact Kd.R_mono (Kd.R_far (p := ⟨gb319, 2, none⟩) (Kd.R_far (p := ⟨gb319, 1, none⟩) (Kd.R_far (p := ⟨gb319, 0, none⟩) (Kd.R_types HO314.out BK319.out (by decide)) (fun _ hk => hk.2) (.slice Ao161 t309.length co161)) (fun _ hk => hk.2) (.slice Ao167 t312.length co167)) (fun _ hk => hk.2) (.slice Ao168 t315.length co168)) (fun _ hk => ⟨hk.1.1.1.1.2, ⟨hk.1.1.1.2, ⟨hk.1.1.1.1.1, ⟨hk.1.1.2, hk.1.2⟩⟩⟩⟩)⟩, ⟨by (with_reducible repeat (first | apply Kd.R_alloc | apply Kd.R_drewN | apply Kd.R_drew)); exact Kd.R_mono (Kd.R_far (p := ⟨gb319, 2, none⟩) (Kd.R_far (p := ⟨gb319, 1, none⟩) (Kd.R_far (p := ⟨gb319, 0, none⟩) (Kd.R_types HO317.out BK319.out (by decide)) (fun _ hk => hk.2) (.slice Ao161 t309.length co161)) (fun _ hk => hk.2) (.slice Ao167 t312.length co167)) (fun _ hk => hk.2) (.slice Ao168 t315.length co168)) (fun _ hk => hk.1.2)⟩, ⟨qf BK236.out⟩, ⟨qf BK237.out⟩, ⟨qf BK249.out⟩, ⟨qf BK308.out⟩, ⟨by (with_reducible repeat (first | refine blk_drewN ?_ _ | refine blk_drew ?_ | refine blk_alloc ?_ _)); refine blk_put (cs := #[.slice Ao161 t309.length co161, .slice Ao167 t312.length co167, .slice none 0 0]) ?_ 2 _ rfl; (with_reducible repeat (first | refine blk_drewN ?_ _ | refine blk_drew ?_ | refine blk_alloc ?_ _)); refine blk_put (cs := #[.slice Ao161 t309.length co161, .slice none 0 0, .slice none 0 0]) ?_ 1 _ rfl; (with_reducible repeat (first | refine blk_drewN ?_ _ | refine blk_drew ?_ | refine blk_alloc ?_ _)); refine blk_put (cs := #[.slice none 0 0, .slice none 0 0, .slice none 0 0]) ?_ 0 _ rfl; (with_reducible repeat (first | refine blk_drewN ?_ _ | refine blk_drew ?_ | refine blk_alloc ?_ _)); exact BK319.out⟩, ⟨qW HB.out⟩⟩
           ·rw [if_neg c169] at H
            have c169b0 : decide (a3 < 0) = false := decide_eq_false c169
            clear c169
            (first | rw [c169b0] | (simp only [i64_w, i32_w]; rw [c169b0]) | skip)
            have H' := Aside0.mk H
            clear H
            have hnb170 := NB236_237.out
            have hnc170 := NB237_236.out
            have hnb171 := NB236_249.out
            have hnc171 := NB249_236.out
            have hnb172 := NB236_308.out
            have hnc172 := NB308_236.out
            have hnb173 := NB236_319.out
            have hnc173 := NB319_236.out
            have hcz174_0 : w160.cell? ⟨gb236, 0, none⟩ = some (.slice A0_0 l0_0.length c0_0) := (blk_cell BK236.out 0).trans rfl
            have hcz174_1 : w160.cell? ⟨gb236, 1, none⟩ = some (.slice A0_1 l0_1.length c0_1) := (blk_cell BK236.out 1).trans rfl
            have hcz174_2 : w160.cell? ⟨gb236, 2, none⟩ = some (.slice A0_2 l0_2.length c0_2) := (blk_cell BK236.out 2).trans rfl
            have hfz174_0 := blk_frozen BK236.out 0
            have hfz174_1 := blk_frozen BK236.out 1
            have hfz174_2 := blk_frozen BK236.out 2
            go_wp2
            go_meet
            case rel => exact ⟨_, (decide (a3 ≥ (l0_0.length : Int))), (by first | rfl | (simp; done) | (simp [*]; done)), H', ⟨by have := HJ6.out; have := HJ23.out; have := HJ80.out; first | omega | exact Nat.le_refl _⟩, ⟨by (with_reducible repeat (first | apply Kd.R_alloc | apply Kd.R_drewN | apply Kd.R_drew)); exact Kd.R_mono (Kd.R_far (p := ⟨gb319, 2, none⟩) (Kd.R_far (p := ⟨gb319, 1, none⟩) (Kd.R_far (p := ⟨gb319, 0, none⟩) (Kd.R_types HO_250000.out BK319.out (by decide)) (fun _ hk => hk.2) (.slice Ao161 t309.length co161)) (fun _ hk => hk.2) (.slice Ao167 t312.length co167)) (fun _ hk => hk.2) (.slice Ao168 t315.length co168)) (fun _ hk => ⟨hk.1.1.1.1.1, ⟨hk.1.1.2, ⟨hk.1.2, ⟨hk.1.1.1.1.2, hk.1.1.1.2⟩⟩⟩⟩)⟩, ⟨by (with_reducible repeat (first | apply Kd.R_alloc | apply Kd.R_drewN | apply Kd.R_drew)); exact Kd.R_mono (Kd.R_far (p := ⟨gb319, 2, none⟩) (Kd.R_far (p := ⟨gb319, 1, none⟩) (Kd.R_far (p := ⟨gb319, 0, none⟩) (Kd.R_types HO_250001.out BK319.out (by decide)) (fun _ hk => hk.2) (.slice Ao161 t309.length co161)) (fun _ hk => hk.2) (.slice Ao167 t312.length co167)) (fun _ hk => hk.2) (.slice Ao168 t315.length co168)) (fun _ hk => ⟨hk.1.1.1.1.1, ⟨hk.1.1.2, ⟨hk.1.2, ⟨hk.1.1.1.1.2, hk.1.1.1.2⟩⟩⟩⟩)⟩, ⟨by (with_reducible repeat (first | apply Kd.R_alloc | apply Kd.R_drewN | apply Kd.R_drew)); exact Kd.R_mono (Kd.R_far (p := ⟨gb319, 2, none⟩) (Kd.R_far (p := ⟨gb319, 1, none⟩) (Kd.R_far (p := ⟨gb319, 0, none⟩) (Kd.R_types HO_250002.out BK319.out (by decide)) (fun _ hk => hk.2) (.slice Ao161 t309.length co161)) (fun _ hk => hk.2) (.slice Ao167 t312.length co167)) (fun _ hk => hk.2) (.slice Ao168 t315.length co168)) (fun _ hk => hk.1.2)⟩, ⟨by (with_reducible repeat (first | apply Kd.R_alloc | apply Kd.R_drewN | apply Kd.R_drew)); exact Kd.R_mono (Kd.R_far (p := ⟨gb319, 2, none⟩) (Kd.R_far (p := ⟨gb319, 1, none⟩) (Kd.R_far (p := ⟨gb319, 0, none⟩) (Kd.R_types HO311.out BK319.out (by decide)) (fun _ hk => hk.2) (.slice Ao161 t309.length co161)) (fun _ hk => hk.2) (.slice Ao167 t312.length co167)) (fun _ hk => hk.2) (.slice Ao168 t315.length co168)) (fun _ hk => ⟨hk.1.1.1.1.2, ⟨hk.1.1.1.2, ⟨hk.1.1.1.1.1, ⟨hk.1.1.2, hk.1.2⟩⟩⟩⟩)⟩, ⟨by (with_reducible repeat (first | apply Kd.R_alloc | apply Kd.R_drewN | apply Kd.R_drew)); exact Kd.R_mono (Kd.R_far (p := ⟨gb319, 2, none⟩) (Kd.R_far (p := ⟨gb319, 1, none⟩) (Kd.R_far (p := ⟨gb319, 0, none⟩) (Kd.R_types HO314.out BK319.out (by decide)) (fun _ hk => hk.2) (.slice Ao161 t309.length co161)) (fun _ hk => hk.2) (.slice Ao167 t312.length co167)) (fun _ hk => hk.2) (.slice Ao168 t315.length co168)) (fun _ hk => ⟨hk.1.1.1.1.2, ⟨hk.1.1.1.2, ⟨hk.1.1.1.1.1, ⟨hk.1.1.2, hk.1.2⟩⟩⟩⟩)⟩, ⟨by (with_reducible repeat (first | apply Kd.R_alloc | apply Kd.R_drewN | apply Kd.R_drew)); exact Kd.R_mono (Kd.R_far (p := ⟨gb319, 2, none⟩) (Kd.R_far (p := ⟨gb319, 1, none⟩) (Kd.R_far (p := ⟨gb319, 0, none⟩) (Kd.R_types HO317.out BK319.out (by decide)) (fun _ hk => hk.2) (.slice Ao161 t309.length co161)) (fun _ hk => hk.2) (.slice Ao167 t312.length co167)) (fun _ hk => hk.2) (.slice Ao168 t315.length co168)) (fun _ hk => hk.1.2)⟩, ⟨qf BK236.out⟩, ⟨qf BK237.out⟩, ⟨qf BK249.out⟩, ⟨qf BK308.out⟩, ⟨by (with_reducible repeat (first | refine blk_drewN ?_ _ | refine blk_drew ?_ | refine blk_alloc ?_ _)); refine blk_put (cs := #[.slice Ao161 t309.length co161, .slice Ao167 t312.length co167, .slice none 0 0]) ?_ 2 _ rfl; (with_reducible repeat (first | refine blk_drewN ?_ _ | refine blk_drew ?_ | refine blk_alloc ?_ _)); refine blk_put (cs := #[.slice Ao161 t309.length co161, .slice none 0 0, .slice none 0 0]) ?_ 1 _ rfl; (with_reducible repeat (first | refine blk_drewN ?_ _ | refine blk_drew ?_ | refine blk_alloc ?_ _)); refine blk_put (cs := #[.slice none 0 0, .slice none 0 0, .slice none 0 0]) ?_ 0 _ rfl; (with_reducible repeat (first | refine blk_drewN ?_ _ | refine blk_drew ?_ | refine blk_alloc ?_ _)); exact BK319.out⟩, ⟨qW HB.out⟩⟩
          case rest =>
           clear HC146
           try clear c1
           try clear c2
           try clear p2
           try clear c3
           try clear c4
           try clear c5
           try clear c6
           try clear c7
           try clear c8
           try clear c9
           try clear c10
           try clear c11
           try clear c12
           try clear c13
           try clear c14
           try clear c15
           try clear c16
           try clear c17
           try clear c18
           try clear c19
           try clear c20
           try clear c21
           try clear c22
           try clear c23
           try clear c24
           try clear c25
           try clear c26
           try clear c27
           try clear c30
           try clear c31
           try clear c39
           try clear c40
           try clear c41
           try clear c49
           try clear c50
           try clear c51
           try clear c52
           try clear c57
           try clear c58
           try clear c59
           try clear c60
           try clear c61
           try clear c63
           try clear c64
           try clear c65
           try clear c68
           try clear c69
           try clear c70
           try clear c71
           try clear c73
           try clear c74
           try clear c75
           try clear c78
           try clear c82
           try clear c83
           try clear c88
           try clear c89
           try clear c90
           try clear c98
           try clear c99
           try clear c100
           try clear c101
           try clear c106
           try clear c108
           try clear c109
           try clear c110
           try clear c111
           try clear c112
           try clear c114
           try clear c115
           try clear c116
           try clear c121
           try clear c122
           try clear c123
           try clear c124
           try clear c126
           try clear c127
           try clear c128
           try clear c133
           try clear c134
           try clear c135
           try clear c136
           try clear c138
           try clear c139
           try clear c140
           try clear c143
           try clear c147
           try clear c148
           try clear c152
           try clear c153
           try clear c154
           try clear c157
           try clear c162
           try clear c163
           try clear c164
           try clear c165
           try clear c169
           try clear c169b0
           try clear c170
           try clear c171
           try clear c172
           try clear c173
           try clear hcz102_0
           try clear hcz102_1
           try clear hcz102_2
           try clear hcz113_0
           try clear hcz113_1
           try clear hcz113_2
           try clear hcz117_0
           try clear hcz117_1
           try clear hcz117_2
           try clear hcz125_0
           try clear hcz125_1
           try clear hcz125_2
           try clear hcz129_0
           try clear hcz129_1
           try clear hcz129_2
           try clear hcz137_0
           try clear hcz137_1
           try clear hcz137_2
           try clear hcz13_0
           try clear hcz13_1
           try clear hcz13_2
           try clear hcz141_0
           try clear hcz141_1
           try clear hcz141_2
           try clear hcz149_0
           try clear hcz149_1
           try clear hcz149_2
           try clear hcz155_0
           try clear hcz155_1
           try clear hcz155_2
           try clear hcz155_3
           try clear hcz156_0
           try clear hcz156_1
           try clear hcz156_2
           try clear hcz158_0
           try clear hcz158_1
           try clear hcz158_2
           try clear hcz158_3
           try clear hcz166_0
           try clear hcz166_1
           try clear hcz166_2
           try clear hcz16_0
           try clear hcz16_1
           try clear hcz16_2
           try clear hcz174_0
           try clear hcz174_1
           try clear hcz174_2
           try clear hcz26_0
           try clear hcz26_1
           try clear hcz26_2
           try clear hcz32_0
           try clear hcz32_1
           try clear hcz32_2
           try clear hcz35_0
           try clear hcz35_1
           try clear hcz35_2
           try clear hcz42_0
           try clear hcz42_1
           try clear hcz42_2
           try clear hcz45_0
           try clear hcz45_1
           try clear hcz45_2
           try clear hcz53_0
           try clear hcz53_1
           try clear hcz53_2
           try clear hcz62_0
           try clear hcz62_1
           try clear hcz62_2
           try clear hcz66_0
           try clear hcz66_1
           try clear hcz66_2
           try clear hcz72_0
           try clear hcz72_1
           try clear hcz72_2
           try clear hcz76_0
           try clear hcz76_1
           try clear hcz76_2
           try clear hcz84_0
           try clear hcz84_1
           try clear hcz84_2
           try clear hcz91_0
           try clear hcz91_1
           try clear hcz91_2
           try clear hcz94_0
           try clear hcz94_1
           try clear hcz94_2
           try clear hfz102_0
           try clear hfz102_1
           try clear hfz102_2
           try clear hfz113_0
           try clear hfz113_1
           try clear hfz113_2
           try clear hfz117_0
           try clear hfz117_1
           try clear hfz117_2
           try clear hfz125_0
           try clear hfz125_1
           try clear hfz125_2
           try clear hfz129_0
           try clear hfz129_1
           try clear hfz129_2
           try clear hfz137_0
           try clear hfz137_1
           try clear hfz137_2
           try clear hfz13_0
           try clear hfz13_1
           try clear hfz13_2
           try clear hfz141_0
           try clear hfz141_1
           try clear hfz141_2
           try clear hfz149_0
           try clear hfz149_1
           try clear hfz149_2
           try clear hfz155_0
           try clear hfz155_1
           try clear hfz155_2
           try clear hfz155_3
           try clear hfz156_0
           try clear hfz156_1
           try clear hfz156_2
           try clear hfz158_0
           try clear hfz158_1
           try clear hfz158_2
           try clear hfz158_3
           try clear hfz166_0
           try clear hfz166_1
           try clear hfz166_2
           try clear hfz16_0
           try clear hfz16_1
           try clear hfz16_2
           try clear hfz174_0
           try clear hfz174_1
           try clear hfz174_2
           try clear hfz26_0
           try clear hfz26_1
           try clear hfz26_2
           try clear hfz32_0
           try clear hfz32_1
           try clear hfz32_2
           try clear hfz35_0
           try clear hfz35_1
           try clear hfz35_2
           try clear hfz42_0
           try clear hfz42_1
           try clear hfz42_2
           try clear hfz45_0
           try clear hfz45_1
           try clear hfz45_2
           try clear hfz53_0
           try clear hfz53_1
           try clear hfz53_2
           try clear hfz62_0
           try clear hfz62_1
           try clear hfz62_2
           try clear hfz66_0
           try clear hfz66_1
           try clear hfz66_2
           try clear hfz72_0
           try clear hfz72_1
           try clear hfz72_2
           try clear hfz76_0
           try clear hfz76_1
           try clear hfz76_2
           try clear hfz84_0
           try clear hfz84_1
           try clear hfz84_2
           try clear hfz91_0
           try clear hfz91_1
           try clear hfz91_2
           try clear hfz94_0
           try clear hfz94_1
           try clear hfz94_2
           try clear p2
           obtain ⟨kq, x108_145, rfl, HA, HJ145, HO_250000, HO_250001, HO_250002, HO_320000, HO_320001, HO_320002, BK236, BK237, BK249, BK308, BK319, HB⟩ := hcut
           cases kq with
           | zero => exact absurd HA.out (by simp [garderobelaw17_ShapeMoves.j3])
           | succ kj145 =>
            have H := HA.out
            clear HA
            simp only [garderobelaw17_ShapeMoves.j3] at H
            by_cases c175 : x108_145 = true
            ·subst c175
             have H1 : (if t307 = 9 then (if t318 = 9 then ((garderoberef17_Same.f kj145 t309 t312 t315 ([] : List (S56)) ([] : List (S56)) ([] : List Int)).bind fun t320 => (if t320 = true then ((garderoberef17_Same.f kj145 l0_0 l0_1 l0_2 t240 t243 t246).bind fun t321 => (if t321 = true then ((garderobelaw17_lives.f).bind fun t322 => (some t322)) else (none))) else (none))) else (none)) else (none)) = some r := by rw [if_pos rfl] at H; exact H
             clear H
             have H := H1
             clear H1
             by_cases c176 : t307 = 9
             ·rw [if_pos c176] at H
              have c176b0 : (t307 == 9) = true := beq_iff_eq.mpr c176
              have c176b1 : (t307 != 9) = false := bne_eq_false_iff_eq.mpr c176
              clear c176
              by_cases c177 : t318 = 9
              ·rw [if_pos c177] at H
               have c177b0 : (t318 == 9) = true := beq_iff_eq.mpr c177
               have c177b1 : (t318 != 9) = false := bne_eq_false_iff_eq.mpr c177
               clear c177
               replace H := Option.bind_eq_some_iff.mp H
               obtain ⟨t320, A1780, H⟩ := H
               replace H : (if t320 = true then ((garderoberef17_Same.f kj145 l0_0 l0_1 l0_2 t240 t243 t246).bind fun t321 => (if t321 = true then ((garderobelaw17_lives.f).bind fun t322 => (some t322)) else (none))) else (none)) = some r := H
               have A178 := Aside0.mk A1780
               clear A1780
               by_cases c179 : t320 = true
               ·subst c179
                have H1 : ((garderoberef17_Same.f kj145 l0_0 l0_1 l0_2 t240 t243 t246).bind fun t321 => (if t321 = true then ((garderobelaw17_lives.f).bind fun t322 => (some t322)) else (none))) = some r := by rw [if_pos rfl] at H; exact H
                clear H
                have H := H1
                clear H1
                replace H := Option.bind_eq_some_iff.mp H
                obtain ⟨t321, A1800, H⟩ := H
                replace H : (if t321 = true then ((garderobelaw17_lives.f).bind fun t322 => (some t322)) else (none)) = some r := H
                have A180 := Aside0.mk A1800
                clear A1800
                by_cases c181 : t321 = true
                ·subst c181
                 have H1 : ((garderobelaw17_lives.f).bind fun t322 => (some t322)) = some r := by rw [if_pos rfl] at H; exact H
                 clear H
                 have H := H1
                 clear H1
                 replace H := Option.bind_eq_some_iff.mp H
                 obtain ⟨t322, A1820, H⟩ := H
                 replace H : (some t322) = some r := H
                 have A182 := Aside0.mk A1820
                 clear A1820
                 obtain rfl := Option.some.inj H
                 have hnb183 := NB319_236.out
                 have hnc183 := NB236_319.out
                 have hnb184 := NB319_237.out
                 have hnc184 := NB237_319.out
                 have hnb185 := NB319_249.out
                 have hnc185 := NB249_319.out
                 have hnb186 := NB319_308.out
                 have hnc186 := NB308_319.out
                 have hcz187_0 : wc.cell? ⟨gb319, 0, none⟩ = some (.slice Ao161 t309.length co161) := (blk_cell BK319.out 0).trans rfl
                 have hcz187_1 : wc.cell? ⟨gb319, 1, none⟩ = some (.slice Ao167 t312.length co167) := (blk_cell BK319.out 1).trans rfl
                 have hcz187_2 : wc.cell? ⟨gb319, 2, none⟩ = some (.slice Ao168 t315.length co168) := (blk_cell BK319.out 2).trans rfl
                 have hfz187_0 := blk_frozen BK319.out 0
                 have hfz187_1 := blk_frozen BK319.out 1
                 have hfz187_2 := blk_frozen BK319.out 2
                 go_wp2_with (first | (go_at_call 22; (refine (garderoberef17_Same.calls kj145 _ _ t309 _ _ t312 _ _ t315 _ _ ([] : List (S56)) _ _ ([] : List (S56)) _ _ ([] : List Int) true _ ?side1 ?side2 ?side3 ?side4 ?side5 ?side6 ?side7 ?side8 ?side9 ?side10 ?side11 ?side12 A178.out).mono ?_); (case side1 => exact qC (Kd.R_reads' HO_320000.out).2.2); (case side2 => exact (Kd.R_reads' HO_320000.out).2.1); (case side3 => exact qC (Kd.R_reads' HO_320001.out).2.2); (case side4 => exact (Kd.R_reads' HO_320001.out).2.1); (case side5 => exact qC (Kd.R_reads' HO_320002.out).2.2); (case side6 => exact (Kd.R_reads' HO_320002.out).2.1); (case side7 => exact Kd.C_nil _ _); (case side8 => exact Nat.le_refl _); (case side9 => exact Kd.C_nil _ _); (case side10 => exact Nat.le_refl _); (case side11 => exact Kd.C_nil _ _); (case side12 => exact Nat.le_refl _); rintro e w188 ⟨rfl, hb⟩; clear A178; have n0_ := Aside0.mk (Kd.R_below (qR HO_250000.out) hb); have n1_ := Aside0.mk (Kd.R_below (qR HO_250001.out) hb); have n2_ := Aside0.mk (Kd.R_below (qR HO_250002.out) hb); have n3_ := Aside0.mk (Kd.R_below (qR HO_320000.out) hb); have n4_ := Aside0.mk (Kd.R_below (qR HO_320001.out) hb); have n5_ := Aside0.mk (Kd.R_below (qR HO_320002.out) hb); have n6_ := Aside0.mk (blk_below (qb BK236.out) hb); have n7_ := Aside0.mk (blk_below (qb BK237.out) hb); have n8_ := Aside0.mk (blk_below (qb BK249.out) hb); have n9_ := Aside0.mk (blk_below (qb BK308.out) hb); have n10_ := Aside0.mk (blk_below (qb BK319.out) hb); have n11_ := Aside0.mk (below_step (qW HB.out) hb); clear HO_250000 HO_250001 HO_250002 HO_320000 HO_320001 HO_320002 BK236 BK237 BK249 BK308 BK319 HB; have HO_250000 := n0_; have HO_250001 := n1_; have HO_250002 := n2_; have HO_320000 := n3_; have HO_320001 := n4_; have HO_320002 := n5_; have BK236 := n6_; have BK237 := n7_; have BK249 := n8_; have BK308 := n9_; have BK319 := n10_; have HB := n11_; clear n0_ n1_ n2_ n3_ n4_ n5_ n6_ n7_ n8_ n9_ n10_ n11_; (try clear hb); (try clear hb2); (try clear hk); (try clear hi); have hnb189 := NB236_237.out; have hnc189 := NB237_236.out; have hnb190 := NB236_249.out; have hnc190 := NB249_236.out; have hnb191 := NB236_308.out; have hnc191 := NB308_236.out; have hcz192_0 : w188.cell? ⟨gb236, 0, none⟩ = some (.slice A0_0 l0_0.length c0_0) := (blk_cell BK236.out 0).trans rfl; have hcz192_1 : w188.cell? ⟨gb236, 1, none⟩ = some (.slice A0_1 l0_1.length c0_1) := (blk_cell BK236.out 1).trans rfl; have hcz192_2 : w188.cell? ⟨gb236, 2, none⟩ = some (.slice A0_2 l0_2.length c0_2) := (blk_cell BK236.out 2).trans rfl; have hfz192_0 := blk_frozen BK236.out 0; have hfz192_1 := blk_frozen BK236.out 1; have hfz192_2 := blk_frozen BK236.out 2; have hnb193 := NB249_237.out; have hnc193 := NB237_249.out; have hnb194 := NB249_308.out; have hnc194 := NB308_249.out; have hcz195_0 : w188.cell? ⟨gb249, 0, none⟩ = some (.slice Ao29 t240.length co29) := (blk_cell BK249.out 0).trans rfl; have hcz195_1 : w188.cell? ⟨gb249, 1, none⟩ = some (.slice Ao33 t243.length co33) := (blk_cell BK249.out 1).trans rfl; have hcz195_2 : w188.cell? ⟨gb249, 2, none⟩ = some (.slice Ao34 t246.length co34) := (blk_cell BK249.out 2).trans rfl; have hfz195_0 := blk_frozen BK249.out 0; have hfz195_1 := blk_frozen BK249.out 1; have hfz195_2 := blk_frozen BK249.out 2) | (go_at_call 22; (with_reducible refine (garderoberef17_Same.calls kj145 _ _ l0_0 _ _ l0_1 _ _ l0_2 _ _ t240 _ _ t243 _ _ t246 true _ ?side1 ?side2 ?side3 ?side4 ?side5 ?side6 ?side7 ?side8 ?side9 ?side10 ?side11 ?side12 A180.out).mono ?_); (case side1 => exact qC (Kd.C_below HR0_0.out HB.out)); (case side2 => exact HC0_0.out); (case side3 => exact qC (Kd.C_below HR0_1.out HB.out)); (case side4 => exact HC0_1.out); (case side5 => exact qC (Kd.C_below HR0_2.out HB.out)); (case side6 => exact HC0_2.out); (case side7 => exact qC (Kd.R_reads' HO_250000.out).2.2); (case side8 => exact (Kd.R_reads' HO_250000.out).2.1); (case side9 => exact qC (Kd.R_reads' HO_250001.out).2.2); (case side10 => exact (Kd.R_reads' HO_250001.out).2.1); (case side11 => exact qC (Kd.R_reads' HO_250002.out).2.2); (case side12 => exact (Kd.R_reads' HO_250002.out).2.1); rintro e w196 ⟨rfl, hb⟩; clear A180; have n0_ := Aside0.mk (Kd.R_below (qR HO_250000.out) hb); have n1_ := Aside0.mk (Kd.R_below (qR HO_250001.out) hb); have n2_ := Aside0.mk (Kd.R_below (qR HO_250002.out) hb); have n3_ := Aside0.mk (Kd.R_below (qR HO_320000.out) hb); have n4_ := Aside0.mk (Kd.R_below (qR HO_320001.out) hb); have n5_ := Aside0.mk (Kd.R_below (qR HO_320002.out) hb); have n6_ := Aside0.mk (blk_below (qb BK236.out) hb); have n7_ := Aside0.mk (blk_below (qb BK237.out) hb); have n8_ := Aside0.mk (blk_below (qb BK249.out) hb); have n9_ := Aside0.mk (blk_below (qb BK308.out) hb); have n10_ := Aside0.mk (blk_below (qb BK319.out) hb); have n11_ := Aside0.mk (below_step (qW HB.out) hb); clear HO_250000 HO_250001 HO_250002 HO_320000 HO_320001 HO_320002 BK236 BK237 BK249 BK308 BK319 HB; have HO_250000 := n0_; have HO_250001 := n1_; have HO_250002 := n2_; have HO_320000 := n3_; have HO_320001 := n4_; have HO_320002 := n5_; have BK236 := n6_; have BK237 := n7_; have BK249 := n8_; have BK308 := n9_; have BK319 := n10_; have HB := n11_; clear n0_ n1_ n2_ n3_ n4_ n5_ n6_ n7_ n8_ n9_ n10_ n11_; (try clear hb); (try clear hb2); (try clear hk); (try clear hi)) | (go_at_call 18; (with_reducible refine (garderobelaw17_lives.calls  t322 _ A182.out).mono ?_); rintro e w197 ⟨rfl, hb⟩; have n0_ := Aside0.mk (Kd.R_below (qR HO_250000.out) hb); have n1_ := Aside0.mk (Kd.R_below (qR HO_250001.out) hb); have n2_ := Aside0.mk (Kd.R_below (qR HO_250002.out) hb); have n3_ := Aside0.mk (Kd.R_below (qR HO_320000.out) hb); have n4_ := Aside0.mk (Kd.R_below (qR HO_320001.out) hb); have n5_ := Aside0.mk (Kd.R_below (qR HO_320002.out) hb); have n6_ := Aside0.mk (blk_below (qb BK236.out) hb); have n7_ := Aside0.mk (blk_below (qb BK237.out) hb); have n8_ := Aside0.mk (blk_below (qb BK249.out) hb); have n9_ := Aside0.mk (blk_below (qb BK308.out) hb); have n10_ := Aside0.mk (blk_below (qb BK319.out) hb); have n11_ := Aside0.mk (below_step (qW HB.out) hb); clear HO_250000 HO_250001 HO_250002 HO_320000 HO_320001 HO_320002 BK236 BK237 BK249 BK308 BK319 HB; have HO_250000 := n0_; have HO_250001 := n1_; have HO_250002 := n2_; have HO_320000 := n3_; have HO_320001 := n4_; have HO_320002 := n5_; have BK236 := n6_; have BK237 := n7_; have BK249 := n8_; have BK308 := n9_; have BK319 := n10_; have HB := n11_; clear n0_ n1_ n2_ n3_ n4_ n5_ n6_ n7_ n8_ n9_ n10_ n11_; (try clear hb); (try clear hb2); (try clear hk); (try clear hi)))
                 go_ret
                 exact ⟨by first | rfl | (simp [errW_none, errW_some] <;> rfl) | (simp [*, errW_none, errW_some] <;> rfl), by repeat (first | (with_reducible first | exact HB.out | apply below_alloc | apply pw_below_drewN | apply below_drew1 | refine below_set ?_ GE236.out | refine below_set ?_ GE237.out | refine below_set ?_ GE249.out | refine below_set ?_ GE308.out | refine below_set ?_ GE319.out) | exact HB.out)⟩
                ·replace c181 := Bool.eq_false_iff.mpr c181
                 subst c181
                 have H1 : (none) = some r := by rw [if_neg (show ¬ (false = true) by decide)] at H; exact H
                 clear H
                 have H := H1
                 clear H1
                 exact absurd H (by simp)
               ·replace c179 := Bool.eq_false_iff.mpr c179
                subst c179
                have H1 : (none) = some r := by rw [if_neg (show ¬ (false = true) by decide)] at H; exact H
                clear H
                have H := H1
                clear H1
                exact absurd H (by simp)
              ·rw [if_neg c177] at H
               exact absurd H (by simp)
             ·rw [if_neg c176] at H
              exact absurd H (by simp)
            ·replace c175 := Bool.eq_false_iff.mpr c175
             subst c175
             have H1 : ((garderoberef17_Copy.f l0_0 l0_1 l0_2).bind fun bt323 => (if 0 ≤ a3 then (if a3 < (bt323.1.length : Int) then (if t307 = 0 then (if t318 = 0 then (if a3 < (l0_0.length : Int) then (if (t303 == ((rd_T56 l0_0 a3).f0) && ((t304 == ((rd_T56 l0_0 a3).f1.f0) && (t305 == ((rd_T56 l0_0 a3).f1.f1))) && (t306 == ((rd_T56 l0_0 a3).f2)))) = true then ((garderoberef17_Same.f kj145 t309 t312 t315 (bt323.1.set (a3 : Int).toNat (⟨a5_0, (⟨a5_1, a5_2⟩ : S32), a5_3⟩ : S56)) bt323.2.1 bt323.2.2).bind fun t335 => (if t335 = true then ((garderoberef17_Same.f kj145 l0_0 l0_1 l0_2 t240 t243 t246).bind fun t336 => (if t336 = true then ((garderobelaw17_lives.f).bind fun t337 => (some t337)) else (none))) else (none))) else (none)) else (none)) else (none)) else (none)) else (none)) else (none))) = some r := by rw [if_neg (show ¬ (false = true) by decide)] at H; exact H
             clear H
             have H := H1
             clear H1
             replace H := Option.bind_eq_some_iff.mp H
             obtain ⟨⟨t323, t326, t329⟩, A1980, H⟩ := H
             replace H : (if 0 ≤ a3 then (if a3 < (t323.length : Int) then (if t307 = 0 then (if t318 = 0 then (if a3 < (l0_0.length : Int) then (if (t303 == ((rd_T56 l0_0 a3).f0) && ((t304 == ((rd_T56 l0_0 a3).f1.f0) && (t305 == ((rd_T56 l0_0 a3).f1.f1))) && (t306 == ((rd_T56 l0_0 a3).f2)))) = true then ((garderoberef17_Same.f kj145 t309 t312 t315 (t323.set (a3 : Int).toNat (⟨a5_0, (⟨a5_1, a5_2⟩ : S32), a5_3⟩ : S56)) t326 t329).bind fun t335 => (if t335 = true then ((garderoberef17_Same.f kj145 l0_0 l0_1 l0_2 t240 t243 t246).bind fun t336 => (if t336 = true then ((garderobelaw17_lives.f).bind fun t337 => (some t337)) else (none))) else (none))) else (none)) else (none)) else (none)) else (none)) else (none)) else (none)) = some r := H
             have A198 := Aside0.mk A1980
             clear A1980
             by_cases c199 : 0 ≤ a3
             ·rw [if_pos c199] at H
              have c199b0 : decide (0 ≤ a3) = true := decide_eq_true c199
              clear c199
              by_cases c200 : a3 < (t323.length : Int)
              ·rw [if_pos c200] at H
               have c200b0 : decide (a3 < (t323.length : Int)) = true := decide_eq_true c200
               clear c200
               obtain ⟨y333, hy333⟩ : ∃ y_ : List (S56), y_ = (t323.set (a3 : Int).toNat (⟨a5_0, (⟨a5_1, a5_2⟩ : S32), a5_3⟩ : S56)) := ⟨_, rfl⟩
               replace H : (if t307 = 0 then (if t318 = 0 then (if a3 < (l0_0.length : Int) then (if (t303 == ((rd_T56 l0_0 a3).f0) && ((t304 == ((rd_T56 l0_0 a3).f1.f0) && (t305 == ((rd_T56 l0_0 a3).f1.f1))) && (t306 == ((rd_T56 l0_0 a3).f2)))) = true then ((garderoberef17_Same.f kj145 t309 t312 t315 y333 t326 t329).bind fun t335 => (if t335 = true then ((garderoberef17_Same.f kj145 l0_0 l0_1 l0_2 t240 t243 t246).bind fun t336 => (if t336 = true then ((garderobelaw17_lives.f).bind fun t337 => (some t337)) else (none))) else (none))) else (none)) else (none)) else (none)) else (none)) = some r := by first | (rw [hy333]; with_reducible exact H) | (have H2_ := (Option.bind_some _ _).symm.trans H; rw [hy333]; with_reducible exact H2_) | (have H2_ := (Option.bind_some _ _).symm.trans H; with_reducible exact H2_) | with_reducible exact H | (rw [hy333]; exact H) | exact H
               have Ny333 := Aside0.mk hy333
               clear hy333
               by_cases c202 : t307 = 0
               ·rw [if_pos c202] at H
                have c202b0 : (t307 == 0) = true := beq_iff_eq.mpr c202
                have c202b1 : (t307 != 0) = false := bne_eq_false_iff_eq.mpr c202
                clear c202
                by_cases c203 : t318 = 0
                ·rw [if_pos c203] at H
                 have c203b0 : (t318 == 0) = true := beq_iff_eq.mpr c203
                 have c203b1 : (t318 != 0) = false := bne_eq_false_iff_eq.mpr c203
                 clear c203
                 by_cases c204 : a3 < (l0_0.length : Int)
                 ·rw [if_pos c204] at H
                  have c204b0 : decide (a3 < (l0_0.length : Int)) = true := decide_eq_true c204
                  clear c204
                  by_cases c205 : (t303 == ((rd_T56 l0_0 a3).f0) && ((t304 == ((rd_T56 l0_0 a3).f1.f0) && (t305 == ((rd_T56 l0_0 a3).f1.f1))) && (t306 == ((rd_T56 l0_0 a3).f2)))) = true
                  ·rw [if_pos c205] at H
                   have c205b0 : (t303 == ((rd_T56 l0_0 a3).f0) && ((t304 == ((rd_T56 l0_0 a3).f1.f0) && (t305 == ((rd_T56 l0_0 a3).f1.f1))) && (t306 == ((rd_T56 l0_0 a3).f2)))) = true := c205
                   (try (have c205b1 : decide (t303 = ((rd_T56 l0_0 a3).f0) && ((t304 == ((rd_T56 l0_0 a3).f1.f0) && (t305 == ((rd_T56 l0_0 a3).f1.f1))) && (t306 == ((rd_T56 l0_0 a3).f2)))) = true := by simpa using c205))
                   (try (have c205b2 : (t303 == ((rd_T56 l0_0 a3).f0) && ((t304 == ((rd_T56 l0_0 a3).f1.f0) && (t305 == ((rd_T56 l0_0 a3).f1.f1))) && (t306 == ((rd_T56 l0_0 a3).f2)))) = true := by simpa using c205))
                   clear c205
                   replace H := Option.bind_eq_some_iff.mp H
                   obtain ⟨t335, A2060, H⟩ := H
                   replace H : (if t335 = true then ((garderoberef17_Same.f kj145 l0_0 l0_1 l0_2 t240 t243 t246).bind fun t336 => (if t336 = true then ((garderobelaw17_lives.f).bind fun t337 => (some t337)) else (none))) else (none)) = some r := H
                   have A206 := Aside0.mk A2060
                   clear A2060
                   by_cases c207 : t335 = true
                   ·subst c207
                    have H1 : ((garderoberef17_Same.f kj145 l0_0 l0_1 l0_2 t240 t243 t246).bind fun t336 => (if t336 = true then ((garderobelaw17_lives.f).bind fun t337 => (some t337)) else (none))) = some r := by rw [if_pos rfl] at H; exact H
                    clear H
                    have H := H1
                    clear H1
                    replace H := Option.bind_eq_some_iff.mp H
                    obtain ⟨t336, A2080, H⟩ := H
                    replace H : (if t336 = true then ((garderobelaw17_lives.f).bind fun t337 => (some t337)) else (none)) = some r := H
                    have A208 := Aside0.mk A2080
                    clear A2080
                    by_cases c209 : t336 = true
                    ·subst c209
                     have H1 : ((garderobelaw17_lives.f).bind fun t337 => (some t337)) = some r := by rw [if_pos rfl] at H; exact H
                     clear H
                     have H := H1
                     clear H1
                     replace H := Option.bind_eq_some_iff.mp H
                     obtain ⟨t337, A2100, H⟩ := H
                     replace H : (some t337) = some r := H
                     have A210 := Aside0.mk A2100
                     clear A2100
                     obtain rfl := Option.some.inj H
                     have hnb211 := NB236_237.out
                     have hnc211 := NB237_236.out
                     have hnb212 := NB236_249.out
                     have hnc212 := NB249_236.out
                     have hnb213 := NB236_308.out
                     have hnc213 := NB308_236.out
                     have hnb214 := NB236_319.out
                     have hnc214 := NB319_236.out
                     have hcz215_0 : wc.cell? ⟨gb236, 0, none⟩ = some (.slice A0_0 l0_0.length c0_0) := (blk_cell BK236.out 0).trans rfl
                     have hcz215_1 : wc.cell? ⟨gb236, 1, none⟩ = some (.slice A0_1 l0_1.length c0_1) := (blk_cell BK236.out 1).trans rfl
                     have hcz215_2 : wc.cell? ⟨gb236, 2, none⟩ = some (.slice A0_2 l0_2.length c0_2) := (blk_cell BK236.out 2).trans rfl
                     have hfz215_0 := blk_frozen BK236.out 0
                     have hfz215_1 := blk_frozen BK236.out 1
                     have hfz215_2 := blk_frozen BK236.out 2
                     try go_wp2_with (first | ((with_reducible refine gate_callee (f := 19) rfl ?_); refine goesL_ (some 129) rfl rfl Try.func19 (by kernel_rfl) rfl #[.agg #[.slice A0_0 l0_0.length c0_0, .slice A0_1 l0_1.length c0_1, .slice A0_2 l0_2.length c0_2]] rfl (by (try simp only [List.map_toArray, List.map_cons, List.map_nil]); first | done | rfl | (simp only [List.length_drop, List.length_take]; rfl)) ?_; (with_reducible refine (garderoberef17_Copy.calls _ _ l0_0 _ _ l0_1 _ _ l0_2 t323 t326 t329 _ ?side1 ?side2 ?side3 ?side4 ?side5 ?side6 A198.out).mono ?_); (case side1 => exact qC (Kd.C_below HR0_0.out HB.out)); (case side2 => exact HC0_0.out); (case side3 => exact qC (Kd.C_below HR0_1.out HB.out)); (case side4 => exact HC0_1.out); (case side5 => exact qC (Kd.C_below HR0_2.out HB.out)); (case side6 => exact HC0_2.out); rintro e w216 ⟨v324, v327, v330, rfl, ho0, ho1, ho2, hb⟩; refine ⟨_, rfl, ?_⟩; have n0_ := Aside0.mk (Kd.R_mono (Kd.R_told (Kd.R_told (Kd.R_old (qR HO_250000.out) hb) (Kd.R_base ho0)) (Kd.R_base ho1)) (fun _ h_ => h_.1)); have n1_ := Aside0.mk (Kd.R_mono (Kd.R_told (Kd.R_told (Kd.R_old (qR HO_250001.out) hb) (Kd.R_base ho0)) (Kd.R_base ho1)) (fun _ h_ => h_.1)); have n2_ := Aside0.mk (Kd.R_elder' (qR HO_250002.out) (Kd.R_base ho2) hb); have n3_ := Aside0.mk (Kd.R_mono (Kd.R_told (Kd.R_told (Kd.R_old (qR HO_320000.out) hb) (Kd.R_base ho0)) (Kd.R_base ho1)) (fun _ h_ => h_.1)); have n4_ := Aside0.mk (Kd.R_mono (Kd.R_told (Kd.R_told (Kd.R_old (qR HO_320001.out) hb) (Kd.R_base ho0)) (Kd.R_base ho1)) (fun _ h_ => h_.1)); have n5_ := Aside0.mk (Kd.R_elder' (qR HO_320002.out) (Kd.R_base ho2) hb); have n6_ := Aside0.mk (Kd.R_lower (Kd.R_newB (Kd.R_newB (Kd.R_new' (Kd.R_new' (Kd.R_new' (Kd.R_new' ho0 (Kd.R_lt (qR HO_250000.out))) (Kd.R_lt (qR HO_250001.out))) (Kd.R_lt (qR HO_320000.out))) (Kd.R_lt (qR HO_320001.out))) (qb BK237.out)) (qb BK308.out)) (below_size (qW HB.out))); have n7_ := Aside0.mk (Kd.R_lower (Kd.R_newB (Kd.R_newB (Kd.R_new' (Kd.R_new' (Kd.R_new' (Kd.R_new' ho1 (Kd.R_lt (qR HO_250000.out))) (Kd.R_lt (qR HO_250001.out))) (Kd.R_lt (qR HO_320000.out))) (Kd.R_lt (qR HO_320001.out))) (qb BK237.out)) (qb BK308.out)) (below_size (qW HB.out))); have n8_ := Aside0.mk (Kd.R_lower (Kd.R_new' (Kd.R_new' ho2 (Kd.R_lt (qR HO_250002.out))) (Kd.R_lt (qR HO_320002.out))) (below_size (qW HB.out))); have n9_ := Aside0.mk (blk_below (qb BK236.out) hb); have n10_ := Aside0.mk (blk_below (qb BK237.out) hb); have n11_ := Aside0.mk (blk_below (qb BK249.out) hb); have n12_ := Aside0.mk (blk_below (qb BK308.out) hb); have n13_ := Aside0.mk (blk_below (qb BK319.out) hb); have n14_ := Aside0.mk (below_step (qW HB.out) hb); clear HO_250000 HO_250001 HO_250002 HO_320000 HO_320001 HO_320002 BK236 BK237 BK249 BK308 BK319 HB; have HO_250000 := n0_; have HO_250001 := n1_; have HO_250002 := n2_; have HO_320000 := n3_; have HO_320001 := n4_; have HO_320002 := n5_; have HO325 := n6_; have HO328 := n7_; have HO331 := n8_; have BK236 := n9_; have BK237 := n10_; have BK249 := n11_; have BK308 := n12_; have BK319 := n13_; have HB := n14_; clear n0_ n1_ n2_ n3_ n4_ n5_ n6_ n7_ n8_ n9_ n10_ n11_ n12_ n13_ n14_; (try clear hb); (try clear hb2); (try clear hk); (try clear hi); (try clear ho0); (try clear ho1); (try clear ho2)) | ((with_reducible refine gate_dst (N := 24) rfl ?_); (try (refine gate_guard (by rfl) ?_; dsimp only)); refine box_event ?hg (N := 24) ?hd (cs := #[.slice none 0 0, .slice none 0 0, .slice none 0 0]) (t := 53) ?hr ?_; (case hd => rfl); (case hg => rfl); (case hr => first | (go_simp; done) | (go_simp; rfl)); intro gb332 hg w217 hbox hb; have n0_ := Aside0.mk (Kd.R_below (qR HO_250000.out) hb); have n1_ := Aside0.mk (Kd.R_below (qR HO_250001.out) hb); have n2_ := Aside0.mk (Kd.R_below (qR HO_250002.out) hb); have n3_ := Aside0.mk (Kd.R_below (qR HO_320000.out) hb); have n4_ := Aside0.mk (Kd.R_below (qR HO_320001.out) hb); have n5_ := Aside0.mk (Kd.R_below (qR HO_320002.out) hb); have n6_ := Aside0.mk (Kd.R_below (qR HO325.out) hb); have n7_ := Aside0.mk (Kd.R_below (qR HO328.out) hb); have n8_ := Aside0.mk (Kd.R_below (qR HO331.out) hb); have n9_ := Aside0.mk (blk_below (qb BK236.out) hb); have n10_ := Aside0.mk (blk_below (qb BK237.out) hb); have n11_ := Aside0.mk (blk_below (qb BK249.out) hb); have n12_ := Aside0.mk (blk_below (qb BK308.out) hb); have n13_ := Aside0.mk (blk_below (qb BK319.out) hb); have n14_ := Aside0.mk (below_step (qW HB.out) hb); have n15_ := Aside0.mk (hbox); have n16_ := Aside0.mk ((by rw [hg]; exact (below_size (qW HB.out)) : w.heap.size ≤ gb332)); have n17_ := Aside0.mk ((by rw [hg]; exact (below_size (qW HB.out)) : w.heap.size ≤ gb332)); have n18_ := Aside0.mk ((by rw [hg]; exact Nat.ne_of_lt (blk_lt (qb BK236.out)) : gb236 ≠ gb332)); have n19_ := Aside0.mk ((by rw [hg]; exact Nat.ne_of_gt (blk_lt (qb BK236.out)) : gb332 ≠ gb236)); have n20_ := Aside0.mk ((by rw [hg]; exact Nat.ne_of_lt (blk_lt (qb BK237.out)) : gb237 ≠ gb332)); have n21_ := Aside0.mk ((by rw [hg]; exact Nat.ne_of_gt (blk_lt (qb BK237.out)) : gb332 ≠ gb237)); have n22_ := Aside0.mk ((by rw [hg]; exact Nat.ne_of_lt (blk_lt (qb BK249.out)) : gb249 ≠ gb332)); have n23_ := Aside0.mk ((by rw [hg]; exact Nat.ne_of_gt (blk_lt (qb BK249.out)) : gb332 ≠ gb249)); have n24_ := Aside0.mk ((by rw [hg]; exact Nat.ne_of_lt (blk_lt (qb BK308.out)) : gb308 ≠ gb332)); have n25_ := Aside0.mk ((by rw [hg]; exact Nat.ne_of_gt (blk_lt (qb BK308.out)) : gb332 ≠ gb308)); have n26_ := Aside0.mk ((by rw [hg]; exact Nat.ne_of_lt (blk_lt (qb BK319.out)) : gb319 ≠ gb332)); have n27_ := Aside0.mk ((by rw [hg]; exact Nat.ne_of_gt (blk_lt (qb BK319.out)) : gb332 ≠ gb319)); clear HO_250000 HO_250001 HO_250002 HO_320000 HO_320001 HO_320002 HO325 HO328 HO331 BK236 BK237 BK249 BK308 BK319 HB; have HO_250000 := n0_; have HO_250001 := n1_; have HO_250002 := n2_; have HO_320000 := n3_; have HO_320001 := n4_; have HO_320002 := n5_; have HO325 := n6_; have HO328 := n7_; have HO331 := n8_; have BK236 := n9_; have BK237 := n10_; have BK249 := n11_; have BK308 := n12_; have BK319 := n13_; have HB := n14_; have BK332 := n15_; have GW332 := n16_; have GE332 := n17_; have NB236_332 := n18_; have NB332_236 := n19_; have NB237_332 := n20_; have NB332_237 := n21_; have NB249_332 := n22_; have NB332_249 := n23_; have NB308_332 := n24_; have NB332_308 := n25_; have NB319_332 := n26_; have NB332_319 := n27_; clear n0_ n1_ n2_ n3_ n4_ n5_ n6_ n7_ n8_ n9_ n10_ n11_ n12_ n13_ n14_ n15_ n16_ n17_ n18_ n19_ n20_ n21_ n22_ n23_ n24_ n25_ n26_ n27_; clear hb hbox hg; obtain ⟨Ao218, co218, eo218⟩ := Kd.R_slice HO325.out; subst eo218; have hnb219 := NB332_236.out; have hnc219 := NB236_332.out; have hnb220 := NB332_237.out; have hnc220 := NB237_332.out; have hnb221 := NB332_249.out; have hnc221 := NB249_332.out; have hnb222 := NB332_308.out; have hnc222 := NB308_332.out; have hnb223 := NB332_319.out; have hnc223 := NB319_332.out; have hcz224_0 : w217.cell? ⟨gb332, 0, none⟩ = some (.slice none 0 0) := (blk_cell BK332.out 0).trans rfl; have hcz224_1 : w217.cell? ⟨gb332, 1, none⟩ = some (.slice none 0 0) := (blk_cell BK332.out 1).trans rfl; have hcz224_2 : w217.cell? ⟨gb332, 2, none⟩ = some (.slice none 0 0) := (blk_cell BK332.out 2).trans rfl; have hfz224_0 := blk_frozen BK332.out 0; have hfz224_1 := blk_frozen BK332.out 1; have hfz224_2 := blk_frozen BK332.out 2; obtain ⟨Ao225, co225, eo225⟩ := Kd.R_slice HO328.out; subst eo225; obtain ⟨Ao226, co226, eo226⟩ := Kd.R_slice HO331.out; subst eo226) | ((with_reducible refine gate_store (t := 53) (p := 24) rfl ?_); refine store_event (t := 53) (p := 24) (v := ?vo_w227) (w1 := (((w217.setCell ⟨gb332, 0, none⟩ (.slice Ao218 t323.length co218)).setCell ⟨gb332, 1, none⟩ (.slice Ao225 t326.length co225)).setCell ⟨gb332, 2, none⟩ (.slice Ao226 t329.length co226))) ?hg ?ho ?hn ?hr ?_; (case ho => rfl); (case hg => rfl); (case hn => rfl); (case hr => first | (go_simp; done) | (go_simp; rfl)); intro w227 hw; have n0_ : Aside0 (Kd.R k56 56 w227 w.heap.size (fun k_ => some k_ ≠ (.slice Ao33 t243.length co33 : Value).ownBlock ∧ some k_ ≠ (.slice Ao161 t309.length co161 : Value).ownBlock ∧ some k_ ≠ (.slice Ao167 t312.length co167 : Value).ownBlock ∧ some k_ ≠ (.slice Ao218 t323.length co218 : Value).ownBlock ∧ some k_ ≠ (.slice Ao225 t326.length co225 : Value).ownBlock ∧ k_ ≠ gb237 ∧ k_ ≠ gb308) (.slice Ao29 t240.length co29) t240) := ⟨(by rw [hw]; exact (qR (Kd.R_mono (Kd.R_far (p := ⟨gb332, 2, none⟩) (Kd.R_far (p := ⟨gb332, 1, none⟩) (Kd.R_far (p := ⟨gb332, 0, none⟩) (Kd.R_types HO_250000.out BK332.out (by decide)) (fun _ hk => hk.2) (.slice Ao218 t323.length co218)) (fun _ hk => hk.2) (.slice Ao225 t326.length co225)) (fun _ hk => hk.2) (.slice Ao226 t329.length co226)) (fun _ hk => ⟨hk.1.1.1.1, ⟨hk.1.1.1.2.1, ⟨hk.1.1.1.2.2.1, ⟨hk.1.1.2, ⟨hk.1.2, ⟨hk.1.1.1.2.2.2.1, hk.1.1.1.2.2.2.2⟩⟩⟩⟩⟩⟩))))⟩; have n1_ : Aside0 (Kd.R k56 56 w227 w.heap.size (fun k_ => some k_ ≠ (.slice Ao29 t240.length co29 : Value).ownBlock ∧ some k_ ≠ (.slice Ao161 t309.length co161 : Value).ownBlock ∧ some k_ ≠ (.slice Ao167 t312.length co167 : Value).ownBlock ∧ some k_ ≠ (.slice Ao218 t323.length co218 : Value).ownBlock ∧ some k_ ≠ (.slice Ao225 t326.length co225 : Value).ownBlock ∧ k_ ≠ gb237 ∧ k_ ≠ gb308) (.slice Ao33 t243.length co33) t243) := ⟨(by rw [hw]; exact (qR (Kd.R_mono (Kd.R_far (p := ⟨gb332, 2, none⟩) (Kd.R_far (p := ⟨gb332, 1, none⟩) (Kd.R_far (p := ⟨gb332, 0, none⟩) (Kd.R_types HO_250001.out BK332.out (by decide)) (fun _ hk => hk.2) (.slice Ao218 t323.length co218)) (fun _ hk => hk.2) (.slice Ao225 t326.length co225)) (fun _ hk => hk.2) (.slice Ao226 t329.length co226)) (fun _ hk => ⟨hk.1.1.1.1, ⟨hk.1.1.1.2.1, ⟨hk.1.1.1.2.2.1, ⟨hk.1.1.2, ⟨hk.1.2, ⟨hk.1.1.1.2.2.2.1, hk.1.1.1.2.2.2.2⟩⟩⟩⟩⟩⟩))))⟩; have n2_ : Aside0 (Kd.R (Kd.int .i64) 3 w227 w.heap.size (fun k_ => some k_ ≠ (.slice Ao168 t315.length co168 : Value).ownBlock ∧ some k_ ≠ (.slice Ao226 t329.length co226 : Value).ownBlock) (.slice Ao34 t246.length co34) t246) := ⟨(by rw [hw]; exact (qR (Kd.R_mono (Kd.R_far (p := ⟨gb332, 2, none⟩) (Kd.R_far (p := ⟨gb332, 1, none⟩) (Kd.R_far (p := ⟨gb332, 0, none⟩) (Kd.R_types HO_250002.out BK332.out (by decide)) (fun _ hk => hk.2) (.slice Ao218 t323.length co218)) (fun _ hk => hk.2) (.slice Ao225 t326.length co225)) (fun _ hk => hk.2) (.slice Ao226 t329.length co226)) (fun _ hk => ⟨hk.1.1, hk.1.2⟩))))⟩; have n3_ : Aside0 (Kd.R k56 56 w227 w.heap.size (fun k_ => some k_ ≠ (.slice Ao29 t240.length co29 : Value).ownBlock ∧ some k_ ≠ (.slice Ao33 t243.length co33 : Value).ownBlock ∧ some k_ ≠ (.slice Ao167 t312.length co167 : Value).ownBlock ∧ some k_ ≠ (.slice Ao218 t323.length co218 : Value).ownBlock ∧ some k_ ≠ (.slice Ao225 t326.length co225 : Value).ownBlock ∧ k_ ≠ gb237 ∧ k_ ≠ gb308) (.slice Ao161 t309.length co161) t309) := ⟨(by rw [hw]; exact (qR (Kd.R_mono (Kd.R_far (p := ⟨gb332, 2, none⟩) (Kd.R_far (p := ⟨gb332, 1, none⟩) (Kd.R_far (p := ⟨gb332, 0, none⟩) (Kd.R_types HO_320000.out BK332.out (by decide)) (fun _ hk => hk.2) (.slice Ao218 t323.length co218)) (fun _ hk => hk.2) (.slice Ao225 t326.length co225)) (fun _ hk => hk.2) (.slice Ao226 t329.length co226)) (fun _ hk => ⟨hk.1.1.1.1, ⟨hk.1.1.1.2.1, ⟨hk.1.1.1.2.2.1, ⟨hk.1.1.2, ⟨hk.1.2, ⟨hk.1.1.1.2.2.2.1, hk.1.1.1.2.2.2.2⟩⟩⟩⟩⟩⟩))))⟩; have n4_ : Aside0 (Kd.R k56 56 w227 w.heap.size (fun k_ => some k_ ≠ (.slice Ao29 t240.length co29 : Value).ownBlock ∧ some k_ ≠ (.slice Ao33 t243.length co33 : Value).ownBlock ∧ some k_ ≠ (.slice Ao161 t309.length co161 : Value).ownBlock ∧ some k_ ≠ (.slice Ao218 t323.length co218 : Value).ownBlock ∧ some k_ ≠ (.slice Ao225 t326.length co225 : Value).ownBlock ∧ k_ ≠ gb237 ∧ k_ ≠ gb308) (.slice Ao167 t312.length co167) t312) := ⟨(by rw [hw]; exact (qR (Kd.R_mono (Kd.R_far (p := ⟨gb332, 2, none⟩) (Kd.R_far (p := ⟨gb332, 1, none⟩) (Kd.R_far (p := ⟨gb332, 0, none⟩) (Kd.R_types HO_320001.out BK332.out (by decide)) (fun _ hk => hk.2) (.slice Ao218 t323.length co218)) (fun _ hk => hk.2) (.slice Ao225 t326.length co225)) (fun _ hk => hk.2) (.slice Ao226 t329.length co226)) (fun _ hk => ⟨hk.1.1.1.1, ⟨hk.1.1.1.2.1, ⟨hk.1.1.1.2.2.1, ⟨hk.1.1.2, ⟨hk.1.2, ⟨hk.1.1.1.2.2.2.1, hk.1.1.1.2.2.2.2⟩⟩⟩⟩⟩⟩))))⟩; have n5_ : Aside0 (Kd.R (Kd.int .i64) 3 w227 w.heap.size (fun k_ => some k_ ≠ (.slice Ao34 t246.length co34 : Value).ownBlock ∧ some k_ ≠ (.slice Ao226 t329.length co226 : Value).ownBlock) (.slice Ao168 t315.length co168) t315) := ⟨(by rw [hw]; exact (qR (Kd.R_mono (Kd.R_far (p := ⟨gb332, 2, none⟩) (Kd.R_far (p := ⟨gb332, 1, none⟩) (Kd.R_far (p := ⟨gb332, 0, none⟩) (Kd.R_types HO_320002.out BK332.out (by decide)) (fun _ hk => hk.2) (.slice Ao218 t323.length co218)) (fun _ hk => hk.2) (.slice Ao225 t326.length co225)) (fun _ hk => hk.2) (.slice Ao226 t329.length co226)) (fun _ hk => ⟨hk.1.1, hk.1.2⟩))))⟩; have n6_ : Aside0 (Kd.R k56 56 w227 w.heap.size (fun k_ => some k_ ≠ (.slice Ao29 t240.length co29 : Value).ownBlock ∧ some k_ ≠ (.slice Ao33 t243.length co33 : Value).ownBlock ∧ some k_ ≠ (.slice Ao161 t309.length co161 : Value).ownBlock ∧ some k_ ≠ (.slice Ao167 t312.length co167 : Value).ownBlock ∧ some k_ ≠ (.slice Ao225 t326.length co225 : Value).ownBlock ∧ k_ ≠ gb237 ∧ k_ ≠ gb308) (.slice Ao218 t323.length co218) t323) := ⟨(by rw [hw]; exact (qR (Kd.R_mono (Kd.R_far (p := ⟨gb332, 2, none⟩) (Kd.R_far (p := ⟨gb332, 1, none⟩) (Kd.R_far (p := ⟨gb332, 0, none⟩) (Kd.R_types HO325.out BK332.out (by decide)) (fun _ hk => hk.2) (.slice Ao218 t323.length co218)) (fun _ hk => hk.2) (.slice Ao225 t326.length co225)) (fun _ hk => hk.2) (.slice Ao226 t329.length co226)) (fun _ hk => ⟨hk.1.1.1.1.1.1.2, ⟨hk.1.1.1.1.1.2, ⟨hk.1.1.1.1.2, ⟨hk.1.1.1.2, ⟨hk.1.1.1.1.1.1.1, ⟨hk.1.1.2, hk.1.2⟩⟩⟩⟩⟩⟩))))⟩; have n7_ : Aside0 (Kd.R k56 56 w227 w.heap.size (fun k_ => some k_ ≠ (.slice Ao29 t240.length co29 : Value).ownBlock ∧ some k_ ≠ (.slice Ao33 t243.length co33 : Value).ownBlock ∧ some k_ ≠ (.slice Ao161 t309.length co161 : Value).ownBlock ∧ some k_ ≠ (.slice Ao167 t312.length co167 : Value).ownBlock ∧ some k_ ≠ (.slice Ao218 t323.length co218 : Value).ownBlock ∧ k_ ≠ gb237 ∧ k_ ≠ gb308) (.slice Ao225 t326.length co225) t326) := ⟨(by rw [hw]; exact (qR (Kd.R_mono (Kd.R_far (p := ⟨gb332, 2, none⟩) (Kd.R_far (p := ⟨gb332, 1, none⟩) (Kd.R_far (p := ⟨gb332, 0, none⟩) (Kd.R_types HO328.out BK332.out (by decide)) (fun _ hk => hk.2) (.slice Ao218 t323.length co218)) (fun _ hk => hk.2) (.slice Ao225 t326.length co225)) (fun _ hk => hk.2) (.slice Ao226 t329.length co226)) (fun _ hk => ⟨hk.1.1.1.1.1.1.2, ⟨hk.1.1.1.1.1.2, ⟨hk.1.1.1.1.2, ⟨hk.1.1.1.2, ⟨hk.1.1.1.1.1.1.1, ⟨hk.1.1.2, hk.1.2⟩⟩⟩⟩⟩⟩))))⟩; have n8_ : Aside0 (Kd.R (Kd.int .i64) 3 w227 w.heap.size (fun k_ => some k_ ≠ (.slice Ao34 t246.length co34 : Value).ownBlock ∧ some k_ ≠ (.slice Ao168 t315.length co168 : Value).ownBlock) (.slice Ao226 t329.length co226) t329) := ⟨(by rw [hw]; exact (qR (Kd.R_mono (Kd.R_far (p := ⟨gb332, 2, none⟩) (Kd.R_far (p := ⟨gb332, 1, none⟩) (Kd.R_far (p := ⟨gb332, 0, none⟩) (Kd.R_types HO331.out BK332.out (by decide)) (fun _ hk => hk.2) (.slice Ao218 t323.length co218)) (fun _ hk => hk.2) (.slice Ao225 t326.length co225)) (fun _ hk => hk.2) (.slice Ao226 t329.length co226)) (fun _ hk => ⟨hk.1.1.2, hk.1.2⟩))))⟩; have n9_ : Aside0 (w227.heap[gb236]? = some (.cells #[.slice A0_0 l0_0.length c0_0, .slice A0_1 l0_1.length c0_1, .slice A0_2 l0_2.length c0_2] 53 (0, 0))) := ⟨(by rw [hw]; exact (qf BK236.out))⟩; have n10_ : Aside0 (w227.heap[gb237]? = some (.cells #[.int .u8 a5_0, .int .u8 a5_1, .int .u16 a5_2, .int .i64 a5_3] 56 (0, 0))) := ⟨(by rw [hw]; exact (qf BK237.out))⟩; have n11_ : Aside0 (w227.heap[gb249]? = some (.cells #[.slice Ao29 t240.length co29, .slice Ao33 t243.length co33, .slice Ao34 t246.length co34] 53 (0, 0))) := ⟨(by rw [hw]; exact (qf BK249.out))⟩; have n12_ : Aside0 (w227.heap[gb308]? = some (.cells #[.int .u8 t303, .int .u8 t304, .int .u16 t305, .int .i64 t306] 56 (0, 0))) := ⟨(by rw [hw]; exact (qf BK308.out))⟩; have n13_ : Aside0 (w227.heap[gb319]? = some (.cells #[.slice Ao161 t309.length co161, .slice Ao167 t312.length co167, .slice Ao168 t315.length co168] 53 (0, 0))) := ⟨(by rw [hw]; exact (qf BK319.out))⟩; have n14_ : Aside0 (w227.heap[gb332]? = some (.cells #[.slice Ao218 t323.length co218, .slice Ao225 t326.length co225, .slice Ao226 t329.length co226] 53 (0, 0))) := ⟨(by rw [hw]; exact (by (with_reducible repeat (first | refine blk_drewN ?_ _ | refine blk_drew ?_ | refine blk_alloc ?_ _)); refine blk_put (cs := #[.slice Ao218 t323.length co218, .slice Ao225 t326.length co225, .slice none 0 0]) ?_ 2 _ rfl; (with_reducible repeat (first | refine blk_drewN ?_ _ | refine blk_drew ?_ | refine blk_alloc ?_ _)); refine blk_put (cs := #[.slice Ao218 t323.length co218, .slice none 0 0, .slice none 0 0]) ?_ 1 _ rfl; (with_reducible repeat (first | refine blk_drewN ?_ _ | refine blk_drew ?_ | refine blk_alloc ?_ _)); refine blk_put (cs := #[.slice none 0 0, .slice none 0 0, .slice none 0 0]) ?_ 0 _ rfl; (with_reducible repeat (first | refine blk_drewN ?_ _ | refine blk_drew ?_ | refine blk_alloc ?_ _)); exact BK332.out))⟩; have n15_ : Aside0 (Below w.heap.size w w227) := ⟨(by rw [hw]; exact (qW HB.out))⟩; clear hw HO_250000 HO_250001 HO_250002 HO_320000 HO_320001 HO_320002 HO325 HO328 HO331 BK236 BK237 BK249 BK308 BK319 BK332 HB; have HO_250000 := n0_; have HO_250001 := n1_; have HO_250002 := n2_; have HO_320000 := n3_; have HO_320001 := n4_; have HO_320002 := n5_; have HO325 := n6_; have HO328 := n7_; have HO331 := n8_; have BK236 := n9_; have BK237 := n10_; have BK249 := n11_; have BK308 := n12_; have BK319 := n13_; have BK332 := n14_; have HB := n15_; clear n0_ n1_ n2_ n3_ n4_ n5_ n6_ n7_ n8_ n9_ n10_ n11_ n12_ n13_ n14_ n15_; have hcz228_0 : w227.cell? ⟨gb332, 0, none⟩ = some (.slice Ao218 t323.length co218) := (blk_cell BK332.out 0).trans rfl; have hcz228_1 : w227.cell? ⟨gb332, 1, none⟩ = some (.slice Ao225 t326.length co225) := (blk_cell BK332.out 1).trans rfl; have hcz228_2 : w227.cell? ⟨gb332, 2, none⟩ = some (.slice Ao226 t329.length co226) := (blk_cell BK332.out 2).trans rfl; have hfz228_0 := blk_frozen BK332.out 0; have hfz228_1 := blk_frozen BK332.out 1; have hfz228_2 := blk_frozen BK332.out 2; have hnb229 := NB237_249.out; have hnc229 := NB249_237.out; have hnb230 := NB237_308.out; have hnc230 := NB308_237.out; have hnb231 := NB237_319.out; have hnc231 := NB319_237.out; have hcz232_0 : w227.cell? ⟨gb237, 0, none⟩ = some (.int .u8 a5_0) := (blk_cell BK237.out 0).trans rfl; have hcz232_1 : w227.cell? ⟨gb237, 1, none⟩ = some (.int .u8 a5_1) := (blk_cell BK237.out 1).trans rfl; have hcz232_2 : w227.cell? ⟨gb237, 2, none⟩ = some (.int .u16 a5_2) := (blk_cell BK237.out 2).trans rfl; have hcz232_3 : w227.cell? ⟨gb237, 3, none⟩ = some (.int .i64 a5_3) := (blk_cell BK237.out 3).trans rfl; have hfz232_0 := blk_frozen BK237.out 0; have hfz232_1 := blk_frozen BK237.out 1; have hfz232_2 := blk_frozen BK237.out 2; have hfz232_3 := blk_frozen BK237.out 3; have p201 : 0 ≤ (a3 : Int) := of_decide_eq_true (by first | (with_reducible assumption) | assumption); have q201 : (a3 : Int) < ((t323.length : Int) : Int) := of_decide_eq_true (by first | (with_reducible assumption) | assumption); obtain ⟨go201, co201, eo201, gb201, gl201, cl201, HG201⟩ := Kd.R_form HO325.out (by omega); (first | cases eo201 | (injection eo201 with ea_ en_ ec_; (first | subst ea_ | (injection ea_ with ea_; subst ea_)); subst ec_; clear en_)); have GB201 := Aside0.mk gb201; have GG201 := Aside0.mk HG201; clear gb201 gl201 HG201; obtain ⟨ce201, hcl201, hM201, hcc201, hfr201⟩ := Kd.R_elem HO325.out z56 (a3 : Int) p201 q201; obtain rfl := k56_openM hM201; have hx201_0 : w227.cell? ⟨go201, (a3 : Int).toNat * 4, none⟩ = some (.int .u8 ((rd_T56 t323 a3).f0)) := hcc201 0 _ rfl; have hx201_1 : w227.cell? ⟨go201, (a3 : Int).toNat * 4 + 1, none⟩ = some (.int .u8 ((rd_T56 t323 a3).f1.f0)) := hcc201 1 _ rfl; have hx201_2 : w227.cell? ⟨go201, (a3 : Int).toNat * 4 + 2, none⟩ = some (.int .u16 ((rd_T56 t323 a3).f1.f1)) := hcc201 2 _ rfl; have hx201_3 : w227.cell? ⟨go201, (a3 : Int).toNat * 4 + 3, none⟩ = some (.int .i64 ((rd_T56 t323 a3).f2)) := hcc201 3 _ rfl; have hf201_0 : w227.frozen? ⟨go201, (a3 : Int).toNat * 4, none⟩ = false := hfr201 0; have hf201_1 : w227.frozen? ⟨go201, (a3 : Int).toNat * 4 + 1, none⟩ = false := hfr201 1; have hf201_2 : w227.frozen? ⟨go201, (a3 : Int).toNat * 4 + 2, none⟩ = false := hfr201 2; have hf201_3 : w227.frozen? ⟨go201, (a3 : Int).toNat * 4 + 3, none⟩ = false := hfr201 3; clear hcl201 hcc201 hfr201 hM201; replace p201 := eq_true p201; replace q201 := eq_true q201; have HX233 := Aside0.mk (show Kd.R k56 56 w227 w.heap.size (fun k_ => some k_ ≠ (.slice Ao29 t240.length co29 : Value).ownBlock ∧ some k_ ≠ (.slice Ao33 t243.length co33 : Value).ownBlock ∧ some k_ ≠ (.slice Ao161 t309.length co161 : Value).ownBlock ∧ some k_ ≠ (.slice Ao167 t312.length co167 : Value).ownBlock ∧ some k_ ≠ (.slice Ao225 t326.length co225 : Value).ownBlock ∧ k_ ≠ gb237 ∧ k_ ≠ gb308) (.slice (some ⟨go201, 0, none⟩) t323.length co218) t323 from (qR HO325.out)); obtain ⟨ce233, hcl233, hM233, hcc233, hfr233⟩ := Kd.R_elem HX233.out z56 (a3 : Int) (of_decide_eq_true (by first | (with_reducible assumption) | assumption)) (by have h_ : (a3 : Int) < ((t323.length : Int) : Int) := of_decide_eq_true (by first | (with_reducible assumption) | assumption); first | exact h_ | (have e_ := (Kd.R_reads' HO325.out).1; omega) | simpa using h_); obtain rfl := k56_openM hM233; have HP233 := Kd.R_seg HX233.out (a3 : Int) (of_decide_eq_true (by first | (with_reducible assumption) | assumption)) (by have h_ : (a3 : Int) < ((t323.length : Int) : Int) := of_decide_eq_true (by first | (with_reducible assumption) | assumption); first | exact h_ | (have e_ := (Kd.R_reads' HO325.out).1; omega) | simpa using h_) (seg := [.int .u8 a5_0, .int .u8 a5_1, .int .u16 a5_2, .int .i64 a5_3]) (j := 0) hcl233 hcc233 (show 4 ≤ 4 from by decide) (x' := (⟨a5_0, (⟨a5_1, a5_2⟩ : S32), a5_3⟩ : S56)) (k56_mkM _ _ _ (⟨a5_0, (⟨a5_1, a5_2⟩ : S32), a5_3⟩ : S56) ) (fun _ hk => hk); have hx233_0 := hcc233 0 _ rfl; (try simp only [show (k56).sz = 4 from rfl, Nat.mul_one, Nat.add_zero] at hx233_0); have hf233_0 := hfr233 0; (try simp only [show (k56).sz = 4 from rfl, Nat.mul_one, Nat.add_zero] at hf233_0); have hx233_1 := hcc233 1 _ rfl; (try simp only [show (k56).sz = 4 from rfl, Nat.mul_one, Nat.add_zero] at hx233_1); have hf233_1 := hfr233 1; (try simp only [show (k56).sz = 4 from rfl, Nat.mul_one, Nat.add_zero] at hf233_1); have hx233_2 := hcc233 2 _ rfl; (try simp only [show (k56).sz = 4 from rfl, Nat.mul_one, Nat.add_zero] at hx233_2); have hf233_2 := hfr233 2; (try simp only [show (k56).sz = 4 from rfl, Nat.mul_one, Nat.add_zero] at hf233_2); have hx233_3 := hcc233 3 _ rfl; (try simp only [show (k56).sz = 4 from rfl, Nat.mul_one, Nat.add_zero] at hx233_3); have hf233_3 := hfr233 3; (try simp only [show (k56).sz = 4 from rfl, Nat.mul_one, Nat.add_zero] at hf233_3); clear hcl233 hcc233 hfr233 hM233) | ((with_reducible refine gate_store (t := 56) (p := 134) rfl ?_); refine store_event (t := 56) (p := 134) (v := ?vo_w234) (w1 := ((((w227.setCell ⟨go201, (a3 : Int).toNat * 4, none⟩ (.int .u8 a5_0)).setCell ⟨go201, (a3 : Int).toNat * 4 + 1, none⟩ (.int .u8 a5_1)).setCell ⟨go201, (a3 : Int).toNat * 4 + 2, none⟩ (.int .u16 a5_2)).setCell ⟨go201, (a3 : Int).toNat * 4 + 3, none⟩ (.int .i64 a5_3))) ?hg ?ho ?hn ?hr ?_; (case ho => rfl); (case hg => rfl); (case hn => rfl); (case hr => first | (go_simp; done) | (go_simp; rfl)); intro w234 hw; have hg : w227.grownBy w234 (some go201) := (by rw [hw]; exact HP233.2); have hp_ : Kd.R k56 56 w234 w.heap.size (fun k_ => some k_ ≠ (.slice Ao29 t240.length co29 : Value).ownBlock ∧ some k_ ≠ (.slice Ao33 t243.length co33 : Value).ownBlock ∧ some k_ ≠ (.slice Ao161 t309.length co161 : Value).ownBlock ∧ some k_ ≠ (.slice Ao167 t312.length co167 : Value).ownBlock ∧ some k_ ≠ (.slice Ao225 t326.length co225 : Value).ownBlock ∧ k_ ≠ gb237 ∧ k_ ≠ gb308) (.slice (some ⟨go201, 0, none⟩) t323.length co218) y333 := (by rw [hw, Ny333.out]; exact HP233.1); clear HP233; have n0_ := Aside0.mk (Kd.R_after (v := (.slice (some ⟨go201, 0, none⟩) t323.length co218)) (v1 := (.slice (some ⟨go201, 0, none⟩) t323.length co218)) (ok := (fun k_ => some k_ ≠ (.slice Ao33 t243.length co33 : Value).ownBlock ∧ some k_ ≠ (.slice Ao161 t309.length co161 : Value).ownBlock ∧ some k_ ≠ (.slice Ao167 t312.length co167 : Value).ownBlock ∧ some k_ ≠ (.slice Ao225 t326.length co225 : Value).ownBlock ∧ k_ ≠ gb237 ∧ k_ ≠ gb308)) (qR (Kd.R_mono HO_250000.out (fun _ hk => ⟨⟨hk.1, ⟨hk.2.1, ⟨hk.2.2.1, ⟨hk.2.2.2.2.1, ⟨hk.2.2.2.2.2.1, hk.2.2.2.2.2.2⟩⟩⟩⟩⟩, hk.2.2.2.1⟩))) hg (.inl rfl)); have n1_ := Aside0.mk (Kd.R_after (v := (.slice (some ⟨go201, 0, none⟩) t323.length co218)) (v1 := (.slice (some ⟨go201, 0, none⟩) t323.length co218)) (ok := (fun k_ => some k_ ≠ (.slice Ao29 t240.length co29 : Value).ownBlock ∧ some k_ ≠ (.slice Ao161 t309.length co161 : Value).ownBlock ∧ some k_ ≠ (.slice Ao167 t312.length co167 : Value).ownBlock ∧ some k_ ≠ (.slice Ao225 t326.length co225 : Value).ownBlock ∧ k_ ≠ gb237 ∧ k_ ≠ gb308)) (qR (Kd.R_mono HO_250001.out (fun _ hk => ⟨⟨hk.1, ⟨hk.2.1, ⟨hk.2.2.1, ⟨hk.2.2.2.2.1, ⟨hk.2.2.2.2.2.1, hk.2.2.2.2.2.2⟩⟩⟩⟩⟩, hk.2.2.2.1⟩))) hg (.inl rfl)); have n2_ := Aside0.mk (Kd.R_over' (v := (.slice (some ⟨go201, 0, none⟩) t323.length co218)) (qR HO_250002.out) (Kd.R_typed HO325.out) (by decide) hg); have n3_ := Aside0.mk (Kd.R_after (v := (.slice (some ⟨go201, 0, none⟩) t323.length co218)) (v1 := (.slice (some ⟨go201, 0, none⟩) t323.length co218)) (ok := (fun k_ => some k_ ≠ (.slice Ao29 t240.length co29 : Value).ownBlock ∧ some k_ ≠ (.slice Ao33 t243.length co33 : Value).ownBlock ∧ some k_ ≠ (.slice Ao167 t312.length co167 : Value).ownBlock ∧ some k_ ≠ (.slice Ao225 t326.length co225 : Value).ownBlock ∧ k_ ≠ gb237 ∧ k_ ≠ gb308)) (qR (Kd.R_mono HO_320000.out (fun _ hk => ⟨⟨hk.1, ⟨hk.2.1, ⟨hk.2.2.1, ⟨hk.2.2.2.2.1, ⟨hk.2.2.2.2.2.1, hk.2.2.2.2.2.2⟩⟩⟩⟩⟩, hk.2.2.2.1⟩))) hg (.inl rfl)); have n4_ := Aside0.mk (Kd.R_after (v := (.slice (some ⟨go201, 0, none⟩) t323.length co218)) (v1 := (.slice (some ⟨go201, 0, none⟩) t323.length co218)) (ok := (fun k_ => some k_ ≠ (.slice Ao29 t240.length co29 : Value).ownBlock ∧ some k_ ≠ (.slice Ao33 t243.length co33 : Value).ownBlock ∧ some k_ ≠ (.slice Ao161 t309.length co161 : Value).ownBlock ∧ some k_ ≠ (.slice Ao225 t326.length co225 : Value).ownBlock ∧ k_ ≠ gb237 ∧ k_ ≠ gb308)) (qR (Kd.R_mono HO_320001.out (fun _ hk => ⟨⟨hk.1, ⟨hk.2.1, ⟨hk.2.2.1, ⟨hk.2.2.2.2.1, ⟨hk.2.2.2.2.2.1, hk.2.2.2.2.2.2⟩⟩⟩⟩⟩, hk.2.2.2.1⟩))) hg (.inl rfl)); have n5_ := Aside0.mk (Kd.R_over' (v := (.slice (some ⟨go201, 0, none⟩) t323.length co218)) (qR HO_320002.out) (Kd.R_typed HO325.out) (by decide) hg); have n6_ := Aside0.mk (blk_grown (qb BK236.out) hg (Kd.R_ne HO325.out BK236.out (by decide))); have n7_ := Aside0.mk (blk_grown (qb BK237.out) hg (Kd.R_away HO325.out (fun _ hk => hk.2.2.2.2.2.1))); have n8_ := Aside0.mk (blk_grown (qb BK249.out) hg (Kd.R_ne HO325.out BK249.out (by decide))); have n9_ := Aside0.mk (blk_grown (qb BK308.out) hg (Kd.R_away HO325.out (fun _ hk => hk.2.2.2.2.2.2))); have n10_ := Aside0.mk (blk_grown (qb BK319.out) hg (Kd.R_ne HO325.out BK319.out (by decide))); have n11_ := Aside0.mk (hp_); have n12_ := Aside0.mk (Kd.R_after (v := (.slice (some ⟨go201, 0, none⟩) t323.length co218)) (v1 := (.slice (some ⟨go201, 0, none⟩) t323.length co218)) (ok := (fun k_ => some k_ ≠ (.slice Ao29 t240.length co29 : Value).ownBlock ∧ some k_ ≠ (.slice Ao33 t243.length co33 : Value).ownBlock ∧ some k_ ≠ (.slice Ao161 t309.length co161 : Value).ownBlock ∧ some k_ ≠ (.slice Ao167 t312.length co167 : Value).ownBlock ∧ k_ ≠ gb237 ∧ k_ ≠ gb308)) (qR (Kd.R_mono HO328.out (fun _ hk => ⟨⟨hk.1, ⟨hk.2.1, ⟨hk.2.2.1, ⟨hk.2.2.2.1, ⟨hk.2.2.2.2.2.1, hk.2.2.2.2.2.2⟩⟩⟩⟩⟩, hk.2.2.2.2.1⟩))) hg (.inl rfl)); have n13_ := Aside0.mk (Kd.R_over' (v := (.slice (some ⟨go201, 0, none⟩) t323.length co218)) (qR HO331.out) (Kd.R_typed HO325.out) (by decide) hg); have n14_ := Aside0.mk (blk_grown (qb BK332.out) hg (Kd.R_ne HO325.out BK332.out (by decide))); have n15_ := Aside0.mk ((by rw [hw]; exact below_set (below_set (below_set (below_set (HB.out) GB201.out) GB201.out) GB201.out) GB201.out : Below w.heap.size w w234)); clear HO_250000 HO_250001 HO_250002 HO_320000 HO_320001 HO_320002 BK236 BK237 BK249 BK308 BK319 HO325 HO328 HO331 BK332 HB; have HO_250000 := n0_; have HO_250001 := n1_; have HO_250002 := n2_; have HO_320000 := n3_; have HO_320001 := n4_; have HO_320002 := n5_; have BK236 := n6_; have BK237 := n7_; have BK249 := n8_; have BK308 := n9_; have BK319 := n10_; have HO325 := n11_; have HO328 := n12_; have HO331 := n13_; have BK332 := n14_; have HB := n15_; clear n0_ n1_ n2_ n3_ n4_ n5_ n6_ n7_ n8_ n9_ n10_ n11_ n12_ n13_ n14_ n15_; clear hg hw hp_))
                     have n0_ := Aside0.mk (Kd.R_drew HO_250000.out)
                     have n1_ := Aside0.mk (Kd.R_drew HO_250001.out)
                     have n2_ := Aside0.mk (Kd.R_drew HO_250002.out)
                     have n3_ := Aside0.mk (Kd.R_drew HO_320000.out)
                     have n4_ := Aside0.mk (Kd.R_drew HO_320001.out)
                     have n5_ := Aside0.mk (Kd.R_drew HO_320002.out)
                     have n6_ := Aside0.mk (Kd.R_drew HO325.out)
                     have n7_ := Aside0.mk (Kd.R_drew HO328.out)
                     have n8_ := Aside0.mk (Kd.R_drew HO331.out)
                     have n9_ := Aside0.mk (blk_drew BK236.out)
                     have n10_ := Aside0.mk (blk_drew BK237.out)
                     have n11_ := Aside0.mk (blk_drew BK249.out)
                     have n12_ := Aside0.mk (blk_drew BK308.out)
                     have n13_ := Aside0.mk (blk_drew BK319.out)
                     have n14_ := Aside0.mk (blk_drew BK332.out)
                     have n15_ := Aside0.mk (below_drew1 HB.out)
                     clear HO_250000
                     clear HO_250001
                     clear HO_250002
                     clear HO_320000
                     clear HO_320001
                     clear HO_320002
                     clear HO325
                     clear HO328
                     clear HO331
                     clear BK236
                     clear BK237
                     clear BK249
                     clear BK308
                     clear BK319
                     clear BK332
                     clear HB
                     have HO_250000 := n0_
                     have HO_250001 := n1_
                     have HO_250002 := n2_
                     have HO_320000 := n3_
                     have HO_320001 := n4_
                     have HO_320002 := n5_
                     have HO325 := n6_
                     have HO328 := n7_
                     have HO331 := n8_
                     have BK236 := n9_
                     have BK237 := n10_
                     have BK249 := n11_
                     have BK308 := n12_
                     have BK319 := n13_
                     have BK332 := n14_
                     have HB := n15_
                     clear n0_ n1_ n2_ n3_ n4_ n5_ n6_ n7_ n8_ n9_ n10_ n11_ n12_ n13_ n14_ n15_
                     have p334 : 0 ≤ (a3 : Int) := of_decide_eq_true (by first | (with_reducible assumption) | assumption)
                     have q334 : a3 < (l0_0.length : Int) := of_decide_eq_true (by first | (with_reducible assumption) | assumption)
                     obtain ⟨ad334, e334, hx334_0, hx334_1, hx334_2, hx334_3⟩ := at_T56 HR0_0.out a3 p334 q334
                     have hw334_3 := hx334_3
                     have hw334_2 := hx334_2
                     have hw334_1 := hx334_1
                     have hw334_0 := hx334_0
                     cases e334
                     replace hx334_0 := (HB.out.cell (World.block_lt_of_cell? w _ hx334_0)).trans hx334_0
                     replace hx334_1 := (HB.out.cell (World.block_lt_of_cell? w _ hx334_1)).trans hx334_1
                     replace hx334_2 := (HB.out.cell (World.block_lt_of_cell? w _ hx334_2)).trans hx334_2
                     replace hx334_3 := (HB.out.cell (World.block_lt_of_cell? w _ hx334_3)).trans hx334_3
                     replace p334 := eq_true p334
                     replace q334 := eq_true q334
                     refine start_ (n := 29) (S := fun w' => w'.cell? ⟨gb308, 0, none⟩ = some (.int .u8 t303) ∧ w'.cell? ⟨gb308, 1, none⟩ = some (.int .u8 t304) ∧ w'.cell? ⟨gb308, 2, none⟩ = some (.int .u16 t305) ∧ w'.cell? ⟨gb308, 3, none⟩ = some (.int .i64 t306) ∧ w'.cell? ⟨gb236, 0, none⟩ = some (.slice (some ad334) l0_0.length c0_0) ∧ w'.cell? ⟨gb236, 1, none⟩ = some (.slice A0_1 l0_1.length c0_1) ∧ w'.cell? ⟨gb236, 2, none⟩ = some (.slice A0_2 l0_2.length c0_2) ∧ w'.cell? ⟨gb319, 0, none⟩ = some (.slice Ao161 t309.length co161) ∧ w'.cell? ⟨gb319, 1, none⟩ = some (.slice Ao167 t312.length co167) ∧ w'.cell? ⟨gb319, 2, none⟩ = some (.slice Ao168 t315.length co168) ∧ w'.cell? ⟨gb332, 0, none⟩ = some (.slice (some ⟨go201, 0, none⟩) t323.length co218) ∧ w'.cell? ⟨gb332, 1, none⟩ = some (.slice Ao225 t326.length co225) ∧ w'.cell? ⟨gb332, 2, none⟩ = some (.slice Ao226 t329.length co226) ∧ w'.cell? ⟨gb249, 0, none⟩ = some (.slice Ao29 t240.length co29) ∧ w'.cell? ⟨gb249, 1, none⟩ = some (.slice Ao33 t243.length co33) ∧ w'.cell? ⟨gb249, 2, none⟩ = some (.slice Ao34 t246.length co34) ∧ w'.cell? (ad334.add ((a3).toNat * 4)) = some (.int .u8 ((rd_T56 l0_0 a3).f0)) ∧ w'.cell? ⟨(ad334.add ((a3).toNat * 4)).block, (ad334.add ((a3).toNat * 4)).off + 1, none⟩ = some (.int .u8 ((rd_T56 l0_0 a3).f1.f0)) ∧ w'.cell? ⟨(ad334.add ((a3).toNat * 4)).block, (ad334.add ((a3).toNat * 4)).off + 2, none⟩ = some (.int .u16 ((rd_T56 l0_0 a3).f1.f1)) ∧ w'.cell? ⟨(ad334.add ((a3).toNat * 4)).block, (ad334.add ((a3).toNat * 4)).off + 3, none⟩ = some (.int .i64 ((rd_T56 l0_0 a3).f2))) (ds := []) #[false, false, false, false, false, false, false, false, false, false, false, false, false, false, false, false, false, false, false, false, false, false, false, false, false, false, false, false, false] (by kernel_rfl) rfl rfl ⟨(blk_cell BK308.out 0).trans rfl, (blk_cell BK308.out 1).trans rfl, (blk_cell BK308.out 2).trans rfl, (blk_cell BK308.out 3).trans rfl, (blk_cell BK236.out 0).trans rfl, (blk_cell BK236.out 1).trans rfl, (blk_cell BK236.out 2).trans rfl, (blk_cell BK319.out 0).trans rfl, (blk_cell BK319.out 1).trans rfl, (blk_cell BK319.out 2).trans rfl, (blk_cell BK332.out 0).trans rfl, (blk_cell BK332.out 1).trans rfl, (blk_cell BK332.out 2).trans rfl, (blk_cell BK249.out 0).trans rfl, (blk_cell BK249.out 1).trans rfl, (blk_cell BK249.out 2).trans rfl, ((HB.out.cell (World.block_lt_of_cell? w _ hw334_0)).trans hw334_0), ((HB.out.cell (World.block_lt_of_cell? w _ hw334_1)).trans hw334_1), ((HB.out.cell (World.block_lt_of_cell? w _ hw334_2)).trans hw334_2), ((HB.out.cell (World.block_lt_of_cell? w _ hw334_3)).trans hw334_3)⟩ (fun hHeld => ?_); refine with_tabW garderobelaw17_ShapeMoves.tab18 garderobelaw17_ShapeMoves.bits18 (fun HT_ HW_ => ?_)
                     generalize w234.drew = w235 at HO_250000 HO_250001 HO_250002 HO_320000 HO_320001 HO_320002 HO325 HO328 HO331 BK236 BK237 BK249 BK308 BK319 BK332 HB hx334_0 hx334_1 hx334_2 hx334_3 hHeld ⊢
                     refine pure_ (i := 0) (N := some 135) (v := ?_) (a' := ?_) #[true, false, false, false, false, false, false, false, false, false, false, false, false, false, false, false, false, false, false, false, false, false, false, false, false, false, false, false, false] rfl rfl (any_of HT_.out (by kernel_rfl)) (fun _ _ _ h => h) (Or.inl ⟨by rfl, ?_⟩) ?_ ?_
                     rotate_left
                     ·intro w'
                      go_simp
                      with_reducible rfl
                     rotate_left
                     ·simp only [Act.put, List.setIfInBounds_toArray, List.set_cons_zero, List.set_cons_succ, i64_w, i32_w]
                      rfl
                     refine pure_ (i := 1) (N := some 136) (v := ?_) (a' := ?_) #[true, true, false, false, false, false, false, false, false, false, false, false, false, false, false, false, false, false, false, false, false, false, false, false, false, false, false, false, false] rfl rfl (any_of HT_.out (by kernel_rfl)) (fun _ _ _ h => h) (Or.inl ⟨by rfl, ?_⟩) ?_ ?_
                     rotate_left
                     ·intro w'
                      go_simp
                      with_reducible rfl
                     rotate_left
                     ·simp only [Act.put, List.setIfInBounds_toArray, List.set_cons_zero, List.set_cons_succ, i64_w, i32_w]
                      rfl
                     refine pure_ (i := 2) (N := some 137) (v := ?_) (a' := ?_) #[true, true, true, false, false, false, false, false, false, false, false, false, false, false, false, false, false, false, false, false, false, false, false, false, false, false, false, false, false] rfl rfl (any_of HT_.out (by kernel_rfl)) (fun _ _ _ h => h) (Or.inl ⟨by rfl, ?_⟩) ?_ ?_
                     rotate_left
                     ·intro w'
                      go_simp
                      with_reducible rfl
                     rotate_left
                     ·simp only [Act.put, List.setIfInBounds_toArray, List.set_cons_zero, List.set_cons_succ, i64_w, i32_w]
                      rfl
                     refine pure_ (i := 3) (N := some 138) (v := ?_) (a' := ?_) #[true, true, true, true, false, false, false, false, false, false, false, false, false, false, false, false, false, false, false, false, false, false, false, false, false, false, false, false, false] rfl rfl (any_of HT_.out (by kernel_rfl)) (fun _ _ _ h => h) (Or.inl ⟨by rfl, ?_⟩) ?_ ?_
                     rotate_left
                     ·intro w'
                      go_simp
                      with_reducible rfl
                     rotate_left
                     ·simp only [Act.put, List.setIfInBounds_toArray, List.set_cons_zero, List.set_cons_succ, i64_w, i32_w]
                      rfl
                     refine pure_ (i := 4) (N := some 139) (v := ?_) (a' := ?_) #[true, true, true, true, true, false, false, false, false, false, false, false, false, false, false, false, false, false, false, false, false, false, false, false, false, false, false, false, false] rfl rfl (any_of HT_.out (by kernel_rfl)) (fun _ _ _ h => h) (Or.inl ⟨by rfl, ?_⟩) ?_ ?_
                     rotate_left
                     ·intro w'
                      go_simp
                      with_reducible rfl
                     rotate_left
                     ·simp only [Act.put, List.setIfInBounds_toArray, List.set_cons_zero, List.set_cons_succ, i64_w, i32_w]
                      rfl
                     refine pure_ (i := 5) (N := some 140) (v := ?_) (a' := ?_) #[true, true, true, true, true, true, false, false, false, false, false, false, false, false, false, false, false, false, false, false, false, false, false, false, false, false, false, false, false] rfl rfl (any_of HT_.out (by kernel_rfl)) (fun _ _ _ h => h) (Or.inl ⟨by rfl, ?_⟩) ?_ ?_
                     rotate_left
                     ·intro w'
                      go_simp
                      with_reducible rfl
                     rotate_left
                     ·simp only [Act.put, List.setIfInBounds_toArray, List.set_cons_zero, List.set_cons_succ, i64_w, i32_w]
                      rfl
                     refine pure_ (i := 6) (N := some 141) (v := ?_) (a' := ?_) #[true, true, true, true, true, true, true, false, false, false, false, false, false, false, false, false, false, false, false, false, false, false, false, false, false, false, false, false, false] rfl rfl (any_of HT_.out (by kernel_rfl)) (fun _ _ _ h => h) (Or.inl ⟨by rfl, ?_⟩) ?_ ?_
                     rotate_left
                     ·intro w'
                      go_simp
                      with_reducible rfl
                     rotate_left
                     ·simp only [Act.put, List.setIfInBounds_toArray, List.set_cons_zero, List.set_cons_succ, i64_w, i32_w]
                      rfl
                     refine pure_ (i := 8) (N := some 143) (v := ?_) (a' := ?_) #[true, true, true, true, true, true, true, false, true, false, false, false, false, false, false, false, false, false, false, false, false, false, false, false, false, false, false, false, false] rfl rfl (any_of HT_.out (by kernel_rfl)) (fun _ _ _ h => h) (Or.inl ⟨by rfl, ?_⟩) ?_ ?_
                     rotate_left
                     ·intro w'
                      go_simp
                      with_reducible rfl
                     rotate_left
                     ·simp only [Act.put, List.setIfInBounds_toArray, List.set_cons_zero, List.set_cons_succ, i64_w, i32_w]
                      rfl
                     refine pure_ (i := 10) (N := some 145) (v := ?_) (a' := ?_) #[true, true, true, true, true, true, true, false, true, false, true, false, false, false, false, false, false, false, false, false, false, false, false, false, false, false, false, false, false] rfl rfl (any_of HT_.out (by kernel_rfl)) (fun _ _ _ h => h) (Or.inl ⟨by rfl, ?_⟩) ?_ ?_
                     rotate_left
                     ·intro w'
                      go_simp
                      with_reducible rfl
                     rotate_left
                     ·simp only [Act.put, List.setIfInBounds_toArray, List.set_cons_zero, List.set_cons_succ, i64_w, i32_w]
                      rfl
                     refine take_ (i := 7) (N := some 142) (v := ?_) (a' := ?_) #[true, true, true, true, true, true, true, true, true, false, true, false, false, false, false, false, false, false, false, false, false, false, false, false, false, false, false, false, false] rfl rfl (take_ofW HT_.out HW_.out (by kernel_rfl)) (fun _ _ _ h => h) (Or.inl ⟨by rfl, ?_⟩) hHeld ?_ ?_
                     rotate_left
                     ·rintro w' ⟨s0, s1, s2, s3, s4, s5, s6, s7, s8, s9, s10, s11, s12, s13, s14, s15, s16, s17, s18, s19⟩
                      (try simp only [Int.toNat_natCast] at s0 s1 s2 s3 s4 s5 s6 s7 s8 s9 s10 s11 s12 s13 s14 s15 s16 s17 s18 s19)
                      go_simp
                      with_reducible rfl
                     rotate_left
                     ·simp only [Act.put, List.setIfInBounds_toArray, List.set_cons_zero, List.set_cons_succ, i64_w, i32_w]
                      rfl
                     refine take_ (i := 9) (N := some 144) (v := ?_) (a' := ?_) #[true, true, true, true, true, true, true, true, true, true, true, false, false, false, false, false, false, false, false, false, false, false, false, false, false, false, false, false, false] rfl rfl (take_ofW HT_.out HW_.out (by kernel_rfl)) (fun _ _ _ h => h) (Or.inl ⟨by rfl, ?_⟩) hHeld ?_ ?_
                     rotate_left
                     ·rintro w' ⟨s0, s1, s2, s3, s4, s5, s6, s7, s8, s9, s10, s11, s12, s13, s14, s15, s16, s17, s18, s19⟩
                      (try simp only [Int.toNat_natCast] at s0 s1 s2 s3 s4 s5 s6 s7 s8 s9 s10 s11 s12 s13 s14 s15 s16 s17 s18 s19)
                      go_simp
                      with_reducible rfl
                     rotate_left
                     ·simp only [Act.put, List.setIfInBounds_toArray, List.set_cons_zero, List.set_cons_succ, i64_w, i32_w]
                      rfl
                     refine pure_ (i := 11) (N := some 146) (v := ?_) (a' := ?_) #[true, true, true, true, true, true, true, true, true, true, true, true, false, false, false, false, false, false, false, false, false, false, false, false, false, false, false, false, false] rfl rfl (any_of HT_.out (by kernel_rfl)) (fun _ _ _ h => h) (Or.inl ⟨by rfl, ?_⟩) ?_ ?_
                     rotate_left
                     ·intro w'
                      go_simp
                      with_reducible rfl
                     rotate_left
                     ·simp only [Act.put, List.setIfInBounds_toArray, List.set_cons_zero, List.set_cons_succ, i64_w, i32_w]
                      rfl
                     refine take_ (i := 12) (N := some 147) (v := ?_) (a' := ?_) #[true, true, true, true, true, true, true, true, true, true, true, true, true, false, false, false, false, false, false, false, false, false, false, false, false, false, false, false, false] rfl rfl (take_ofW HT_.out HW_.out (by kernel_rfl)) (fun _ _ _ h => h) (Or.inl ⟨by rfl, ?_⟩) hHeld ?_ ?_
                     rotate_left
                     ·rintro w' ⟨s0, s1, s2, s3, s4, s5, s6, s7, s8, s9, s10, s11, s12, s13, s14, s15, s16, s17, s18, s19⟩
                      (try simp only [Int.toNat_natCast] at s0 s1 s2 s3 s4 s5 s6 s7 s8 s9 s10 s11 s12 s13 s14 s15 s16 s17 s18 s19)
                      go_simp
                      with_reducible rfl
                     rotate_left
                     ·simp only [Act.put, List.setIfInBounds_toArray, List.set_cons_zero, List.set_cons_succ, i64_w, i32_w]
                      rfl
                     refine pure_ (i := 13) (N := some 148) (v := ?_) (a' := ?_) #[true, true, true, true, true, true, true, true, true, true, true, true, true, true, false, false, false, false, false, false, false, false, false, false, false, false, false, false, false] rfl rfl (any_of HT_.out (by kernel_rfl)) (fun _ _ _ h => h) (Or.inl ⟨by rfl, ?_⟩) ?_ ?_
                     rotate_left
                     ·intro w'
                      go_simp
                      with_reducible rfl
                     rotate_left
                     ·simp only [Act.put, List.setIfInBounds_toArray, List.set_cons_zero, List.set_cons_succ, i64_w, i32_w]
                      rfl
                     refine pure_ (i := 14) (N := some 149) (v := ?_) (a' := ?_) #[true, true, true, true, true, true, true, true, true, true, true, true, true, true, true, false, false, false, false, false, false, false, false, false, false, false, false, false, false] rfl rfl (any_of HT_.out (by kernel_rfl)) (fun _ _ _ h => h) (Or.inl ⟨by rfl, ?_⟩) ?_ ?_
                     rotate_left
                     ·intro w'
                      go_simp
                      with_reducible rfl
                     rotate_left
                     ·simp only [Act.put, List.setIfInBounds_toArray, List.set_cons_zero, List.set_cons_succ, i64_w, i32_w]
                      rfl
                     refine pure_ (i := 15) (N := some 150) (v := ?_) (a' := ?_) #[true, true, true, true, true, true, true, true, true, true, true, true, true, true, true, true, false, false, false, false, false, false, false, false, false, false, false, false, false] rfl rfl (any_of HT_.out (by kernel_rfl)) (fun _ _ _ h => h) (Or.inl ⟨by rfl, ?_⟩) ?_ ?_
                     rotate_left
                     ·intro w'
                      go_simp
                      with_reducible rfl
                     rotate_left
                     ·simp only [Act.put, List.setIfInBounds_toArray, List.set_cons_zero, List.set_cons_succ, i64_w, i32_w]
                      rfl
                     refine take_ (i := 16) (N := some 151) (v := ?_) (a' := ?_) #[true, true, true, true, true, true, true, true, true, true, true, true, true, true, true, true, true, false, false, false, false, false, false, false, false, false, false, false, false] rfl rfl (take_ofW HT_.out HW_.out (by kernel_rfl)) (fun _ _ _ h => h) (Or.inl ⟨by rfl, ?_⟩) hHeld ?_ ?_
                     rotate_left
                     ·rintro w' ⟨s0, s1, s2, s3, s4, s5, s6, s7, s8, s9, s10, s11, s12, s13, s14, s15, s16, s17, s18, s19⟩
                      (try simp only [Int.toNat_natCast] at s0 s1 s2 s3 s4 s5 s6 s7 s8 s9 s10 s11 s12 s13 s14 s15 s16 s17 s18 s19)
                      go_simp
                      with_reducible rfl
                     rotate_left
                     ·simp only [Act.put, List.setIfInBounds_toArray, List.set_cons_zero, List.set_cons_succ, i64_w, i32_w]
                      rfl
                     refine take_ (i := 17) (N := some 152) (v := ?_) (a' := ?_) #[true, true, true, true, true, true, true, true, true, true, true, true, true, true, true, true, true, true, false, false, false, false, false, false, false, false, false, false, false] rfl rfl (take_ofW HT_.out HW_.out (by kernel_rfl)) (fun _ _ _ h => h) (Or.inl ⟨by rfl, ?_⟩) hHeld ?_ ?_
                     rotate_left
                     ·rintro w' ⟨s0, s1, s2, s3, s4, s5, s6, s7, s8, s9, s10, s11, s12, s13, s14, s15, s16, s17, s18, s19⟩
                      (try simp only [Int.toNat_natCast] at s0 s1 s2 s3 s4 s5 s6 s7 s8 s9 s10 s11 s12 s13 s14 s15 s16 s17 s18 s19)
                      go_simp
                      with_reducible rfl
                     rotate_left
                     ·simp only [Act.put, List.setIfInBounds_toArray, List.set_cons_zero, List.set_cons_succ, i64_w, i32_w]
                      rfl
                     refine one_ (i := 18) (N := some 153) #[true, true, true, true, true, true, true, true, true, true, true, true, true, true, true, true, true, true, true, false, false, false, false, false, false, false, false, false, false] rfl rfl (one_of HT_.out (by kernel_rfl)) (by decide) (fun K hK => ?_)
                     refine goes_ Try.func22 (by kernel_rfl) rfl #[.agg #[.slice Ao161 t309.length co161, .slice Ao167 t312.length co167, .slice Ao168 t315.length co168], .agg #[.slice (some ⟨go201, 0, none⟩) y333.length co218, .slice Ao225 t326.length co225, .slice Ao226 t329.length co226]] (by rfl) rfl rfl (by (try simp only [List.map_toArray, List.map_cons, List.map_nil]); first | done | (rw [show y333.length = t323.length from (Kd.R_reads' HO325.out).1.symm] <;> rfl) | rfl | (simp only [List.length_drop, List.length_take]; rfl)) ?_
                     with_reducible refine (garderoberef17_Same.calls kj145 _ _ t309 _ _ t312 _ _ t315 _ _ y333 _ _ t326 _ _ t329 true _ ?side1 ?side2 ?side3 ?side4 ?side5 ?side6 ?side7 ?side8 ?side9 ?side10 ?side11 ?side12 A206.out).mono ?_
                     (case side1 => exact qC (Kd.R_reads' HO_320000.out).2.2)
                     (case side2 => exact (Kd.R_reads' HO_320000.out).2.1)
                     (case side3 => exact qC (Kd.R_reads' HO_320001.out).2.2)
                     (case side4 => exact (Kd.R_reads' HO_320001.out).2.1)
                     (case side5 => exact qC (Kd.R_reads' HO_320002.out).2.2)
                     (case side6 => exact (Kd.R_reads' HO_320002.out).2.1)
                     (case side7 => exact qC (Kd.R_reads' HO325.out).2.2)
                     (case side8 => rw [show y333.length = t323.length from (Kd.R_reads' HO325.out).1.symm]; exact (Kd.R_reads' HO325.out).2.1)
                     (case side9 => exact qC (Kd.R_reads' HO328.out).2.2)
                     (case side10 => exact (Kd.R_reads' HO328.out).2.1)
                     (case side11 => exact qC (Kd.R_reads' HO331.out).2.2)
                     (case side12 => exact (Kd.R_reads' HO331.out).2.1)
                     rintro e w236 ⟨rfl, hb⟩
                     refine ⟨_, rfl, ?_⟩
                     have n0_ := Aside0.mk (Kd.R_below (qR HO_250000.out) hb)
                     have n1_ := Aside0.mk (Kd.R_below (qR HO_250001.out) hb)
                     have n2_ := Aside0.mk (Kd.R_below (qR HO_250002.out) hb)
                     have n3_ := Aside0.mk (Kd.R_below (qR HO_320000.out) hb)
                     have n4_ := Aside0.mk (Kd.R_below (qR HO_320001.out) hb)
                     have n5_ := Aside0.mk (Kd.R_below (qR HO_320002.out) hb)
                     have n6_ := Aside0.mk (Kd.R_below (qR HO325.out) hb)
                     have n7_ := Aside0.mk (Kd.R_below (qR HO328.out) hb)
                     have n8_ := Aside0.mk (Kd.R_below (qR HO331.out) hb)
                     have n9_ := Aside0.mk (blk_below (qb BK236.out) hb)
                     have n10_ := Aside0.mk (blk_below (qb BK237.out) hb)
                     have n11_ := Aside0.mk (blk_below (qb BK249.out) hb)
                     have n12_ := Aside0.mk (blk_below (qb BK308.out) hb)
                     have n13_ := Aside0.mk (blk_below (qb BK319.out) hb)
                     have n14_ := Aside0.mk (blk_below (qb BK332.out) hb)
                     have n15_ := Aside0.mk (below_step (qW HB.out) hb)
                     clear HO_250000
                     clear HO_250001
                     clear HO_250002
                     clear HO_320000
                     clear HO_320001
                     clear HO_320002
                     clear HO325
                     clear HO328
                     clear HO331
                     clear BK236
                     clear BK237
                     clear BK249
                     clear BK308
                     clear BK319
                     clear BK332
                     clear HB
                     have HO_250000 := n0_
                     have HO_250001 := n1_
                     have HO_250002 := n2_
                     have HO_320000 := n3_
                     have HO_320001 := n4_
                     have HO_320002 := n5_
                     have HO325 := n6_
                     have HO328 := n7_
                     have HO331 := n8_
                     have BK236 := n9_
                     have BK237 := n10_
                     have BK249 := n11_
                     have BK308 := n12_
                     have BK319 := n13_
                     have BK332 := n14_
                     have HB := n15_
                     clear n0_ n1_ n2_ n3_ n4_ n5_ n6_ n7_ n8_ n9_ n10_ n11_ n12_ n13_ n14_ n15_
                     (try clear hb)
                     (try clear hb2)
                     (try clear hk)
                     (try clear hi)
                     refine hK.out _ _ ⟨(blk_cell BK308.out 0).trans rfl, (blk_cell BK308.out 1).trans rfl, (blk_cell BK308.out 2).trans rfl, (blk_cell BK308.out 3).trans rfl, (blk_cell BK236.out 0).trans rfl, (blk_cell BK236.out 1).trans rfl, (blk_cell BK236.out 2).trans rfl, (blk_cell BK319.out 0).trans rfl, (blk_cell BK319.out 1).trans rfl, (blk_cell BK319.out 2).trans rfl, (blk_cell BK332.out 0).trans rfl, (blk_cell BK332.out 1).trans rfl, (blk_cell BK332.out 2).trans rfl, (blk_cell BK249.out 0).trans rfl, (blk_cell BK249.out 1).trans rfl, (blk_cell BK249.out 2).trans rfl, ((HB.out.cell (World.block_lt_of_cell? w _ hw334_0)).trans hw334_0), ((HB.out.cell (World.block_lt_of_cell? w _ hw334_1)).trans hw334_1), ((HB.out.cell (World.block_lt_of_cell? w _ hw334_2)).trans hw334_2), ((HB.out.cell (World.block_lt_of_cell? w _ hw334_3)).trans hw334_3)⟩ (fun hHeld => ?_)
                     clear hK K
                     refine norm_ (a' := ?_) ?_ ?_
                     rotate_left
                     ·show Act.put _ (some 153) _ = _
                      simp only [Act.put, List.setIfInBounds_toArray, List.set_cons_zero, List.set_cons_succ, i64_w, i32_w]
                      rfl
                     refine pure_ (i := 19) (N := some 154) (v := ?_) (a' := ?_) #[true, true, true, true, true, true, true, true, true, true, true, true, true, true, true, true, true, true, true, true, false, false, false, false, false, false, false, false, false] rfl rfl (any_of HT_.out (by kernel_rfl)) (fun _ _ _ h => h) (Or.inl ⟨by rfl, ?_⟩) ?_ ?_
                     rotate_left
                     ·intro w'
                      go_simp
                      with_reducible rfl
                     rotate_left
                     ·simp only [Act.put, List.setIfInBounds_toArray, List.set_cons_zero, List.set_cons_succ, i64_w, i32_w]
                      rfl
                     refine pure_ (i := 20) (N := some 155) (v := ?_) (a' := ?_) #[true, true, true, true, true, true, true, true, true, true, true, true, true, true, true, true, true, true, true, true, true, false, false, false, false, false, false, false, false] rfl rfl (any_of HT_.out (by kernel_rfl)) (fun _ _ _ h => h) (Or.inl ⟨by rfl, ?_⟩) ?_ ?_
                     rotate_left
                     ·intro w'
                      go_simp
                      with_reducible rfl
                     rotate_left
                     ·simp only [Act.put, List.setIfInBounds_toArray, List.set_cons_zero, List.set_cons_succ, i64_w, i32_w]
                      rfl
                     refine take_ (i := 21) (N := some 156) (v := ?_) (a' := ?_) #[true, true, true, true, true, true, true, true, true, true, true, true, true, true, true, true, true, true, true, true, true, true, false, false, false, false, false, false, false] rfl rfl (take_ofW HT_.out HW_.out (by kernel_rfl)) (fun _ _ _ h => h) (Or.inl ⟨by rfl, ?_⟩) hHeld ?_ ?_
                     rotate_left
                     ·rintro w' ⟨s0, s1, s2, s3, s4, s5, s6, s7, s8, s9, s10, s11, s12, s13, s14, s15, s16, s17, s18, s19⟩
                      (try simp only [Int.toNat_natCast] at s0 s1 s2 s3 s4 s5 s6 s7 s8 s9 s10 s11 s12 s13 s14 s15 s16 s17 s18 s19)
                      go_simp
                      with_reducible rfl
                     rotate_left
                     ·simp only [Act.put, List.setIfInBounds_toArray, List.set_cons_zero, List.set_cons_succ, i64_w, i32_w]
                      rfl
                     refine take_ (i := 22) (N := some 157) (v := ?_) (a' := ?_) #[true, true, true, true, true, true, true, true, true, true, true, true, true, true, true, true, true, true, true, true, true, true, true, false, false, false, false, false, false] rfl rfl (take_ofW HT_.out HW_.out (by kernel_rfl)) (fun _ _ _ h => h) (Or.inl ⟨by rfl, ?_⟩) hHeld ?_ ?_
                     rotate_left
                     ·rintro w' ⟨s0, s1, s2, s3, s4, s5, s6, s7, s8, s9, s10, s11, s12, s13, s14, s15, s16, s17, s18, s19⟩
                      (try simp only [Int.toNat_natCast] at s0 s1 s2 s3 s4 s5 s6 s7 s8 s9 s10 s11 s12 s13 s14 s15 s16 s17 s18 s19)
                      go_simp
                      with_reducible rfl
                     rotate_left
                     ·simp only [Act.put, List.setIfInBounds_toArray, List.set_cons_zero, List.set_cons_succ, i64_w, i32_w]
                      rfl
                     refine one_ (i := 23) (N := some 158) #[true, true, true, true, true, true, true, true, true, true, true, true, true, true, true, true, true, true, true, true, true, true, true, true, false, false, false, false, false] rfl rfl (one_of HT_.out (by kernel_rfl)) (by decide) (fun K hK => ?_)
                     refine goes_ Try.func22 (by kernel_rfl) rfl #[.agg #[.slice (some ad334) l0_0.length c0_0, .slice A0_1 l0_1.length c0_1, .slice A0_2 l0_2.length c0_2], .agg #[.slice Ao29 t240.length co29, .slice Ao33 t243.length co33, .slice Ao34 t246.length co34]] (by rfl) rfl rfl (by (try simp only [List.map_toArray, List.map_cons, List.map_nil]); first | done | rfl | (simp only [List.length_drop, List.length_take]; rfl)) ?_
                     with_reducible refine (garderoberef17_Same.calls kj145 _ _ l0_0 _ _ l0_1 _ _ l0_2 _ _ t240 _ _ t243 _ _ t246 true _ ?side1 ?side2 ?side3 ?side4 ?side5 ?side6 ?side7 ?side8 ?side9 ?side10 ?side11 ?side12 A208.out).mono ?_
                     (case side1 => exact qC (Kd.C_below HR0_0.out HB.out))
                     (case side2 => exact HC0_0.out)
                     (case side3 => exact qC (Kd.C_below HR0_1.out HB.out))
                     (case side4 => exact HC0_1.out)
                     (case side5 => exact qC (Kd.C_below HR0_2.out HB.out))
                     (case side6 => exact HC0_2.out)
                     (case side7 => exact qC (Kd.R_reads' HO_250000.out).2.2)
                     (case side8 => exact (Kd.R_reads' HO_250000.out).2.1)
                     (case side9 => exact qC (Kd.R_reads' HO_250001.out).2.2)
                     (case side10 => exact (Kd.R_reads' HO_250001.out).2.1)
                     (case side11 => exact qC (Kd.R_reads' HO_250002.out).2.2)
                     (case side12 => exact (Kd.R_reads' HO_250002.out).2.1)
                     rintro e w237 ⟨rfl, hb⟩
                     refine ⟨_, rfl, ?_⟩
                     have n0_ := Aside0.mk (Kd.R_below (qR HO_250000.out) hb)
                     have n1_ := Aside0.mk (Kd.R_below (qR HO_250001.out) hb)
                     have n2_ := Aside0.mk (Kd.R_below (qR HO_250002.out) hb)
                     have n3_ := Aside0.mk (Kd.R_below (qR HO_320000.out) hb)
                     have n4_ := Aside0.mk (Kd.R_below (qR HO_320001.out) hb)
                     have n5_ := Aside0.mk (Kd.R_below (qR HO_320002.out) hb)
                     have n6_ := Aside0.mk (Kd.R_below (qR HO325.out) hb)
                     have n7_ := Aside0.mk (Kd.R_below (qR HO328.out) hb)
                     have n8_ := Aside0.mk (Kd.R_below (qR HO331.out) hb)
                     have n9_ := Aside0.mk (blk_below (qb BK236.out) hb)
                     have n10_ := Aside0.mk (blk_below (qb BK237.out) hb)
                     have n11_ := Aside0.mk (blk_below (qb BK249.out) hb)
                     have n12_ := Aside0.mk (blk_below (qb BK308.out) hb)
                     have n13_ := Aside0.mk (blk_below (qb BK319.out) hb)
                     have n14_ := Aside0.mk (blk_below (qb BK332.out) hb)
                     have n15_ := Aside0.mk (below_step (qW HB.out) hb)
                     clear HO_250000
                     clear HO_250001
                     clear HO_250002
                     clear HO_320000
                     clear HO_320001
                     clear HO_320002
                     clear HO325
                     clear HO328
                     clear HO331
                     clear BK236
                     clear BK237
                     clear BK249
                     clear BK308
                     clear BK319
                     clear BK332
                     clear HB
                     have HO_250000 := n0_
                     have HO_250001 := n1_
                     have HO_250002 := n2_
                     have HO_320000 := n3_
                     have HO_320001 := n4_
                     have HO_320002 := n5_
                     have HO325 := n6_
                     have HO328 := n7_
                     have HO331 := n8_
                     have BK236 := n9_
                     have BK237 := n10_
                     have BK249 := n11_
                     have BK308 := n12_
                     have BK319 := n13_
                     have BK332 := n14_
                     have HB := n15_
                     clear n0_ n1_ n2_ n3_ n4_ n5_ n6_ n7_ n8_ n9_ n10_ n11_ n12_ n13_ n14_ n15_
                     (try clear hb)
                     (try clear hb2)
                     (try clear hk)
                     (try clear hi)
                     refine hK.out _ _ ⟨(blk_cell BK308.out 0).trans rfl, (blk_cell BK308.out 1).trans rfl, (blk_cell BK308.out 2).trans rfl, (blk_cell BK308.out 3).trans rfl, (blk_cell BK236.out 0).trans rfl, (blk_cell BK236.out 1).trans rfl, (blk_cell BK236.out 2).trans rfl, (blk_cell BK319.out 0).trans rfl, (blk_cell BK319.out 1).trans rfl, (blk_cell BK319.out 2).trans rfl, (blk_cell BK332.out 0).trans rfl, (blk_cell BK332.out 1).trans rfl, (blk_cell BK332.out 2).trans rfl, (blk_cell BK249.out 0).trans rfl, (blk_cell BK249.out 1).trans rfl, (blk_cell BK249.out 2).trans rfl, ((HB.out.cell (World.block_lt_of_cell? w _ hw334_0)).trans hw334_0), ((HB.out.cell (World.block_lt_of_cell? w _ hw334_1)).trans hw334_1), ((HB.out.cell (World.block_lt_of_cell? w _ hw334_2)).trans hw334_2), ((HB.out.cell (World.block_lt_of_cell? w _ hw334_3)).trans hw334_3)⟩ (fun hHeld => ?_)
                     clear hK K
                     refine norm_ (a' := ?_) ?_ ?_
                     rotate_left
                     ·show Act.put _ (some 158) _ = _
                      simp only [Act.put, List.setIfInBounds_toArray, List.set_cons_zero, List.set_cons_succ, i64_w, i32_w]
                      rfl
                     refine pure_ (i := 24) (N := some 159) (v := ?_) (a' := ?_) #[true, true, true, true, true, true, true, true, true, true, true, true, true, true, true, true, true, true, true, true, true, true, true, true, true, false, false, false, false] rfl rfl (any_of HT_.out (by kernel_rfl)) (fun _ _ _ h => h) (Or.inl ⟨by rfl, ?_⟩) ?_ ?_
                     rotate_left
                     ·intro w'
                      go_simp
                      with_reducible rfl
                     rotate_left
                     ·simp only [Act.put, List.setIfInBounds_toArray, List.set_cons_zero, List.set_cons_succ, i64_w, i32_w]
                      rfl
                     refine pure_ (i := 25) (N := some 160) (v := ?_) (a' := ?_) #[true, true, true, true, true, true, true, true, true, true, true, true, true, true, true, true, true, true, true, true, true, true, true, true, true, true, false, false, false] rfl rfl (any_of HT_.out (by kernel_rfl)) (fun _ _ _ h => h) (Or.inl ⟨by rfl, ?_⟩) ?_ ?_
                     rotate_left
                     ·intro w'
                      go_simp
                      with_reducible rfl
                     rotate_left
                     ·simp only [Act.put, List.setIfInBounds_toArray, List.set_cons_zero, List.set_cons_succ, i64_w, i32_w]
                      rfl
                     refine one_ (i := 26) (N := some 161) #[true, true, true, true, true, true, true, true, true, true, true, true, true, true, true, true, true, true, true, true, true, true, true, true, true, true, true, false, false] rfl rfl (one_of HT_.out (by kernel_rfl)) (by decide) (fun K hK => ?_)
                     refine goes_ Try.func18 (by kernel_rfl) rfl #[] (by rfl) rfl rfl (by (try simp only [List.map_toArray, List.map_cons, List.map_nil]); first | done | rfl | (simp only [List.length_drop, List.length_take]; rfl)) ?_
                     with_reducible refine (garderobelaw17_lives.calls  t337 _ A210.out).mono ?_
                     rintro e w238 ⟨rfl, hb⟩
                     refine ⟨_, rfl, ?_⟩
                     have n0_ := Aside0.mk (Kd.R_below (qR HO_250000.out) hb)
                     have n1_ := Aside0.mk (Kd.R_below (qR HO_250001.out) hb)
                     have n2_ := Aside0.mk (Kd.R_below (qR HO_250002.out) hb)
                     have n3_ := Aside0.mk (Kd.R_below (qR HO_320000.out) hb)
                     have n4_ := Aside0.mk (Kd.R_below (qR HO_320001.out) hb)
                     have n5_ := Aside0.mk (Kd.R_below (qR HO_320002.out) hb)
                     have n6_ := Aside0.mk (Kd.R_below (qR HO325.out) hb)
                     have n7_ := Aside0.mk (Kd.R_below (qR HO328.out) hb)
                     have n8_ := Aside0.mk (Kd.R_below (qR HO331.out) hb)
                     have n9_ := Aside0.mk (blk_below (qb BK236.out) hb)
                     have n10_ := Aside0.mk (blk_below (qb BK237.out) hb)
                     have n11_ := Aside0.mk (blk_below (qb BK249.out) hb)
                     have n12_ := Aside0.mk (blk_below (qb BK308.out) hb)
                     have n13_ := Aside0.mk (blk_below (qb BK319.out) hb)
                     have n14_ := Aside0.mk (blk_below (qb BK332.out) hb)
                     have n15_ := Aside0.mk (below_step (qW HB.out) hb)
                     clear HO_250000
                     clear HO_250001
                     clear HO_250002
                     clear HO_320000
                     clear HO_320001
                     clear HO_320002
                     clear HO325
                     clear HO328
                     clear HO331
                     clear BK236
                     clear BK237
                     clear BK249
                     clear BK308
                     clear BK319
                     clear BK332
                     clear HB
                     have HO_250000 := n0_
                     have HO_250001 := n1_
                     have HO_250002 := n2_
                     have HO_320000 := n3_
                     have HO_320001 := n4_
                     have HO_320002 := n5_
                     have HO325 := n6_
                     have HO328 := n7_
                     have HO331 := n8_
                     have BK236 := n9_
                     have BK237 := n10_
                     have BK249 := n11_
                     have BK308 := n12_
                     have BK319 := n13_
                     have BK332 := n14_
                     have HB := n15_
                     clear n0_ n1_ n2_ n3_ n4_ n5_ n6_ n7_ n8_ n9_ n10_ n11_ n12_ n13_ n14_ n15_
                     (try clear hb)
                     (try clear hb2)
                     (try clear hk)
                     (try clear hi)
                     refine hK.out _ _ ⟨(blk_cell BK308.out 0).trans rfl, (blk_cell BK308.out 1).trans rfl, (blk_cell BK308.out 2).trans rfl, (blk_cell BK308.out 3).trans rfl, (blk_cell BK236.out 0).trans rfl, (blk_cell BK236.out 1).trans rfl, (blk_cell BK236.out 2).trans rfl, (blk_cell BK319.out 0).trans rfl, (blk_cell BK319.out 1).trans rfl, (blk_cell BK319.out 2).trans rfl, (blk_cell BK332.out 0).trans rfl, (blk_cell BK332.out 1).trans rfl, (blk_cell BK332.out 2).trans rfl, (blk_cell BK249.out 0).trans rfl, (blk_cell BK249.out 1).trans rfl, (blk_cell BK249.out 2).trans rfl, ((HB.out.cell (World.block_lt_of_cell? w _ hw334_0)).trans hw334_0), ((HB.out.cell (World.block_lt_of_cell? w _ hw334_1)).trans hw334_1), ((HB.out.cell (World.block_lt_of_cell? w _ hw334_2)).trans hw334_2), ((HB.out.cell (World.block_lt_of_cell? w _ hw334_3)).trans hw334_3)⟩ (fun hHeld => ?_)
                     clear hK K
                     refine norm_ (a' := ?_) ?_ ?_
                     rotate_left
                     ·show Act.put _ (some 161) _ = _
                      simp only [Act.put, List.setIfInBounds_toArray, List.set_cons_zero, List.set_cons_succ, i64_w, i32_w]
                      rfl
                     refine pure_ (i := 27) (N := some 162) (v := ?_) (a' := ?_) #[true, true, true, true, true, true, true, true, true, true, true, true, true, true, true, true, true, true, true, true, true, true, true, true, true, true, true, true, false] rfl rfl (any_of HT_.out (by kernel_rfl)) (fun _ _ _ h => h) (Or.inl ⟨by rfl, ?_⟩) ?_ ?_
                     rotate_left
                     ·intro w'
                      go_simp
                      with_reducible rfl
                     rotate_left
                     ·simp only [Act.put, List.setIfInBounds_toArray, List.set_cons_zero, List.set_cons_succ, i64_w, i32_w]
                      rfl
                     refine pure_ (i := 28) (N := some 12) (v := ?_) (a' := ?_) #[true, true, true, true, true, true, true, true, true, true, true, true, true, true, true, true, true, true, true, true, true, true, true, true, true, true, true, true, true] rfl rfl (any_of HT_.out (by kernel_rfl)) (fun _ _ _ h => h) (Or.inl ⟨by rfl, ?_⟩) ?_ ?_
                     rotate_left
                     ·intro w'
                      go_simp
                      with_reducible rfl
                     rotate_left
                     ·simp only [Act.put, List.setIfInBounds_toArray, List.set_cons_zero, List.set_cons_succ, i64_w, i32_w]
                      rfl
                     refine done_ (done_of HT_.out (by kernel_rfl)) ?_
                     try go_wp2
                     go_ret
                     exact ⟨by first | rfl | (simp [errW_none, errW_some] <;> rfl) | (simp [*, errW_none, errW_some] <;> rfl), by repeat (first | (with_reducible first | exact HB.out | apply below_alloc | apply pw_below_drewN | apply below_drew1 | refine below_set ?_ GE236.out | refine below_set ?_ GE237.out | refine below_set ?_ GE249.out | refine below_set ?_ GE308.out | refine below_set ?_ GE319.out | refine below_set ?_ GE332.out) | exact HB.out)⟩
                    ·replace c209 := Bool.eq_false_iff.mpr c209
                     subst c209
                     have H1 : (none) = some r := by rw [if_neg (show ¬ (false = true) by decide)] at H; exact H
                     clear H
                     have H := H1
                     clear H1
                     exact absurd H (by simp)
                   ·replace c207 := Bool.eq_false_iff.mpr c207
                    subst c207
                    have H1 : (none) = some r := by rw [if_neg (show ¬ (false = true) by decide)] at H; exact H
                    clear H
                    have H := H1
                    clear H1
                    exact absurd H (by simp)
                  ·rw [if_neg c205] at H
                   have c205b0 : (t303 == ((rd_T56 l0_0 a3).f0) && ((t304 == ((rd_T56 l0_0 a3).f1.f0) && (t305 == ((rd_T56 l0_0 a3).f1.f1))) && (t306 == ((rd_T56 l0_0 a3).f2)))) = false := by simpa using c205
                   (try (have c205b1 : decide (t303 = ((rd_T56 l0_0 a3).f0) && ((t304 == ((rd_T56 l0_0 a3).f1.f0) && (t305 == ((rd_T56 l0_0 a3).f1.f1))) && (t306 == ((rd_T56 l0_0 a3).f2)))) = false := by simpa using c205))
                   (try (have c205b2 : (t303 == ((rd_T56 l0_0 a3).f0) && ((t304 == ((rd_T56 l0_0 a3).f1.f0) && (t305 == ((rd_T56 l0_0 a3).f1.f1))) && (t306 == ((rd_T56 l0_0 a3).f2)))) = false := by simpa using c205))
                   (try (have c205b3 : ¬ (t303 = ((rd_T56 l0_0 a3).f0) && ((t304 == ((rd_T56 l0_0 a3).f1.f0) && (t305 == ((rd_T56 l0_0 a3).f1.f1))) && (t306 == ((rd_T56 l0_0 a3).f2)))) := by simpa using c205))
                   clear c205
                   exact absurd H (by simp)
                 ·rw [if_neg c204] at H
                  exact absurd H (by simp)
                ·rw [if_neg c203] at H
                 have c203b0 : (t318 == 0) = false := beq_eq_false_iff_ne.mpr c203
                 have c203b1 : (t318 != 0) = true := bne_iff_ne.mpr c203
                 exact absurd H (by simp)
               ·rw [if_neg c202] at H
                have c202b0 : (t307 == 0) = false := beq_eq_false_iff_ne.mpr c202
                have c202b1 : (t307 != 0) = true := bne_iff_ne.mpr c202
                exact absurd H (by simp)
              ·rw [if_neg c200] at H
               exact absurd H (by simp)
             ·rw [if_neg c199] at H
              exact absurd H (by simp)

end Go.Proofs.Ytjknnifcbcdjiaa.PShapeMoves
