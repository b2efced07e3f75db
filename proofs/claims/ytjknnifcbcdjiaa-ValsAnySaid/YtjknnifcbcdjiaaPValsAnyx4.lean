/- Printed by a program of this session (pr.py). -/
import Derived.Test.YtjknnifcbcdjiaaPValsAnyx0
import Derived.Test.YtjknnifcbcdjiaaPValsAnyx1
import Derived.Test.YtjknnifcbcdjiaaPValsAnyx2
import Derived.Test.YtjknnifcbcdjiaaPValsAnyx3
import Derived.Test.YtjknnifcbcdjiaaPValsAnyh
import Derived.Test.YtjknnifcbcdjiaaShort
namespace Go.Proofs.Ytjknnifcbcdjiaa.PValsAny
open Go.RowKit Go.Proofs.YtjknnifcbcdjiaaW.PrintWords Go.Proofs.YtjknnifcbcdjiaaW.PrintLast Go.Proofs.YtjknnifcbcdjiaaW.PrintMore Go.Proofs.Ytjknnifcbcdjiaa.Short
attribute [local go_sem] max2_int min2_int max_two min_two max_three min_three max_four min_four   -- for this text's walks alone
set_option linter.unusedVariables false
set_option linter.unusedSimpArgs false

attribute [local go_sem high] eqA32 eqA56
/-! ### vals_May: function 37 -/
def vals_May.j0 : Nat → Int → Bool → List (S103) → List (S38) → List (S206) → List (S117) → Int → Int → Int → Int → Option (Bool)
 | 0, _, _, _, _, _, _, _, _, _, _ => none
 | k + 1, x8, x9, x111000, x111001, x111002, x111003, x112000, x112001, x112002, x112003 => if x9 = true then (some ((x112001 == 0 && (x112002 == 0)) && (x112003 == 0))) else (if x8 = 4 then (if x112001 = 4 then (if x112003 = 0 then ((types_May.f k x112001 x112002).bind fun t113 => (if t113 = true then ((types_IsRef.f k x112001 x112002).bind fun t114 => (if t114 = true then ((vals_class.f x111000 x111001 x111002 x111003 x112002).bind fun t115 => (some t115)) else (some false))) else (some false))) else (some false)) else (if x112003 = 0 then ((types_May.f k x112001 x112002).bind fun t116 => (if t116 = true then ((types_IsRef.f k x112001 x112002).bind fun t117 => (if t117 = true then (if x112001 = 8 then ((vals_class.f x111000 x111001 x111002 x111003 x112002).bind fun t118 => (some t118)) else (some true)) else (some false))) else (some false))) else (some false))) else (if x8 = 5 then (if (x112001 == 0 && (x112002 == 0)) = true then (if x112003 ≥ 0 then (some (decide (x112003 ≤ 8))) else (some false)) else (some false)) else (some false)))
def vals_May.f (k : Nat) (l0_0 : List (S103)) (l0_1 : List (S38)) (l0_2 : List (S206)) (l0_3 : List (S117)) (a1_0 : Int) (a1_1 : Int) (a1_2 : Int) (a1_3 : Int) : Option (Bool) := if a1_0 = 1 then (vals_May.j0 k a1_0 (a1_0 == 1) l0_0 l0_1 l0_2 l0_3 a1_0 a1_1 a1_2 a1_3) else (if a1_0 = 2 then (vals_May.j0 k a1_0 (a1_0 == 2) l0_0 l0_1 l0_2 l0_3 a1_0 a1_1 a1_2 a1_3) else (vals_May.j0 k a1_0 (a1_0 == 3) l0_0 l0_1 l0_2 l0_3 a1_0 a1_1 a1_2 a1_3))
theorem vals_May.mono_l : ∀ k, (∀ y0 y1 y2 y3 y4 y5 y6 y7 y8 y9, LeO (vals_May.j0 k y0 y1 y2 y3 y4 y5 y6 y7 y8 y9) (vals_May.j0 (k + 1) y0 y1 y2 y3 y4 y5 y6 y7 y8 y9))
 | 0 => fun _ _ _ _ _ _ _ _ _ _ r h => by simp [vals_May.j0] at h
 | k + 1 => by
  have ih0 := vals_May.mono_l k
  ·intro y0 y1 y2 y3 y4 y5 y6 y7 y8 y9
   unfold vals_May.j0
   repeat' first
   | (with_reducible exact ih0 _ _ _ _ _ _ _ _ _ _)
   | (with_reducible exact types_IsRef.mono _ _ _)
   | (with_reducible exact types_May.mono _ _ _)
   | (with_reducible exact LeO.refl _)
   | (with_reducible exact LeO.none _)
   | (with_reducible refine LeO.ite ?_ ?_)
   | (with_reducible refine LeO.bind ?_ (fun _ => ?_))
   | exact ih0 _ _ _ _ _ _ _ _ _ _
   | exact types_IsRef.mono _ _ _
   | exact types_May.mono _ _ _
   | exact LeO.none _
   | refine LeO.ite ?_ ?_
   | refine LeO.bind ?_ (fun _ => ?_)
theorem vals_May.mono : ∀ a0 a1 a2 a3 a4 a5 a6 a7 k, LeO (vals_May.f k a0 a1 a2 a3 a4 a5 a6 a7) (vals_May.f (k + 1) a0 a1 a2 a3 a4 a5 a6 a7) := by
 intro a0 a1 a2 a3 a4 a5 a6 a7 k
 have ih0 := vals_May.mono_l k
 unfold vals_May.f
 repeat' first
   | (with_reducible exact ih0 _ _ _ _ _ _ _ _ _ _)
   | (with_reducible exact types_IsRef.mono _ _ _)
   | (with_reducible exact types_May.mono _ _ _)
   | (with_reducible exact LeO.refl _)
   | (with_reducible exact LeO.none _)
   | (with_reducible refine LeO.ite ?_ ?_)
   | (with_reducible refine LeO.bind ?_ (fun _ => ?_))
   | exact ih0 _ _ _ _ _ _ _ _ _ _
   | exact types_IsRef.mono _ _ _
   | exact types_May.mono _ _ _
   | exact LeO.none _
   | refine LeO.ite ?_ ?_
   | refine LeO.bind ?_ (fun _ => ?_)
set_option maxHeartbeats 8000000 in
set_option maxRecDepth 100000 in
theorem vals_May.calls (k : Nat) (A0_0 : Option Addr) (c0_0 : Nat) (l0_0 : List (S103)) (A0_1 : Option Addr) (c0_1 : Nat) (l0_1 : List (S38)) (A0_2 : Option Addr) (c0_2 : Nat) (l0_2 : List (S206)) (A0_3 : Option Addr) (c0_3 : Nat) (l0_3 : List (S117)) (a1_0 : Int) (a1_1 : Int) (a1_2 : Int) (a1_3 : Int) (r : Bool) (w : World) (hr0_0 : Kd.C k103 w A0_0 l0_0.length l0_0) (hc0_0 : l0_0.length ≤ c0_0) (hr0_1 : Kd.C k38 w A0_1 l0_1.length l0_1) (hc0_1 : l0_1.length ≤ c0_1) (hr0_2 : Kd.C k206 w A0_2 l0_2.length l0_2) (hc0_2 : l0_2.length ≤ c0_2) (hr0_3 : Kd.C k117 w A0_3 l0_3.length l0_3) (hc0_3 : l0_3.length ≤ c0_3) (h : vals_May.f k l0_0 l0_1 l0_2 l0_3 a1_0 a1_1 a1_2 a1_3 = some r) :
  Calls Try.prog 37 #[.agg #[.slice A0_0 l0_0.length c0_0, .slice A0_1 l0_1.length c0_1, .slice A0_2 l0_2.length c0_2, .slice A0_3 l0_3.length c0_3], .agg #[.int .u8 a1_0, .int .u8 a1_1, .int .u16 a1_2, .int .i64 a1_3]] w fun e w' => e = .returned (.bool r) ∧ Below w.heap.size w w' := by
 have hu27 := Try.underlying27
 have hu56 := Try.underlying56
 have hu32 := Try.underlying32
 have HR0_0 := Aside0.mk hr0_0
 have HC0_0 := Aside0.mk hc0_0
 clear hr0_0 hc0_0
 have HR0_1 := Aside0.mk hr0_1
 have HC0_1 := Aside0.mk hc0_1
 clear hr0_1 hc0_1
 have HR0_2 := Aside0.mk hr0_2
 have HC0_2 := Aside0.mk hc0_2
 clear hr0_2 hc0_2
 have HR0_3 := Aside0.mk hr0_3
 have HC0_3 := Aside0.mk hc0_3
 clear hr0_3 hc0_3
 have HB := Aside0.mk (Below.refl w.heap.size w)
 have H : (if a1_0 = 1 then (vals_May.j0 k a1_0 (a1_0 == 1) l0_0 l0_1 l0_2 l0_3 a1_0 a1_1 a1_2 a1_3) else (if a1_0 = 2 then (vals_May.j0 k a1_0 (a1_0 == 2) l0_0 l0_1 l0_2 l0_3 a1_0 a1_1 a1_2 a1_3) else (vals_May.j0 k a1_0 (a1_0 == 3) l0_0 l0_1 l0_2 l0_3 a1_0 a1_1 a1_2 a1_3))) = some r := h
 clear h
 have HC3 := Aside0.mk H
 clear H
 go_enter Try.func37, Try.ntmps37
 go_upto_if 9 with (first | ((with_reducible refine gate_dst (N := 2) rfl ?_); refine box_event ?hg (N := 2) ?hd (cs := #[.slice A0_0 l0_0.length c0_0, .slice A0_1 l0_1.length c0_1, .slice A0_2 l0_2.length c0_2, .slice A0_3 l0_3.length c0_3]) (t := 27) ?hr ?_; (case hd => rfl); (case hg => rfl); (case hr => first | (go_simp; done) | (go_simp; rfl)); intro gb110 hg w4 hbox hb; have n0_ := Aside0.mk (below_step (qW HB.out) hb); have n1_ := Aside0.mk (hbox); have n2_ := Aside0.mk ((by rw [hg]; exact (below_size (qW HB.out)) : w.heap.size ≤ gb110)); have n3_ := Aside0.mk ((by rw [hg]; exact (below_size (qW HB.out)) : w.heap.size ≤ gb110)); clear HB; have HB := n0_; have BK110 := n1_; have GW110 := n2_; have GE110 := n3_; clear n0_ n1_ n2_ n3_; clear hb hbox hg) | ((with_reducible refine gate_dst (N := 3) rfl ?_); refine box_event ?hg (N := 3) ?hd (cs := #[.int .u8 a1_0, .int .u8 a1_1, .int .u16 a1_2, .int .i64 a1_3]) (t := 56) ?hr ?_; (case hd => rfl); (case hg => rfl); (case hr => first | (go_simp; done) | (go_simp; rfl)); intro gb111 hg w5 hbox hb; have n0_ := Aside0.mk (blk_below (qb BK110.out) hb); have n1_ := Aside0.mk (below_step (qW HB.out) hb); have n2_ := Aside0.mk (hbox); have n3_ := Aside0.mk ((by rw [hg]; exact (below_size (qW HB.out)) : w.heap.size ≤ gb111)); have n4_ := Aside0.mk ((by rw [hg]; exact (below_size (qW HB.out)) : w.heap.size ≤ gb111)); have n5_ := Aside0.mk ((by rw [hg]; exact Nat.ne_of_lt (blk_lt (qb BK110.out)) : gb110 ≠ gb111)); have n6_ := Aside0.mk ((by rw [hg]; exact Nat.ne_of_gt (blk_lt (qb BK110.out)) : gb111 ≠ gb110)); clear BK110 HB; have BK110 := n0_; have HB := n1_; have BK111 := n2_; have GW111 := n3_; have GE111 := n4_; have NB110_111 := n5_; have NB111_110 := n6_; clear n0_ n1_ n2_ n3_ n4_ n5_ n6_; clear hb hbox hg; have hnb6 := NB111_110.out; have hnc6 := NB110_111.out; have hcz7_0 : w5.cell? ⟨gb111, 0, none⟩ = some (.int .u8 a1_0) := (blk_cell BK111.out 0).trans rfl; have hcz7_1 : w5.cell? ⟨gb111, 1, none⟩ = some (.int .u8 a1_1) := (blk_cell BK111.out 1).trans rfl; have hcz7_2 : w5.cell? ⟨gb111, 2, none⟩ = some (.int .u16 a1_2) := (blk_cell BK111.out 2).trans rfl; have hcz7_3 : w5.cell? ⟨gb111, 3, none⟩ = some (.int .i64 a1_3) := (blk_cell BK111.out 3).trans rfl; have hfz7_0 := blk_frozen BK111.out 0; have hfz7_1 := blk_frozen BK111.out 1; have hfz7_2 := blk_frozen BK111.out 2; have hfz7_3 := blk_frozen BK111.out 3))
 (try simp only [Act.put, List.setIfInBounds_toArray, List.set_cons_zero, List.set_cons_succ])
 go_cut [9] (fun v9 wc => ∃ (kq : Nat) (x9_2 : Bool), v9 = .bool x9_2 ∧ Aside0 (vals_May.j0 kq a1_0 x9_2 l0_0 l0_1 l0_2 l0_3 a1_0 a1_1 a1_2 a1_3 = some r) ∧ Aside0 (kq ≤ k) ∧ Aside0 (wc.heap[gb110]? = some (.cells #[(.slice A0_0 l0_0.length c0_0), (.slice A0_1 l0_1.length c0_1), (.slice A0_2 l0_2.length c0_2), (.slice A0_3 l0_3.length c0_3)] 27 (0, 0))) ∧ Aside0 (wc.heap[gb111]? = some (.cells #[.int .u8 a1_0, .int .u8 a1_1, .int .u16 a1_2, .int .i64 a1_3] 56 (0, 0))) ∧ Aside0 (Below w.heap.size w wc))
 case first =>
  have H := HC3.out
  clear HC3
  by_cases c8 : a1_0 = 1
  ·rw [if_pos c8] at H
   have c8b0 : (a1_0 == 1) = true := beq_iff_eq.mpr c8
   have c8b1 : (a1_0 != 1) = false := bne_eq_false_iff_eq.mpr c8
   clear c8
   (first | rw [c8b0] | (simp only [i64_w, i32_w]; rw [c8b0]) | skip)
   have H' := Aside0.mk H
   clear H
   go_wp2
   go_meet
   case rel => exact ⟨_, ((a1_0 == 1)), (by first | rfl | (simp; done) | (simp [*]; done)), H', ⟨by first | omega | exact Nat.le_refl _⟩, ⟨qf BK110.out⟩, ⟨qf BK111.out⟩, ⟨qW HB.out⟩⟩
  ·rw [if_neg c8] at H
   have c8b0 : (a1_0 == 1) = false := beq_eq_false_iff_ne.mpr c8
   have c8b1 : (a1_0 != 1) = true := bne_iff_ne.mpr c8
   (first | rw [c8b0] | (simp only [i64_w, i32_w]; rw [c8b0]) | skip)
   by_cases c9 : a1_0 = 2
   ·rw [if_pos c9] at H
    have c9b0 : (a1_0 == 2) = true := beq_iff_eq.mpr c9
    have c9b1 : (a1_0 != 2) = false := bne_eq_false_iff_eq.mpr c9
    clear c9
    have H' := Aside0.mk H
    clear H
    go_wp2
    go_meet
    case rel => exact ⟨_, ((a1_0 == 2)), (by first | rfl | (simp; done) | (simp [*]; done)), H', ⟨by first | omega | exact Nat.le_refl _⟩, ⟨qf BK110.out⟩, ⟨qf BK111.out⟩, ⟨qW HB.out⟩⟩
   ·rw [if_neg c9] at H
    have c9b0 : (a1_0 == 2) = false := beq_eq_false_iff_ne.mpr c9
    have c9b1 : (a1_0 != 2) = true := bne_iff_ne.mpr c9
    have H' := Aside0.mk H
    clear H
    go_wp2
    go_meet
    case rel => exact ⟨_, ((a1_0 == 3)), (by first | rfl | (simp; done) | (simp [*]; done)), H', ⟨by first | omega | exact Nat.le_refl _⟩, ⟨qf BK110.out⟩, ⟨qf BK111.out⟩, ⟨qW HB.out⟩⟩
 case rest =>
  clear HC3
  try clear p2
  try clear c3
  try clear c6
  try clear c8
  try clear c8b0
  try clear c8b1
  try clear c9
  try clear c9b0
  try clear c9b1
  try clear hcz7_0
  try clear hcz7_1
  try clear hcz7_2
  try clear hcz7_3
  try clear hfz7_0
  try clear hfz7_1
  try clear hfz7_2
  try clear hfz7_3
  obtain ⟨kq, x9_2, rfl, HA, HJ2, BK110, BK111, HB⟩ := hcut
  cases kq with
  | zero => exact absurd HA.out (by simp [vals_May.j0])
  | succ kj2 =>
   have H := HA.out
   clear HA
   simp only [vals_May.j0] at H
   by_cases c10 : x9_2 = true
   ·subst c10
    have H1 : (some ((a1_1 == 0 && (a1_2 == 0)) && (a1_3 == 0))) = some r := by rw [if_pos rfl] at H; exact H
    clear H
    have H := H1
    clear H1
    obtain rfl := Option.some.inj H
    have hnb11 := NB111_110.out
    have hnc11 := NB110_111.out
    have hcz12_0 : wc.cell? ⟨gb111, 0, none⟩ = some (.int .u8 a1_0) := (blk_cell BK111.out 0).trans rfl
    have hcz12_1 : wc.cell? ⟨gb111, 1, none⟩ = some (.int .u8 a1_1) := (blk_cell BK111.out 1).trans rfl
    have hcz12_2 : wc.cell? ⟨gb111, 2, none⟩ = some (.int .u16 a1_2) := (blk_cell BK111.out 2).trans rfl
    have hcz12_3 : wc.cell? ⟨gb111, 3, none⟩ = some (.int .i64 a1_3) := (blk_cell BK111.out 3).trans rfl
    have hfz12_0 := blk_frozen BK111.out 0
    have hfz12_1 := blk_frozen BK111.out 1
    have hfz12_2 := blk_frozen BK111.out 2
    have hfz12_3 := blk_frozen BK111.out 3
    go_wp2
    go_ret
    exact ⟨by first | rfl | (simp [errW_none, errW_some] <;> rfl) | (simp [*, errW_none, errW_some] <;> rfl), by repeat (first | (with_reducible first | exact HB.out | apply below_alloc | apply pw_below_drewN | apply below_drew1 | refine below_set ?_ GE110.out | refine below_set ?_ GE111.out) | exact HB.out)⟩
   ·replace c10 := Bool.eq_false_iff.mpr c10
    subst c10
    have H1 : (if a1_0 = 4 then (if a1_1 = 4 then (if a1_3 = 0 then ((types_May.f kj2 a1_1 a1_2).bind fun t113 => (if t113 = true then ((types_IsRef.f kj2 a1_1 a1_2).bind fun t114 => (if t114 = true then ((vals_class.f l0_0 l0_1 l0_2 l0_3 a1_2).bind fun t115 => (some t115)) else (some false))) else (some false))) else (some false)) else (if a1_3 = 0 then ((types_May.f kj2 a1_1 a1_2).bind fun t116 => (if t116 = true then ((types_IsRef.f kj2 a1_1 a1_2).bind fun t117 => (if t117 = true then (if a1_1 = 8 then ((vals_class.f l0_0 l0_1 l0_2 l0_3 a1_2).bind fun t118 => (some t118)) else (some true)) else (some false))) else (some false))) else (some false))) else (if a1_0 = 5 then (if (a1_1 == 0 && (a1_2 == 0)) = true then (if a1_3 ≥ 0 then (some (decide (a1_3 ≤ 8))) else (some false)) else (some false)) else (some false))) = some r := by rw [if_neg (show ¬ (false = true) by decide)] at H; exact H
    clear H
    have H := H1
    clear H1
    by_cases c13 : a1_0 = 4
    ·rw [if_pos c13] at H
     have c13b0 : (a1_0 == 4) = true := beq_iff_eq.mpr c13
     have c13b1 : (a1_0 != 4) = false := bne_eq_false_iff_eq.mpr c13
     clear c13
     by_cases c14 : a1_1 = 4
     ·rw [if_pos c14] at H
      have c14b0 : (a1_1 == 4) = true := beq_iff_eq.mpr c14
      have c14b1 : (a1_1 != 4) = false := bne_eq_false_iff_eq.mpr c14
      clear c14
      by_cases c15 : a1_3 = 0
      ·rw [if_pos c15] at H
       have c15b0 : (a1_3 == 0) = true := beq_iff_eq.mpr c15
       have c15b1 : (a1_3 != 0) = false := bne_eq_false_iff_eq.mpr c15
       clear c15
       replace H := Option.bind_eq_some_iff.mp H
       obtain ⟨t113, A160, H⟩ := H
       replace H : (if t113 = true then ((types_IsRef.f kj2 a1_1 a1_2).bind fun t114 => (if t114 = true then ((vals_class.f l0_0 l0_1 l0_2 l0_3 a1_2).bind fun t115 => (some t115)) else (some false))) else (some false)) = some r := H
       have A16 := Aside0.mk A160
       clear A160
       by_cases c17 : t113 = true
       ·subst c17
        have H1 : ((types_IsRef.f kj2 a1_1 a1_2).bind fun t114 => (if t114 = true then ((vals_class.f l0_0 l0_1 l0_2 l0_3 a1_2).bind fun t115 => (some t115)) else (some false))) = some r := by rw [if_pos rfl] at H; exact H
        clear H
        have H := H1
        clear H1
        replace H := Option.bind_eq_some_iff.mp H
        obtain ⟨t114, A180, H⟩ := H
        replace H : (if t114 = true then ((vals_class.f l0_0 l0_1 l0_2 l0_3 a1_2).bind fun t115 => (some t115)) else (some false)) = some r := H
        have A18 := Aside0.mk A180
        clear A180
        by_cases c19 : t114 = true
        ·subst c19
         have H1 : ((vals_class.f l0_0 l0_1 l0_2 l0_3 a1_2).bind fun t115 => (some t115)) = some r := by rw [if_pos rfl] at H; exact H
         clear H
         have H := H1
         clear H1
         replace H := Option.bind_eq_some_iff.mp H
         obtain ⟨t115, A200, H⟩ := H
         replace H : (some t115) = some r := H
         have A20 := Aside0.mk A200
         clear A200
         obtain rfl := Option.some.inj H
         have hnb21 := NB111_110.out
         have hnc21 := NB110_111.out
         have hcz22_0 : wc.cell? ⟨gb111, 0, none⟩ = some (.int .u8 a1_0) := (blk_cell BK111.out 0).trans rfl
         have hcz22_1 : wc.cell? ⟨gb111, 1, none⟩ = some (.int .u8 a1_1) := (blk_cell BK111.out 1).trans rfl
         have hcz22_2 : wc.cell? ⟨gb111, 2, none⟩ = some (.int .u16 a1_2) := (blk_cell BK111.out 2).trans rfl
         have hcz22_3 : wc.cell? ⟨gb111, 3, none⟩ = some (.int .i64 a1_3) := (blk_cell BK111.out 3).trans rfl
         have hfz22_0 := blk_frozen BK111.out 0
         have hfz22_1 := blk_frozen BK111.out 1
         have hfz22_2 := blk_frozen BK111.out 2
         have hfz22_3 := blk_frozen BK111.out 3
         go_wp2_with (first | ((with_reducible refine gate_dst (N := 5) rfl ?_); refine box_event ?hg (N := 5) ?hd (cs := #[.int .u8 0, .int .u16 0]) (t := 32) ?hr ?_; (case hd => rfl); (case hg => rfl); (case hr => first | (go_simp; done) | (go_simp; rfl)); intro gb112 hg w23 hbox hb; have n0_ := Aside0.mk (blk_below (qb BK110.out) hb); have n1_ := Aside0.mk (blk_below (qb BK111.out) hb); have n2_ := Aside0.mk (below_step (qW HB.out) hb); have n3_ := Aside0.mk (hbox); have n4_ := Aside0.mk ((by rw [hg]; exact (below_size (qW HB.out)) : w.heap.size ≤ gb112)); have n5_ := Aside0.mk ((by rw [hg]; exact (below_size (qW HB.out)) : w.heap.size ≤ gb112)); have n6_ := Aside0.mk ((by rw [hg]; exact Nat.ne_of_lt (blk_lt (qb BK110.out)) : gb110 ≠ gb112)); have n7_ := Aside0.mk ((by rw [hg]; exact Nat.ne_of_gt (blk_lt (qb BK110.out)) : gb112 ≠ gb110)); have n8_ := Aside0.mk ((by rw [hg]; exact Nat.ne_of_lt (blk_lt (qb BK111.out)) : gb111 ≠ gb112)); have n9_ := Aside0.mk ((by rw [hg]; exact Nat.ne_of_gt (blk_lt (qb BK111.out)) : gb112 ≠ gb111)); clear BK110 BK111 HB; have BK110 := n0_; have BK111 := n1_; have HB := n2_; have BK112 := n3_; have GW112 := n4_; have GE112 := n5_; have NB110_112 := n6_; have NB112_110 := n7_; have NB111_112 := n8_; have NB112_111 := n9_; clear n0_ n1_ n2_ n3_ n4_ n5_ n6_ n7_ n8_ n9_; clear hb hbox hg; have hnb24 := NB112_110.out; have hnc24 := NB110_112.out; have hnb25 := NB112_111.out; have hnc25 := NB111_112.out; have hcz26_0 : w23.cell? ⟨gb112, 0, none⟩ = some (.int .u8 0) := (blk_cell BK112.out 0).trans rfl; have hcz26_1 : w23.cell? ⟨gb112, 1, none⟩ = some (.int .u16 0) := (blk_cell BK112.out 1).trans rfl; have hfz26_0 := blk_frozen BK112.out 0; have hfz26_1 := blk_frozen BK112.out 1; have hcz27_0 : w23.cell? ⟨gb111, 0, none⟩ = some (.int .u8 a1_0) := (blk_cell BK111.out 0).trans rfl; have hcz27_1 : w23.cell? ⟨gb111, 1, none⟩ = some (.int .u8 a1_1) := (blk_cell BK111.out 1).trans rfl; have hcz27_2 : w23.cell? ⟨gb111, 2, none⟩ = some (.int .u16 a1_2) := (blk_cell BK111.out 2).trans rfl; have hcz27_3 : w23.cell? ⟨gb111, 3, none⟩ = some (.int .i64 a1_3) := (blk_cell BK111.out 3).trans rfl; have hfz27_0 := blk_frozen BK111.out 0; have hfz27_1 := blk_frozen BK111.out 1; have hfz27_2 := blk_frozen BK111.out 2; have hfz27_3 := blk_frozen BK111.out 3) | (go_at_call 68; (with_reducible refine (types_May.calls kj2 a1_1 a1_2 true _ A16.out).mono ?_); rintro e w28 ⟨rfl, hb⟩; have n0_ := Aside0.mk (blk_below (qf BK110.out) hb); have n1_ := Aside0.mk (blk_below (qf BK111.out) hb); have n2_ := Aside0.mk (blk_below (g := gb112) (o := .cells #[.int .u8 a1_1, .int .u16 a1_2] 32 (0, 0)) (by (with_reducible repeat (first | refine blk_drewN ?_ _ | refine blk_drew ?_ | refine blk_alloc ?_ _)); refine blk_put (cs := #[.int .u8 a1_1, .int .u16 0]) ?_ 1 _ rfl; (with_reducible repeat (first | refine blk_drewN ?_ _ | refine blk_drew ?_ | refine blk_alloc ?_ _)); refine blk_put (cs := #[.int .u8 0, .int .u16 0]) ?_ 0 _ rfl; (with_reducible repeat (first | refine blk_drewN ?_ _ | refine blk_drew ?_ | refine blk_alloc ?_ _)); exact BK112.out) hb); have n3_ := Aside0.mk (below_step (qW HB.out) hb); clear BK110 BK111 BK112 HB; have BK110 := n0_; have BK111 := n1_; have BK112 := n2_; have HB := n3_; clear n0_ n1_ n2_ n3_; (try clear hb); (try clear hb2); (try clear hk); (try clear hi); have hcz29_0 : w28.cell? ⟨gb112, 0, none⟩ = some (.int .u8 a1_1) := (blk_cell BK112.out 0).trans rfl; have hcz29_1 : w28.cell? ⟨gb112, 1, none⟩ = some (.int .u16 a1_2) := (blk_cell BK112.out 1).trans rfl; have hfz29_0 := blk_frozen BK112.out 0; have hfz29_1 := blk_frozen BK112.out 1) | (go_at_call 69; (with_reducible refine (types_IsRef.calls kj2 a1_1 a1_2 true _ A18.out).mono ?_); rintro e w30 ⟨rfl, hb⟩; have n0_ := Aside0.mk (blk_below (qb BK110.out) hb); have n1_ := Aside0.mk (blk_below (qb BK111.out) hb); have n2_ := Aside0.mk (blk_below (qb BK112.out) hb); have n3_ := Aside0.mk (below_step (qW HB.out) hb); clear BK110 BK111 BK112 HB; have BK110 := n0_; have BK111 := n1_; have BK112 := n2_; have HB := n3_; clear n0_ n1_ n2_ n3_; (try clear hb); (try clear hb2); (try clear hk); (try clear hi); have hcz31_0 : w30.cell? ⟨gb110, 0, none⟩ = some (.slice A0_0 l0_0.length c0_0) := (blk_cell BK110.out 0).trans rfl; have hcz31_1 : w30.cell? ⟨gb110, 1, none⟩ = some (.slice A0_1 l0_1.length c0_1) := (blk_cell BK110.out 1).trans rfl; have hcz31_2 : w30.cell? ⟨gb110, 2, none⟩ = some (.slice A0_2 l0_2.length c0_2) := (blk_cell BK110.out 2).trans rfl; have hcz31_3 : w30.cell? ⟨gb110, 3, none⟩ = some (.slice A0_3 l0_3.length c0_3) := (blk_cell BK110.out 3).trans rfl; have hfz31_0 := blk_frozen BK110.out 0; have hfz31_1 := blk_frozen BK110.out 1; have hfz31_2 := blk_frozen BK110.out 2; have hfz31_3 := blk_frozen BK110.out 3; have hcz32_0 : w30.cell? ⟨gb112, 0, none⟩ = some (.int .u8 a1_1) := (blk_cell BK112.out 0).trans rfl; have hcz32_1 : w30.cell? ⟨gb112, 1, none⟩ = some (.int .u16 a1_2) := (blk_cell BK112.out 1).trans rfl; have hfz32_0 := blk_frozen BK112.out 0; have hfz32_1 := blk_frozen BK112.out 1) | (go_at_call 70; (with_reducible refine (vals_class.calls _ _ l0_0 _ _ l0_1 _ _ l0_2 _ _ l0_3 a1_2 t115 _ ?side1 ?side2 ?side3 ?side4 ?side5 ?side6 ?side7 ?side8 A20.out).mono ?_); (case side1 => exact qC (Kd.C_below HR0_0.out HB.out)); (case side2 => exact HC0_0.out); (case side3 => exact qC (Kd.C_below HR0_1.out HB.out)); (case side4 => exact HC0_1.out); (case side5 => exact qC (Kd.C_below HR0_2.out HB.out)); (case side6 => exact HC0_2.out); (case side7 => exact qC (Kd.C_below HR0_3.out HB.out)); (case side8 => exact HC0_3.out); rintro e w33 ⟨rfl, hb⟩; have n0_ := Aside0.mk (blk_below (qb BK110.out) hb); have n1_ := Aside0.mk (blk_below (qb BK111.out) hb); have n2_ := Aside0.mk (blk_below (qb BK112.out) hb); have n3_ := Aside0.mk (below_step (qW HB.out) hb); clear BK110 BK111 BK112 HB; have BK110 := n0_; have BK111 := n1_; have BK112 := n2_; have HB := n3_; clear n0_ n1_ n2_ n3_; (try clear hb); (try clear hb2); (try clear hk); (try clear hi)))
         go_ret
         exact ⟨by first | rfl | (simp [errW_none, errW_some] <;> rfl) | (simp [*, errW_none, errW_some] <;> rfl), by repeat (first | (with_reducible first | exact HB.out | apply below_alloc | apply pw_below_drewN | apply below_drew1 | refine below_set ?_ GE110.out | refine below_set ?_ GE111.out | refine below_set ?_ GE112.out) | exact HB.out)⟩
        ·replace c19 := Bool.eq_false_iff.mpr c19
         subst c19
         have H1 : (some false) = some r := by rw [if_neg (show ¬ (false = true) by decide)] at H; exact H
         clear H
         have H := H1
         clear H1
         obtain rfl := Option.some.inj H
         have hnb34 := NB111_110.out
         have hnc34 := NB110_111.out
         have hcz35_0 : wc.cell? ⟨gb111, 0, none⟩ = some (.int .u8 a1_0) := (blk_cell BK111.out 0).trans rfl
         have hcz35_1 : wc.cell? ⟨gb111, 1, none⟩ = some (.int .u8 a1_1) := (blk_cell BK111.out 1).trans rfl
         have hcz35_2 : wc.cell? ⟨gb111, 2, none⟩ = some (.int .u16 a1_2) := (blk_cell BK111.out 2).trans rfl
         have hcz35_3 : wc.cell? ⟨gb111, 3, none⟩ = some (.int .i64 a1_3) := (blk_cell BK111.out 3).trans rfl
         have hfz35_0 := blk_frozen BK111.out 0
         have hfz35_1 := blk_frozen BK111.out 1
         have hfz35_2 := blk_frozen BK111.out 2
         have hfz35_3 := blk_frozen BK111.out 3
         go_wp2_with (first | ((with_reducible refine gate_dst (N := 5) rfl ?_); refine box_event ?hg (N := 5) ?hd (cs := #[.int .u8 0, .int .u16 0]) (t := 32) ?hr ?_; (case hd => rfl); (case hg => rfl); (case hr => first | (go_simp; done) | (go_simp; rfl)); intro gb112 hg w36 hbox hb; have n0_ := Aside0.mk (blk_below (qb BK110.out) hb); have n1_ := Aside0.mk (blk_below (qb BK111.out) hb); have n2_ := Aside0.mk (below_step (qW HB.out) hb); have n3_ := Aside0.mk (hbox); have n4_ := Aside0.mk ((by rw [hg]; exact (below_size (qW HB.out)) : w.heap.size ≤ gb112)); have n5_ := Aside0.mk ((by rw [hg]; exact (below_size (qW HB.out)) : w.heap.size ≤ gb112)); have n6_ := Aside0.mk ((by rw [hg]; exact Nat.ne_of_lt (blk_lt (qb BK110.out)) : gb110 ≠ gb112)); have n7_ := Aside0.mk ((by rw [hg]; exact Nat.ne_of_gt (blk_lt (qb BK110.out)) : gb112 ≠ gb110)); have n8_ := Aside0.mk ((by rw [hg]; exact Nat.ne_of_lt (blk_lt (qb BK111.out)) : gb111 ≠ gb112)); have n9_ := Aside0.mk ((by rw [hg]; exact Nat.ne_of_gt (blk_lt (qb BK111.out)) : gb112 ≠ gb111)); clear BK110 BK111 HB; have BK110 := n0_; have BK111 := n1_; have HB := n2_; have BK112 := n3_; have GW112 := n4_; have GE112 := n5_; have NB110_112 := n6_; have NB112_110 := n7_; have NB111_112 := n8_; have NB112_111 := n9_; clear n0_ n1_ n2_ n3_ n4_ n5_ n6_ n7_ n8_ n9_; clear hb hbox hg; have hnb37 := NB112_110.out; have hnc37 := NB110_112.out; have hnb38 := NB112_111.out; have hnc38 := NB111_112.out; have hcz39_0 : w36.cell? ⟨gb112, 0, none⟩ = some (.int .u8 0) := (blk_cell BK112.out 0).trans rfl; have hcz39_1 : w36.cell? ⟨gb112, 1, none⟩ = some (.int .u16 0) := (blk_cell BK112.out 1).trans rfl; have hfz39_0 := blk_frozen BK112.out 0; have hfz39_1 := blk_frozen BK112.out 1; have hcz40_0 : w36.cell? ⟨gb111, 0, none⟩ = some (.int .u8 a1_0) := (blk_cell BK111.out 0).trans rfl; have hcz40_1 : w36.cell? ⟨gb111, 1, none⟩ = some (.int .u8 a1_1) := (blk_cell BK111.out 1).trans rfl; have hcz40_2 : w36.cell? ⟨gb111, 2, none⟩ = some (.int .u16 a1_2) := (blk_cell BK111.out 2).trans rfl; have hcz40_3 : w36.cell? ⟨gb111, 3, none⟩ = some (.int .i64 a1_3) := (blk_cell BK111.out 3).trans rfl; have hfz40_0 := blk_frozen BK111.out 0; have hfz40_1 := blk_frozen BK111.out 1; have hfz40_2 := blk_frozen BK111.out 2; have hfz40_3 := blk_frozen BK111.out 3) | (go_at_call 68; (with_reducible refine (types_May.calls kj2 a1_1 a1_2 true _ A16.out).mono ?_); rintro e w41 ⟨rfl, hb⟩; have n0_ := Aside0.mk (blk_below (qf BK110.out) hb); have n1_ := Aside0.mk (blk_below (qf BK111.out) hb); have n2_ := Aside0.mk (blk_below (g := gb112) (o := .cells #[.int .u8 a1_1, .int .u16 a1_2] 32 (0, 0)) (by (with_reducible repeat (first | refine blk_drewN ?_ _ | refine blk_drew ?_ | refine blk_alloc ?_ _)); refine blk_put (cs := #[.int .u8 a1_1, .int .u16 0]) ?_ 1 _ rfl; (with_reducible repeat (first | refine blk_drewN ?_ _ | refine blk_drew ?_ | refine blk_alloc ?_ _)); refine blk_put (cs := #[.int .u8 0, .int .u16 0]) ?_ 0 _ rfl; (with_reducible repeat (first | refine blk_drewN ?_ _ | refine blk_drew ?_ | refine blk_alloc ?_ _)); exact BK112.out) hb); have n3_ := Aside0.mk (below_step (qW HB.out) hb); clear BK110 BK111 BK112 HB; have BK110 := n0_; have BK111 := n1_; have BK112 := n2_; have HB := n3_; clear n0_ n1_ n2_ n3_; (try clear hb); (try clear hb2); (try clear hk); (try clear hi); have hcz42_0 : w41.cell? ⟨gb112, 0, none⟩ = some (.int .u8 a1_1) := (blk_cell BK112.out 0).trans rfl; have hcz42_1 : w41.cell? ⟨gb112, 1, none⟩ = some (.int .u16 a1_2) := (blk_cell BK112.out 1).trans rfl; have hfz42_0 := blk_frozen BK112.out 0; have hfz42_1 := blk_frozen BK112.out 1) | (go_at_call 69; (with_reducible refine (types_IsRef.calls kj2 a1_1 a1_2 false _ A18.out).mono ?_); rintro e w43 ⟨rfl, hb⟩; have n0_ := Aside0.mk (blk_below (qb BK110.out) hb); have n1_ := Aside0.mk (blk_below (qb BK111.out) hb); have n2_ := Aside0.mk (blk_below (qb BK112.out) hb); have n3_ := Aside0.mk (below_step (qW HB.out) hb); clear BK110 BK111 BK112 HB; have BK110 := n0_; have BK111 := n1_; have BK112 := n2_; have HB := n3_; clear n0_ n1_ n2_ n3_; (try clear hb); (try clear hb2); (try clear hk); (try clear hi)))
         go_ret
         exact ⟨by first | rfl | (simp [errW_none, errW_some] <;> rfl) | (simp [*, errW_none, errW_some] <;> rfl), by repeat (first | (with_reducible first | exact HB.out | apply below_alloc | apply pw_below_drewN | apply below_drew1 | refine below_set ?_ GE110.out | refine below_set ?_ GE111.out | refine below_set ?_ GE112.out) | exact HB.out)⟩
       ·replace c17 := Bool.eq_false_iff.mpr c17
        subst c17
        have H1 : (some false) = some r := by rw [if_neg (show ¬ (false = true) by decide)] at H; exact H
        clear H
        have H := H1
        clear H1
        obtain rfl := Option.some.inj H
        have hnb44 := NB111_110.out
        have hnc44 := NB110_111.out
        have hcz45_0 : wc.cell? ⟨gb111, 0, none⟩ = some (.int .u8 a1_0) := (blk_cell BK111.out 0).trans rfl
        have hcz45_1 : wc.cell? ⟨gb111, 1, none⟩ = some (.int .u8 a1_1) := (blk_cell BK111.out 1).trans rfl
        have hcz45_2 : wc.cell? ⟨gb111, 2, none⟩ = some (.int .u16 a1_2) := (blk_cell BK111.out 2).trans rfl
        have hcz45_3 : wc.cell? ⟨gb111, 3, none⟩ = some (.int .i64 a1_3) := (blk_cell BK111.out 3).trans rfl
        have hfz45_0 := blk_frozen BK111.out 0
        have hfz45_1 := blk_frozen BK111.out 1
        have hfz45_2 := blk_frozen BK111.out 2
        have hfz45_3 := blk_frozen BK111.out 3
        go_wp2_with (first | ((with_reducible refine gate_dst (N := 5) rfl ?_); refine box_event ?hg (N := 5) ?hd (cs := #[.int .u8 0, .int .u16 0]) (t := 32) ?hr ?_; (case hd => rfl); (case hg => rfl); (case hr => first | (go_simp; done) | (go_simp; rfl)); intro gb112 hg w46 hbox hb; have n0_ := Aside0.mk (blk_below (qb BK110.out) hb); have n1_ := Aside0.mk (blk_below (qb BK111.out) hb); have n2_ := Aside0.mk (below_step (qW HB.out) hb); have n3_ := Aside0.mk (hbox); have n4_ := Aside0.mk ((by rw [hg]; exact (below_size (qW HB.out)) : w.heap.size ≤ gb112)); have n5_ := Aside0.mk ((by rw [hg]; exact (below_size (qW HB.out)) : w.heap.size ≤ gb112)); have n6_ := Aside0.mk ((by rw [hg]; exact Nat.ne_of_lt (blk_lt (qb BK110.out)) : gb110 ≠ gb112)); have n7_ := Aside0.mk ((by rw [hg]; exact Nat.ne_of_gt (blk_lt (qb BK110.out)) : gb112 ≠ gb110)); have n8_ := Aside0.mk ((by rw [hg]; exact Nat.ne_of_lt (blk_lt (qb BK111.out)) : gb111 ≠ gb112)); have n9_ := Aside0.mk ((by rw [hg]; exact Nat.ne_of_gt (blk_lt (qb BK111.out)) : gb112 ≠ gb111)); clear BK110 BK111 HB; have BK110 := n0_; have BK111 := n1_; have HB := n2_; have BK112 := n3_; have GW112 := n4_; have GE112 := n5_; have NB110_112 := n6_; have NB112_110 := n7_; have NB111_112 := n8_; have NB112_111 := n9_; clear n0_ n1_ n2_ n3_ n4_ n5_ n6_ n7_ n8_ n9_; clear hb hbox hg; have hnb47 := NB112_110.out; have hnc47 := NB110_112.out; have hnb48 := NB112_111.out; have hnc48 := NB111_112.out; have hcz49_0 : w46.cell? ⟨gb112, 0, none⟩ = some (.int .u8 0) := (blk_cell BK112.out 0).trans rfl; have hcz49_1 : w46.cell? ⟨gb112, 1, none⟩ = some (.int .u16 0) := (blk_cell BK112.out 1).trans rfl; have hfz49_0 := blk_frozen BK112.out 0; have hfz49_1 := blk_frozen BK112.out 1; have hcz50_0 : w46.cell? ⟨gb111, 0, none⟩ = some (.int .u8 a1_0) := (blk_cell BK111.out 0).trans rfl; have hcz50_1 : w46.cell? ⟨gb111, 1, none⟩ = some (.int .u8 a1_1) := (blk_cell BK111.out 1).trans rfl; have hcz50_2 : w46.cell? ⟨gb111, 2, none⟩ = some (.int .u16 a1_2) := (blk_cell BK111.out 2).trans rfl; have hcz50_3 : w46.cell? ⟨gb111, 3, none⟩ = some (.int .i64 a1_3) := (blk_cell BK111.out 3).trans rfl; have hfz50_0 := blk_frozen BK111.out 0; have hfz50_1 := blk_frozen BK111.out 1; have hfz50_2 := blk_frozen BK111.out 2; have hfz50_3 := blk_frozen BK111.out 3) | (go_at_call 68; (with_reducible refine (types_May.calls kj2 a1_1 a1_2 false _ A16.out).mono ?_); rintro e w51 ⟨rfl, hb⟩; have n0_ := Aside0.mk (blk_below (qf BK110.out) hb); have n1_ := Aside0.mk (blk_below (qf BK111.out) hb); have n2_ := Aside0.mk (blk_below (g := gb112) (o := .cells #[.int .u8 a1_1, .int .u16 a1_2] 32 (0, 0)) (by (with_reducible repeat (first | refine blk_drewN ?_ _ | refine blk_drew ?_ | refine blk_alloc ?_ _)); refine blk_put (cs := #[.int .u8 a1_1, .int .u16 0]) ?_ 1 _ rfl; (with_reducible repeat (first | refine blk_drewN ?_ _ | refine blk_drew ?_ | refine blk_alloc ?_ _)); refine blk_put (cs := #[.int .u8 0, .int .u16 0]) ?_ 0 _ rfl; (with_reducible repeat (first | refine blk_drewN ?_ _ | refine blk_drew ?_ | refine blk_alloc ?_ _)); exact BK112.out) hb); have n3_ := Aside0.mk (below_step (qW HB.out) hb); clear BK110 BK111 BK112 HB; have BK110 := n0_; have BK111 := n1_; have BK112 := n2_; have HB := n3_; clear n0_ n1_ n2_ n3_; (try clear hb); (try clear hb2); (try clear hk); (try clear hi)))
        go_ret
        exact ⟨by first | rfl | (simp [errW_none, errW_some] <;> rfl) | (simp [*, errW_none, errW_some] <;> rfl), by repeat (first | (with_reducible first | exact HB.out | apply below_alloc | apply pw_below_drewN | apply below_drew1 | refine below_set ?_ GE110.out | refine below_set ?_ GE111.out | refine below_set ?_ GE112.out) | exact HB.out)⟩
      ·rw [if_neg c15] at H
       have c15b0 : (a1_3 == 0) = false := beq_eq_false_iff_ne.mpr c15
       have c15b1 : (a1_3 != 0) = true := bne_iff_ne.mpr c15
       obtain rfl := Option.some.inj H
       have hnb52 := NB111_110.out
       have hnc52 := NB110_111.out
       have hcz53_0 : wc.cell? ⟨gb111, 0, none⟩ = some (.int .u8 a1_0) := (blk_cell BK111.out 0).trans rfl
       have hcz53_1 : wc.cell? ⟨gb111, 1, none⟩ = some (.int .u8 a1_1) := (blk_cell BK111.out 1).trans rfl
       have hcz53_2 : wc.cell? ⟨gb111, 2, none⟩ = some (.int .u16 a1_2) := (blk_cell BK111.out 2).trans rfl
       have hcz53_3 : wc.cell? ⟨gb111, 3, none⟩ = some (.int .i64 a1_3) := (blk_cell BK111.out 3).trans rfl
       have hfz53_0 := blk_frozen BK111.out 0
       have hfz53_1 := blk_frozen BK111.out 1
       have hfz53_2 := blk_frozen BK111.out 2
       have hfz53_3 := blk_frozen BK111.out 3
       go_wp2_with (first | ((with_reducible refine gate_dst (N := 5) rfl ?_); refine box_event ?hg (N := 5) ?hd (cs := #[.int .u8 0, .int .u16 0]) (t := 32) ?hr ?_; (case hd => rfl); (case hg => rfl); (case hr => first | (go_simp; done) | (go_simp; rfl)); intro gb112 hg w54 hbox hb; have n0_ := Aside0.mk (blk_below (qb BK110.out) hb); have n1_ := Aside0.mk (blk_below (qb BK111.out) hb); have n2_ := Aside0.mk (below_step (qW HB.out) hb); have n3_ := Aside0.mk (hbox); have n4_ := Aside0.mk ((by rw [hg]; exact (below_size (qW HB.out)) : w.heap.size ≤ gb112)); have n5_ := Aside0.mk ((by rw [hg]; exact (below_size (qW HB.out)) : w.heap.size ≤ gb112)); have n6_ := Aside0.mk ((by rw [hg]; exact Nat.ne_of_lt (blk_lt (qb BK110.out)) : gb110 ≠ gb112)); have n7_ := Aside0.mk ((by rw [hg]; exact Nat.ne_of_gt (blk_lt (qb BK110.out)) : gb112 ≠ gb110)); have n8_ := Aside0.mk ((by rw [hg]; exact Nat.ne_of_lt (blk_lt (qb BK111.out)) : gb111 ≠ gb112)); have n9_ := Aside0.mk ((by rw [hg]; exact Nat.ne_of_gt (blk_lt (qb BK111.out)) : gb112 ≠ gb111)); clear BK110 BK111 HB; have BK110 := n0_; have BK111 := n1_; have HB := n2_; have BK112 := n3_; have GW112 := n4_; have GE112 := n5_; have NB110_112 := n6_; have NB112_110 := n7_; have NB111_112 := n8_; have NB112_111 := n9_; clear n0_ n1_ n2_ n3_ n4_ n5_ n6_ n7_ n8_ n9_; clear hb hbox hg; have hnb55 := NB112_110.out; have hnc55 := NB110_112.out; have hnb56 := NB112_111.out; have hnc56 := NB111_112.out; have hcz57_0 : w54.cell? ⟨gb112, 0, none⟩ = some (.int .u8 0) := (blk_cell BK112.out 0).trans rfl; have hcz57_1 : w54.cell? ⟨gb112, 1, none⟩ = some (.int .u16 0) := (blk_cell BK112.out 1).trans rfl; have hfz57_0 := blk_frozen BK112.out 0; have hfz57_1 := blk_frozen BK112.out 1; have hcz58_0 : w54.cell? ⟨gb111, 0, none⟩ = some (.int .u8 a1_0) := (blk_cell BK111.out 0).trans rfl; have hcz58_1 : w54.cell? ⟨gb111, 1, none⟩ = some (.int .u8 a1_1) := (blk_cell BK111.out 1).trans rfl; have hcz58_2 : w54.cell? ⟨gb111, 2, none⟩ = some (.int .u16 a1_2) := (blk_cell BK111.out 2).trans rfl; have hcz58_3 : w54.cell? ⟨gb111, 3, none⟩ = some (.int .i64 a1_3) := (blk_cell BK111.out 3).trans rfl; have hfz58_0 := blk_frozen BK111.out 0; have hfz58_1 := blk_frozen BK111.out 1; have hfz58_2 := blk_frozen BK111.out 2; have hfz58_3 := blk_frozen BK111.out 3))
       go_ret
       exact ⟨by first | rfl | (simp [errW_none, errW_some] <;> rfl) | (simp [*, errW_none, errW_some] <;> rfl), by repeat (first | (with_reducible first | exact HB.out | apply below_alloc | apply pw_below_drewN | apply below_drew1 | refine below_set ?_ GE110.out | refine below_set ?_ GE111.out | refine below_set ?_ GE112.out) | exact HB.out)⟩
     ·rw [if_neg c14] at H
      have c14b0 : (a1_1 == 4) = false := beq_eq_false_iff_ne.mpr c14
      have c14b1 : (a1_1 != 4) = true := bne_iff_ne.mpr c14
      by_cases c59 : a1_3 = 0
      ·rw [if_pos c59] at H
       have c59b0 : (a1_3 == 0) = true := beq_iff_eq.mpr c59
       have c59b1 : (a1_3 != 0) = false := bne_eq_false_iff_eq.mpr c59
       clear c59
       replace H := Option.bind_eq_some_iff.mp H
       obtain ⟨t116, A600, H⟩ := H
       replace H : (if t116 = true then ((types_IsRef.f kj2 a1_1 a1_2).bind fun t117 => (if t117 = true then (if a1_1 = 8 then ((vals_class.f l0_0 l0_1 l0_2 l0_3 a1_2).bind fun t118 => (some t118)) else (some true)) else (some false))) else (some false)) = some r := H
       have A60 := Aside0.mk A600
       clear A600
       by_cases c61 : t116 = true
       ·subst c61
        have H1 : ((types_IsRef.f kj2 a1_1 a1_2).bind fun t117 => (if t117 = true then (if a1_1 = 8 then ((vals_class.f l0_0 l0_1 l0_2 l0_3 a1_2).bind fun t118 => (some t118)) else (some true)) else (some false))) = some r := by rw [if_pos rfl] at H; exact H
        clear H
        have H := H1
        clear H1
        replace H := Option.bind_eq_some_iff.mp H
        obtain ⟨t117, A620, H⟩ := H
        replace H : (if t117 = true then (if a1_1 = 8 then ((vals_class.f l0_0 l0_1 l0_2 l0_3 a1_2).bind fun t118 => (some t118)) else (some true)) else (some false)) = some r := H
        have A62 := Aside0.mk A620
        clear A620
        by_cases c63 : t117 = true
        ·subst c63
         have H1 : (if a1_1 = 8 then ((vals_class.f l0_0 l0_1 l0_2 l0_3 a1_2).bind fun t118 => (some t118)) else (some true)) = some r := by rw [if_pos rfl] at H; exact H
         clear H
         have H := H1
         clear H1
         by_cases c64 : a1_1 = 8
         ·rw [if_pos c64] at H
          have c64b0 : (a1_1 == 8) = true := beq_iff_eq.mpr c64
          have c64b1 : (a1_1 != 8) = false := bne_eq_false_iff_eq.mpr c64
          clear c64
          replace H := Option.bind_eq_some_iff.mp H
          obtain ⟨t118, A650, H⟩ := H
          replace H : (some t118) = some r := H
          have A65 := Aside0.mk A650
          clear A650
          obtain rfl := Option.some.inj H
          have hnb66 := NB111_110.out
          have hnc66 := NB110_111.out
          have hcz67_0 : wc.cell? ⟨gb111, 0, none⟩ = some (.int .u8 a1_0) := (blk_cell BK111.out 0).trans rfl
          have hcz67_1 : wc.cell? ⟨gb111, 1, none⟩ = some (.int .u8 a1_1) := (blk_cell BK111.out 1).trans rfl
          have hcz67_2 : wc.cell? ⟨gb111, 2, none⟩ = some (.int .u16 a1_2) := (blk_cell BK111.out 2).trans rfl
          have hcz67_3 : wc.cell? ⟨gb111, 3, none⟩ = some (.int .i64 a1_3) := (blk_cell BK111.out 3).trans rfl
          have hfz67_0 := blk_frozen BK111.out 0
          have hfz67_1 := blk_frozen BK111.out 1
          have hfz67_2 := blk_frozen BK111.out 2
          have hfz67_3 := blk_frozen BK111.out 3
          go_wp2_with (first | ((with_reducible refine gate_dst (N := 5) rfl ?_); refine box_event ?hg (N := 5) ?hd (cs := #[.int .u8 0, .int .u16 0]) (t := 32) ?hr ?_; (case hd => rfl); (case hg => rfl); (case hr => first | (go_simp; done) | (go_simp; rfl)); intro gb112 hg w68 hbox hb; have n0_ := Aside0.mk (blk_below (qb BK110.out) hb); have n1_ := Aside0.mk (blk_below (qb BK111.out) hb); have n2_ := Aside0.mk (below_step (qW HB.out) hb); have n3_ := Aside0.mk (hbox); have n4_ := Aside0.mk ((by rw [hg]; exact (below_size (qW HB.out)) : w.heap.size ≤ gb112)); have n5_ := Aside0.mk ((by rw [hg]; exact (below_size (qW HB.out)) : w.heap.size ≤ gb112)); have n6_ := Aside0.mk ((by rw [hg]; exact Nat.ne_of_lt (blk_lt (qb BK110.out)) : gb110 ≠ gb112)); have n7_ := Aside0.mk ((by rw [hg]; exact Nat.ne_of_gt (blk_lt (qb BK110.out)) : gb112 ≠ gb110)); have n8_ := Aside0.mk ((by rw [hg]; exact Nat.ne_of_lt (blk_lt (qb BK111.out)) : gb111 ≠ gb112)); have n9_ := Aside0.mk ((by rw [hg]; exact Nat.ne_of_gt (blk_lt (qb BK111.out)) : gb112 ≠ gb111)); clear BK110 BK111 HB; have BK110 := n0_; have BK111 := n1_; have HB := n2_; have BK112 := n3_; have GW112 := n4_; have GE112 := n5_; have NB110_112 := n6_; have NB112_110 := n7_; have NB111_112 := n8_; have NB112_111 := n9_; clear n0_ n1_ n2_ n3_ n4_ n5_ n6_ n7_ n8_ n9_; clear hb hbox hg; have hnb69 := NB112_110.out; have hnc69 := NB110_112.out; have hnb70 := NB112_111.out; have hnc70 := NB111_112.out; have hcz71_0 : w68.cell? ⟨gb112, 0, none⟩ = some (.int .u8 0) := (blk_cell BK112.out 0).trans rfl; have hcz71_1 : w68.cell? ⟨gb112, 1, none⟩ = some (.int .u16 0) := (blk_cell BK112.out 1).trans rfl; have hfz71_0 := blk_frozen BK112.out 0; have hfz71_1 := blk_frozen BK112.out 1; have hcz72_0 : w68.cell? ⟨gb111, 0, none⟩ = some (.int .u8 a1_0) := (blk_cell BK111.out 0).trans rfl; have hcz72_1 : w68.cell? ⟨gb111, 1, none⟩ = some (.int .u8 a1_1) := (blk_cell BK111.out 1).trans rfl; have hcz72_2 : w68.cell? ⟨gb111, 2, none⟩ = some (.int .u16 a1_2) := (blk_cell BK111.out 2).trans rfl; have hcz72_3 : w68.cell? ⟨gb111, 3, none⟩ = some (.int .i64 a1_3) := (blk_cell BK111.out 3).trans rfl; have hfz72_0 := blk_frozen BK111.out 0; have hfz72_1 := blk_frozen BK111.out 1; have hfz72_2 := blk_frozen BK111.out 2; have hfz72_3 := blk_frozen BK111.out 3) | (go_at_call 68; (with_reducible refine (types_May.calls kj2 a1_1 a1_2 true _ A60.out).mono ?_); rintro e w73 ⟨rfl, hb⟩; have n0_ := Aside0.mk (blk_below (qf BK110.out) hb); have n1_ := Aside0.mk (blk_below (qf BK111.out) hb); have n2_ := Aside0.mk (blk_below (g := gb112) (o := .cells #[.int .u8 a1_1, .int .u16 a1_2] 32 (0, 0)) (by (with_reducible repeat (first | refine blk_drewN ?_ _ | refine blk_drew ?_ | refine blk_alloc ?_ _)); refine blk_put (cs := #[.int .u8 a1_1, .int .u16 0]) ?_ 1 _ rfl; (with_reducible repeat (first | refine blk_drewN ?_ _ | refine blk_drew ?_ | refine blk_alloc ?_ _)); refine blk_put (cs := #[.int .u8 0, .int .u16 0]) ?_ 0 _ rfl; (with_reducible repeat (first | refine blk_drewN ?_ _ | refine blk_drew ?_ | refine blk_alloc ?_ _)); exact BK112.out) hb); have n3_ := Aside0.mk (below_step (qW HB.out) hb); clear BK110 BK111 BK112 HB; have BK110 := n0_; have BK111 := n1_; have BK112 := n2_; have HB := n3_; clear n0_ n1_ n2_ n3_; (try clear hb); (try clear hb2); (try clear hk); (try clear hi); have hcz74_0 : w73.cell? ⟨gb112, 0, none⟩ = some (.int .u8 a1_1) := (blk_cell BK112.out 0).trans rfl; have hcz74_1 : w73.cell? ⟨gb112, 1, none⟩ = some (.int .u16 a1_2) := (blk_cell BK112.out 1).trans rfl; have hfz74_0 := blk_frozen BK112.out 0; have hfz74_1 := blk_frozen BK112.out 1) | (go_at_call 69; (with_reducible refine (types_IsRef.calls kj2 a1_1 a1_2 true _ A62.out).mono ?_); rintro e w75 ⟨rfl, hb⟩; have n0_ := Aside0.mk (blk_below (qb BK110.out) hb); have n1_ := Aside0.mk (blk_below (qb BK111.out) hb); have n2_ := Aside0.mk (blk_below (qb BK112.out) hb); have n3_ := Aside0.mk (below_step (qW HB.out) hb); clear BK110 BK111 BK112 HB; have BK110 := n0_; have BK111 := n1_; have BK112 := n2_; have HB := n3_; clear n0_ n1_ n2_ n3_; (try clear hb); (try clear hb2); (try clear hk); (try clear hi); have hcz76_0 : w75.cell? ⟨gb110, 0, none⟩ = some (.slice A0_0 l0_0.length c0_0) := (blk_cell BK110.out 0).trans rfl; have hcz76_1 : w75.cell? ⟨gb110, 1, none⟩ = some (.slice A0_1 l0_1.length c0_1) := (blk_cell BK110.out 1).trans rfl; have hcz76_2 : w75.cell? ⟨gb110, 2, none⟩ = some (.slice A0_2 l0_2.length c0_2) := (blk_cell BK110.out 2).trans rfl; have hcz76_3 : w75.cell? ⟨gb110, 3, none⟩ = some (.slice A0_3 l0_3.length c0_3) := (blk_cell BK110.out 3).trans rfl; have hfz76_0 := blk_frozen BK110.out 0; have hfz76_1 := blk_frozen BK110.out 1; have hfz76_2 := blk_frozen BK110.out 2; have hfz76_3 := blk_frozen BK110.out 3; have hcz77_0 : w75.cell? ⟨gb112, 0, none⟩ = some (.int .u8 a1_1) := (blk_cell BK112.out 0).trans rfl; have hcz77_1 : w75.cell? ⟨gb112, 1, none⟩ = some (.int .u16 a1_2) := (blk_cell BK112.out 1).trans rfl; have hfz77_0 := blk_frozen BK112.out 0; have hfz77_1 := blk_frozen BK112.out 1) | (go_at_call 70; (with_reducible refine (vals_class.calls _ _ l0_0 _ _ l0_1 _ _ l0_2 _ _ l0_3 a1_2 t118 _ ?side1 ?side2 ?side3 ?side4 ?side5 ?side6 ?side7 ?side8 A65.out).mono ?_); (case side1 => exact qC (Kd.C_below HR0_0.out HB.out)); (case side2 => exact HC0_0.out); (case side3 => exact qC (Kd.C_below HR0_1.out HB.out)); (case side4 => exact HC0_1.out); (case side5 => exact qC (Kd.C_below HR0_2.out HB.out)); (case side6 => exact HC0_2.out); (case side7 => exact qC (Kd.C_below HR0_3.out HB.out)); (case side8 => exact HC0_3.out); rintro e w78 ⟨rfl, hb⟩; have n0_ := Aside0.mk (blk_below (qb BK110.out) hb); have n1_ := Aside0.mk (blk_below (qb BK111.out) hb); have n2_ := Aside0.mk (blk_below (qb BK112.out) hb); have n3_ := Aside0.mk (below_step (qW HB.out) hb); clear BK110 BK111 BK112 HB; have BK110 := n0_; have BK111 := n1_; have BK112 := n2_; have HB := n3_; clear n0_ n1_ n2_ n3_; (try clear hb); (try clear hb2); (try clear hk); (try clear hi)))
          go_ret
          exact ⟨by first | rfl | (simp [errW_none, errW_some] <;> rfl) | (simp [*, errW_none, errW_some] <;> rfl), by repeat (first | (with_reducible first | exact HB.out | apply below_alloc | apply pw_below_drewN | apply below_drew1 | refine below_set ?_ GE110.out | refine below_set ?_ GE111.out | refine below_set ?_ GE112.out) | exact HB.out)⟩
         ·rw [if_neg c64] at H
          have c64b0 : (a1_1 == 8) = false := beq_eq_false_iff_ne.mpr c64
          have c64b1 : (a1_1 != 8) = true := bne_iff_ne.mpr c64
          obtain rfl := Option.some.inj H
          have hnb79 := NB111_110.out
          have hnc79 := NB110_111.out
          have hcz80_0 : wc.cell? ⟨gb111, 0, none⟩ = some (.int .u8 a1_0) := (blk_cell BK111.out 0).trans rfl
          have hcz80_1 : wc.cell? ⟨gb111, 1, none⟩ = some (.int .u8 a1_1) := (blk_cell BK111.out 1).trans rfl
          have hcz80_2 : wc.cell? ⟨gb111, 2, none⟩ = some (.int .u16 a1_2) := (blk_cell BK111.out 2).trans rfl
          have hcz80_3 : wc.cell? ⟨gb111, 3, none⟩ = some (.int .i64 a1_3) := (blk_cell BK111.out 3).trans rfl
          have hfz80_0 := blk_frozen BK111.out 0
          have hfz80_1 := blk_frozen BK111.out 1
          have hfz80_2 := blk_frozen BK111.out 2
          have hfz80_3 := blk_frozen BK111.out 3
          go_wp2_with (first | ((with_reducible refine gate_dst (N := 5) rfl ?_); refine box_event ?hg (N := 5) ?hd (cs := #[.int .u8 0, .int .u16 0]) (t := 32) ?hr ?_; (case hd => rfl); (case hg => rfl); (case hr => first | (go_simp; done) | (go_simp; rfl)); intro gb112 hg w81 hbox hb; have n0_ := Aside0.mk (blk_below (qb BK110.out) hb); have n1_ := Aside0.mk (blk_below (qb BK111.out) hb); have n2_ := Aside0.mk (below_step (qW HB.out) hb); have n3_ := Aside0.mk (hbox); have n4_ := Aside0.mk ((by rw [hg]; exact (below_size (qW HB.out)) : w.heap.size ≤ gb112)); have n5_ := Aside0.mk ((by rw [hg]; exact (below_size (qW HB.out)) : w.heap.size ≤ gb112)); have n6_ := Aside0.mk ((by rw [hg]; exact Nat.ne_of_lt (blk_lt (qb BK110.out)) : gb110 ≠ gb112)); have n7_ := Aside0.mk ((by rw [hg]; exact Nat.ne_of_gt (blk_lt (qb BK110.out)) : gb112 ≠ gb110)); have n8_ := Aside0.mk ((by rw [hg]; exact Nat.ne_of_lt (blk_lt (qb BK111.out)) : gb111 ≠ gb112)); have n9_ := Aside0.mk ((by rw [hg]; exact Nat.ne_of_gt (blk_lt (qb BK111.out)) : gb112 ≠ gb111)); clear BK110 BK111 HB; have BK110 := n0_; have BK111 := n1_; have HB := n2_; have BK112 := n3_; have GW112 := n4_; have GE112 := n5_; have NB110_112 := n6_; have NB112_110 := n7_; have NB111_112 := n8_; have NB112_111 := n9_; clear n0_ n1_ n2_ n3_ n4_ n5_ n6_ n7_ n8_ n9_; clear hb hbox hg; have hnb82 := NB112_110.out; have hnc82 := NB110_112.out; have hnb83 := NB112_111.out; have hnc83 := NB111_112.out; have hcz84_0 : w81.cell? ⟨gb112, 0, none⟩ = some (.int .u8 0) := (blk_cell BK112.out 0).trans rfl; have hcz84_1 : w81.cell? ⟨gb112, 1, none⟩ = some (.int .u16 0) := (blk_cell BK112.out 1).trans rfl; have hfz84_0 := blk_frozen BK112.out 0; have hfz84_1 := blk_frozen BK112.out 1; have hcz85_0 : w81.cell? ⟨gb111, 0, none⟩ = some (.int .u8 a1_0) := (blk_cell BK111.out 0).trans rfl; have hcz85_1 : w81.cell? ⟨gb111, 1, none⟩ = some (.int .u8 a1_1) := (blk_cell BK111.out 1).trans rfl; have hcz85_2 : w81.cell? ⟨gb111, 2, none⟩ = some (.int .u16 a1_2) := (blk_cell BK111.out 2).trans rfl; have hcz85_3 : w81.cell? ⟨gb111, 3, none⟩ = some (.int .i64 a1_3) := (blk_cell BK111.out 3).trans rfl; have hfz85_0 := blk_frozen BK111.out 0; have hfz85_1 := blk_frozen BK111.out 1; have hfz85_2 := blk_frozen BK111.out 2; have hfz85_3 := blk_frozen BK111.out 3) | (go_at_call 68; (with_reducible refine (types_May.calls kj2 a1_1 a1_2 true _ A60.out).mono ?_); rintro e w86 ⟨rfl, hb⟩; have n0_ := Aside0.mk (blk_below (qf BK110.out) hb); have n1_ := Aside0.mk (blk_below (qf BK111.out) hb); have n2_ := Aside0.mk (blk_below (g := gb112) (o := .cells #[.int .u8 a1_1, .int .u16 a1_2] 32 (0, 0)) (by (with_reducible repeat (first | refine blk_drewN ?_ _ | refine blk_drew ?_ | refine blk_alloc ?_ _)); refine blk_put (cs := #[.int .u8 a1_1, .int .u16 0]) ?_ 1 _ rfl; (with_reducible repeat (first | refine blk_drewN ?_ _ | refine blk_drew ?_ | refine blk_alloc ?_ _)); refine blk_put (cs := #[.int .u8 0, .int .u16 0]) ?_ 0 _ rfl; (with_reducible repeat (first | refine blk_drewN ?_ _ | refine blk_drew ?_ | refine blk_alloc ?_ _)); exact BK112.out) hb); have n3_ := Aside0.mk (below_step (qW HB.out) hb); clear BK110 BK111 BK112 HB; have BK110 := n0_; have BK111 := n1_; have BK112 := n2_; have HB := n3_; clear n0_ n1_ n2_ n3_; (try clear hb); (try clear hb2); (try clear hk); (try clear hi); have hcz87_0 : w86.cell? ⟨gb112, 0, none⟩ = some (.int .u8 a1_1) := (blk_cell BK112.out 0).trans rfl; have hcz87_1 : w86.cell? ⟨gb112, 1, none⟩ = some (.int .u16 a1_2) := (blk_cell BK112.out 1).trans rfl; have hfz87_0 := blk_frozen BK112.out 0; have hfz87_1 := blk_frozen BK112.out 1) | (go_at_call 69; (with_reducible refine (types_IsRef.calls kj2 a1_1 a1_2 true _ A62.out).mono ?_); rintro e w88 ⟨rfl, hb⟩; have n0_ := Aside0.mk (blk_below (qb BK110.out) hb); have n1_ := Aside0.mk (blk_below (qb BK111.out) hb); have n2_ := Aside0.mk (blk_below (qb BK112.out) hb); have n3_ := Aside0.mk (below_step (qW HB.out) hb); clear BK110 BK111 BK112 HB; have BK110 := n0_; have BK111 := n1_; have BK112 := n2_; have HB := n3_; clear n0_ n1_ n2_ n3_; (try clear hb); (try clear hb2); (try clear hk); (try clear hi)))
          go_ret
          exact ⟨by first | rfl | (simp [errW_none, errW_some] <;> rfl) | (simp [*, errW_none, errW_some] <;> rfl), by repeat (first | (with_reducible first | exact HB.out | apply below_alloc | apply pw_below_drewN | apply below_drew1 | refine below_set ?_ GE110.out | refine below_set ?_ GE111.out | refine below_set ?_ GE112.out) | exact HB.out)⟩
        ·replace c63 := Bool.eq_false_iff.mpr c63
         subst c63
         have H1 : (some false) = some r := by rw [if_neg (show ¬ (false = true) by decide)] at H; exact H
         clear H
         have H := H1
         clear H1
         obtain rfl := Option.some.inj H
         have hnb89 := NB111_110.out
         have hnc89 := NB110_111.out
         have hcz90_0 : wc.cell? ⟨gb111, 0, none⟩ = some (.int .u8 a1_0) := (blk_cell BK111.out 0).trans rfl
         have hcz90_1 : wc.cell? ⟨gb111, 1, none⟩ = some (.int .u8 a1_1) := (blk_cell BK111.out 1).trans rfl
         have hcz90_2 : wc.cell? ⟨gb111, 2, none⟩ = some (.int .u16 a1_2) := (blk_cell BK111.out 2).trans rfl
         have hcz90_3 : wc.cell? ⟨gb111, 3, none⟩ = some (.int .i64 a1_3) := (blk_cell BK111.out 3).trans rfl
         have hfz90_0 := blk_frozen BK111.out 0
         have hfz90_1 := blk_frozen BK111.out 1
         have hfz90_2 := blk_frozen BK111.out 2
         have hfz90_3 := blk_frozen BK111.out 3
         go_wp2_with (first | ((with_reducible refine gate_dst (N := 5) rfl ?_); refine box_event ?hg (N := 5) ?hd (cs := #[.int .u8 0, .int .u16 0]) (t := 32) ?hr ?_; (case hd => rfl); (case hg => rfl); (case hr => first | (go_simp; done) | (go_simp; rfl)); intro gb112 hg w91 hbox hb; have n0_ := Aside0.mk (blk_below (qb BK110.out) hb); have n1_ := Aside0.mk (blk_below (qb BK111.out) hb); have n2_ := Aside0.mk (below_step (qW HB.out) hb); have n3_ := Aside0.mk (hbox); have n4_ := Aside0.mk ((by rw [hg]; exact (below_size (qW HB.out)) : w.heap.size ≤ gb112)); have n5_ := Aside0.mk ((by rw [hg]; exact (below_size (qW HB.out)) : w.heap.size ≤ gb112)); have n6_ := Aside0.mk ((by rw [hg]; exact Nat.ne_of_lt (blk_lt (qb BK110.out)) : gb110 ≠ gb112)); have n7_ := Aside0.mk ((by rw [hg]; exact Nat.ne_of_gt (blk_lt (qb BK110.out)) : gb112 ≠ gb110)); have n8_ := Aside0.mk ((by rw [hg]; exact Nat.ne_of_lt (blk_lt (qb BK111.out)) : gb111 ≠ gb112)); have n9_ := Aside0.mk ((by rw [hg]; exact Nat.ne_of_gt (blk_lt (qb BK111.out)) : gb112 ≠ gb111)); clear BK110 BK111 HB; have BK110 := n0_; have BK111 := n1_; have HB := n2_; have BK112 := n3_; have GW112 := n4_; have GE112 := n5_; have NB110_112 := n6_; have NB112_110 := n7_; have NB111_112 := n8_; have NB112_111 := n9_; clear n0_ n1_ n2_ n3_ n4_ n5_ n6_ n7_ n8_ n9_; clear hb hbox hg; have hnb92 := NB112_110.out; have hnc92 := NB110_112.out; have hnb93 := NB112_111.out; have hnc93 := NB111_112.out; have hcz94_0 : w91.cell? ⟨gb112, 0, none⟩ = some (.int .u8 0) := (blk_cell BK112.out 0).trans rfl; have hcz94_1 : w91.cell? ⟨gb112, 1, none⟩ = some (.int .u16 0) := (blk_cell BK112.out 1).trans rfl; have hfz94_0 := blk_frozen BK112.out 0; have hfz94_1 := blk_frozen BK112.out 1; have hcz95_0 : w91.cell? ⟨gb111, 0, none⟩ = some (.int .u8 a1_0) := (blk_cell BK111.out 0).trans rfl; have hcz95_1 : w91.cell? ⟨gb111, 1, none⟩ = some (.int .u8 a1_1) := (blk_cell BK111.out 1).trans rfl; have hcz95_2 : w91.cell? ⟨gb111, 2, none⟩ = some (.int .u16 a1_2) := (blk_cell BK111.out 2).trans rfl; have hcz95_3 : w91.cell? ⟨gb111, 3, none⟩ = some (.int .i64 a1_3) := (blk_cell BK111.out 3).trans rfl; have hfz95_0 := blk_frozen BK111.out 0; have hfz95_1 := blk_frozen BK111.out 1; have hfz95_2 := blk_frozen BK111.out 2; have hfz95_3 := blk_frozen BK111.out 3) | (go_at_call 68; (with_reducible refine (types_May.calls kj2 a1_1 a1_2 true _ A60.out).mono ?_); rintro e w96 ⟨rfl, hb⟩; have n0_ := Aside0.mk (blk_below (qf BK110.out) hb); have n1_ := Aside0.mk (blk_below (qf BK111.out) hb); have n2_ := Aside0.mk (blk_below (g := gb112) (o := .cells #[.int .u8 a1_1, .int .u16 a1_2] 32 (0, 0)) (by (with_reducible repeat (first | refine blk_drewN ?_ _ | refine blk_drew ?_ | refine blk_alloc ?_ _)); refine blk_put (cs := #[.int .u8 a1_1, .int .u16 0]) ?_ 1 _ rfl; (with_reducible repeat (first | refine blk_drewN ?_ _ | refine blk_drew ?_ | refine blk_alloc ?_ _)); refine blk_put (cs := #[.int .u8 0, .int .u16 0]) ?_ 0 _ rfl; (with_reducible repeat (first | refine blk_drewN ?_ _ | refine blk_drew ?_ | refine blk_alloc ?_ _)); exact BK112.out) hb); have n3_ := Aside0.mk (below_step (qW HB.out) hb); clear BK110 BK111 BK112 HB; have BK110 := n0_; have BK111 := n1_; have BK112 := n2_; have HB := n3_; clear n0_ n1_ n2_ n3_; (try clear hb); (try clear hb2); (try clear hk); (try clear hi); have hcz97_0 : w96.cell? ⟨gb112, 0, none⟩ = some (.int .u8 a1_1) := (blk_cell BK112.out 0).trans rfl; have hcz97_1 : w96.cell? ⟨gb112, 1, none⟩ = some (.int .u16 a1_2) := (blk_cell BK112.out 1).trans rfl; have hfz97_0 := blk_frozen BK112.out 0; have hfz97_1 := blk_frozen BK112.out 1) | (go_at_call 69; (with_reducible refine (types_IsRef.calls kj2 a1_1 a1_2 false _ A62.out).mono ?_); rintro e w98 ⟨rfl, hb⟩; have n0_ := Aside0.mk (blk_below (qb BK110.out) hb); have n1_ := Aside0.mk (blk_below (qb BK111.out) hb); have n2_ := Aside0.mk (blk_below (qb BK112.out) hb); have n3_ := Aside0.mk (below_step (qW HB.out) hb); clear BK110 BK111 BK112 HB; have BK110 := n0_; have BK111 := n1_; have BK112 := n2_; have HB := n3_; clear n0_ n1_ n2_ n3_; (try clear hb); (try clear hb2); (try clear hk); (try clear hi)))
         go_ret
         exact ⟨by first | rfl | (simp [errW_none, errW_some] <;> rfl) | (simp [*, errW_none, errW_some] <;> rfl), by repeat (first | (with_reducible first | exact HB.out | apply below_alloc | apply pw_below_drewN | apply below_drew1 | refine below_set ?_ GE110.out | refine below_set ?_ GE111.out | refine below_set ?_ GE112.out) | exact HB.out)⟩
       ·replace c61 := Bool.eq_false_iff.mpr c61
        subst c61
        have H1 : (some false) = some r := by rw [if_neg (show ¬ (false = true) by decide)] at H; exact H
        clear H
        have H := H1
        clear H1
        obtain rfl := Option.some.inj H
        have hnb99 := NB111_110.out
        have hnc99 := NB110_111.out
        have hcz100_0 : wc.cell? ⟨gb111, 0, none⟩ = some (.int .u8 a1_0) := (blk_cell BK111.out 0).trans rfl
        have hcz100_1 : wc.cell? ⟨gb111, 1, none⟩ = some (.int .u8 a1_1) := (blk_cell BK111.out 1).trans rfl
        have hcz100_2 : wc.cell? ⟨gb111, 2, none⟩ = some (.int .u16 a1_2) := (blk_cell BK111.out 2).trans rfl
        have hcz100_3 : wc.cell? ⟨gb111, 3, none⟩ = some (.int .i64 a1_3) := (blk_cell BK111.out 3).trans rfl
        have hfz100_0 := blk_frozen BK111.out 0
        have hfz100_1 := blk_frozen BK111.out 1
        have hfz100_2 := blk_frozen BK111.out 2
        have hfz100_3 := blk_frozen BK111.out 3
        go_wp2_with (first | ((with_reducible refine gate_dst (N := 5) rfl ?_); refine box_event ?hg (N := 5) ?hd (cs := #[.int .u8 0, .int .u16 0]) (t := 32) ?hr ?_; (case hd => rfl); (case hg => rfl); (case hr => first | (go_simp; done) | (go_simp; rfl)); intro gb112 hg w101 hbox hb; have n0_ := Aside0.mk (blk_below (qb BK110.out) hb); have n1_ := Aside0.mk (blk_below (qb BK111.out) hb); have n2_ := Aside0.mk (below_step (qW HB.out) hb); have n3_ := Aside0.mk (hbox); have n4_ := Aside0.mk ((by rw [hg]; exact (below_size (qW HB.out)) : w.heap.size ≤ gb112)); have n5_ := Aside0.mk ((by rw [hg]; exact (below_size (qW HB.out)) : w.heap.size ≤ gb112)); have n6_ := Aside0.mk ((by rw [hg]; exact Nat.ne_of_lt (blk_lt (qb BK110.out)) : gb110 ≠ gb112)); have n7_ := Aside0.mk ((by rw [hg]; exact Nat.ne_of_gt (blk_lt (qb BK110.out)) : gb112 ≠ gb110)); have n8_ := Aside0.mk ((by rw [hg]; exact Nat.ne_of_lt (blk_lt (qb BK111.out)) : gb111 ≠ gb112)); have n9_ := Aside0.mk ((by rw [hg]; exact Nat.ne_of_gt (blk_lt (qb BK111.out)) : gb112 ≠ gb111)); clear BK110 BK111 HB; have BK110 := n0_; have BK111 := n1_; have HB := n2_; have BK112 := n3_; have GW112 := n4_; have GE112 := n5_; have NB110_112 := n6_; have NB112_110 := n7_; have NB111_112 := n8_; have NB112_111 := n9_; clear n0_ n1_ n2_ n3_ n4_ n5_ n6_ n7_ n8_ n9_; clear hb hbox hg; have hnb102 := NB112_110.out; have hnc102 := NB110_112.out; have hnb103 := NB112_111.out; have hnc103 := NB111_112.out; have hcz104_0 : w101.cell? ⟨gb112, 0, none⟩ = some (.int .u8 0) := (blk_cell BK112.out 0).trans rfl; have hcz104_1 : w101.cell? ⟨gb112, 1, none⟩ = some (.int .u16 0) := (blk_cell BK112.out 1).trans rfl; have hfz104_0 := blk_frozen BK112.out 0; have hfz104_1 := blk_frozen BK112.out 1; have hcz105_0 : w101.cell? ⟨gb111, 0, none⟩ = some (.int .u8 a1_0) := (blk_cell BK111.out 0).trans rfl; have hcz105_1 : w101.cell? ⟨gb111, 1, none⟩ = some (.int .u8 a1_1) := (blk_cell BK111.out 1).trans rfl; have hcz105_2 : w101.cell? ⟨gb111, 2, none⟩ = some (.int .u16 a1_2) := (blk_cell BK111.out 2).trans rfl; have hcz105_3 : w101.cell? ⟨gb111, 3, none⟩ = some (.int .i64 a1_3) := (blk_cell BK111.out 3).trans rfl; have hfz105_0 := blk_frozen BK111.out 0; have hfz105_1 := blk_frozen BK111.out 1; have hfz105_2 := blk_frozen BK111.out 2; have hfz105_3 := blk_frozen BK111.out 3) | (go_at_call 68; (with_reducible refine (types_May.calls kj2 a1_1 a1_2 false _ A60.out).mono ?_); rintro e w106 ⟨rfl, hb⟩; have n0_ := Aside0.mk (blk_below (qf BK110.out) hb); have n1_ := Aside0.mk (blk_below (qf BK111.out) hb); have n2_ := Aside0.mk (blk_below (g := gb112) (o := .cells #[.int .u8 a1_1, .int .u16 a1_2] 32 (0, 0)) (by (with_reducible repeat (first | refine blk_drewN ?_ _ | refine blk_drew ?_ | refine blk_alloc ?_ _)); refine blk_put (cs := #[.int .u8 a1_1, .int .u16 0]) ?_ 1 _ rfl; (with_reducible repeat (first | refine blk_drewN ?_ _ | refine blk_drew ?_ | refine blk_alloc ?_ _)); refine blk_put (cs := #[.int .u8 0, .int .u16 0]) ?_ 0 _ rfl; (with_reducible repeat (first | refine blk_drewN ?_ _ | refine blk_drew ?_ | refine blk_alloc ?_ _)); exact BK112.out) hb); have n3_ := Aside0.mk (below_step (qW HB.out) hb); clear BK110 BK111 BK112 HB; have BK110 := n0_; have BK111 := n1_; have BK112 := n2_; have HB := n3_; clear n0_ n1_ n2_ n3_; (try clear hb); (try clear hb2); (try clear hk); (try clear hi)))
        go_ret
        exact ⟨by first | rfl | (simp [errW_none, errW_some] <;> rfl) | (simp [*, errW_none, errW_some] <;> rfl), by repeat (first | (with_reducible first | exact HB.out | apply below_alloc | apply pw_below_drewN | apply below_drew1 | refine below_set ?_ GE110.out | refine below_set ?_ GE111.out | refine below_set ?_ GE112.out) | exact HB.out)⟩
      ·rw [if_neg c59] at H
       have c59b0 : (a1_3 == 0) = false := beq_eq_false_iff_ne.mpr c59
       have c59b1 : (a1_3 != 0) = true := bne_iff_ne.mpr c59
       obtain rfl := Option.some.inj H
       have hnb107 := NB111_110.out
       have hnc107 := NB110_111.out
       have hcz108_0 : wc.cell? ⟨gb111, 0, none⟩ = some (.int .u8 a1_0) := (blk_cell BK111.out 0).trans rfl
       have hcz108_1 : wc.cell? ⟨gb111, 1, none⟩ = some (.int .u8 a1_1) := (blk_cell BK111.out 1).trans rfl
       have hcz108_2 : wc.cell? ⟨gb111, 2, none⟩ = some (.int .u16 a1_2) := (blk_cell BK111.out 2).trans rfl
       have hcz108_3 : wc.cell? ⟨gb111, 3, none⟩ = some (.int .i64 a1_3) := (blk_cell BK111.out 3).trans rfl
       have hfz108_0 := blk_frozen BK111.out 0
       have hfz108_1 := blk_frozen BK111.out 1
       have hfz108_2 := blk_frozen BK111.out 2
       have hfz108_3 := blk_frozen BK111.out 3
       go_wp2_with (first | ((with_reducible refine gate_dst (N := 5) rfl ?_); refine box_event ?hg (N := 5) ?hd (cs := #[.int .u8 0, .int .u16 0]) (t := 32) ?hr ?_; (case hd => rfl); (case hg => rfl); (case hr => first | (go_simp; done) | (go_simp; rfl)); intro gb112 hg w109 hbox hb; have n0_ := Aside0.mk (blk_below (qb BK110.out) hb); have n1_ := Aside0.mk (blk_below (qb BK111.out) hb); have n2_ := Aside0.mk (below_step (qW HB.out) hb); have n3_ := Aside0.mk (hbox); have n4_ := Aside0.mk ((by rw [hg]; exact (below_size (qW HB.out)) : w.heap.size ≤ gb112)); have n5_ := Aside0.mk ((by rw [hg]; exact (below_size (qW HB.out)) : w.heap.size ≤ gb112)); have n6_ := Aside0.mk ((by rw [hg]; exact Nat.ne_of_lt (blk_lt (qb BK110.out)) : gb110 ≠ gb112)); have n7_ := Aside0.mk ((by rw [hg]; exact Nat.ne_of_gt (blk_lt (qb BK110.out)) : gb112 ≠ gb110)); have n8_ := Aside0.mk ((by rw [hg]; exact Nat.ne_of_lt (blk_lt (qb BK111.out)) : gb111 ≠ gb112)); have n9_ := Aside0.mk ((by rw [hg]; exact Nat.ne_of_gt (blk_lt (qb BK111.out)) : gb112 ≠ gb111)); clear BK110 BK111 HB; have BK110 := n0_; have BK111 := n1_; have HB := n2_; have BK112 := n3_; have GW112 := n4_; have GE112 := n5_; have NB110_112 := n6_; have NB112_110 := n7_; have NB111_112 := n8_; have NB112_111 := n9_; clear n0_ n1_ n2_ n3_ n4_ n5_ n6_ n7_ n8_ n9_; clear hb hbox hg; have hnb110 := NB112_110.out; have hnc110 := NB110_112.out; have hnb111 := NB112_111.out; have hnc111 := NB111_112.out; have hcz112_0 : w109.cell? ⟨gb112, 0, none⟩ = some (.int .u8 0) := (blk_cell BK112.out 0).trans rfl; have hcz112_1 : w109.cell? ⟨gb112, 1, none⟩ = some (.int .u16 0) := (blk_cell BK112.out 1).trans rfl; have hfz112_0 := blk_frozen BK112.out 0; have hfz112_1 := blk_frozen BK112.out 1; have hcz113_0 : w109.cell? ⟨gb111, 0, none⟩ = some (.int .u8 a1_0) := (blk_cell BK111.out 0).trans rfl; have hcz113_1 : w109.cell? ⟨gb111, 1, none⟩ = some (.int .u8 a1_1) := (blk_cell BK111.out 1).trans rfl; have hcz113_2 : w109.cell? ⟨gb111, 2, none⟩ = some (.int .u16 a1_2) := (blk_cell BK111.out 2).trans rfl; have hcz113_3 : w109.cell? ⟨gb111, 3, none⟩ = some (.int .i64 a1_3) := (blk_cell BK111.out 3).trans rfl; have hfz113_0 := blk_frozen BK111.out 0; have hfz113_1 := blk_frozen BK111.out 1; have hfz113_2 := blk_frozen BK111.out 2; have hfz113_3 := blk_frozen BK111.out 3))
       go_ret
       exact ⟨by first | rfl | (simp [errW_none, errW_some] <;> rfl) | (simp [*, errW_none, errW_some] <;> rfl), by repeat (first | (with_reducible first | exact HB.out | apply below_alloc | apply pw_below_drewN | apply below_drew1 | refine below_set ?_ GE110.out | refine below_set ?_ GE111.out | refine below_set ?_ GE112.out) | exact HB.out)⟩
    ·rw [if_neg c13] at H
     have c13b0 : (a1_0 == 4) = false := beq_eq_false_iff_ne.mpr c13
     have c13b1 : (a1_0 != 4) = true := bne_iff_ne.mpr c13
     by_cases c114 : a1_0 = 5
     ·rw [if_pos c114] at H
      have c114b0 : (a1_0 == 5) = true := beq_iff_eq.mpr c114
      have c114b1 : (a1_0 != 5) = false := bne_eq_false_iff_eq.mpr c114
      clear c114
      by_cases c115 : (a1_1 == 0 && (a1_2 == 0)) = true
      ·rw [if_pos c115] at H
       have c115b0 : (a1_1 == 0 && (a1_2 == 0)) = true := c115
       (try (have c115b1 : decide (a1_1 = 0 && (a1_2 == 0)) = true := by simpa using c115))
       (try (have c115b2 : (a1_1 == 0 && (a1_2 == 0)) = true := by simpa using c115))
       clear c115
       by_cases c116 : a1_3 ≥ 0
       ·rw [if_pos c116] at H
        have c116b0 : decide (0 ≤ a1_3) = true := decide_eq_true c116
        clear c116
        obtain rfl := Option.some.inj H
        have hnb117 := NB111_110.out
        have hnc117 := NB110_111.out
        have hcz118_0 : wc.cell? ⟨gb111, 0, none⟩ = some (.int .u8 a1_0) := (blk_cell BK111.out 0).trans rfl
        have hcz118_1 : wc.cell? ⟨gb111, 1, none⟩ = some (.int .u8 a1_1) := (blk_cell BK111.out 1).trans rfl
        have hcz118_2 : wc.cell? ⟨gb111, 2, none⟩ = some (.int .u16 a1_2) := (blk_cell BK111.out 2).trans rfl
        have hcz118_3 : wc.cell? ⟨gb111, 3, none⟩ = some (.int .i64 a1_3) := (blk_cell BK111.out 3).trans rfl
        have hfz118_0 := blk_frozen BK111.out 0
        have hfz118_1 := blk_frozen BK111.out 1
        have hfz118_2 := blk_frozen BK111.out 2
        have hfz118_3 := blk_frozen BK111.out 3
        go_wp2
        go_ret
        exact ⟨by first | rfl | (simp [errW_none, errW_some] <;> rfl) | (simp [*, errW_none, errW_some] <;> rfl), by repeat (first | (with_reducible first | exact HB.out | apply below_alloc | apply pw_below_drewN | apply below_drew1 | refine below_set ?_ GE110.out | refine below_set ?_ GE111.out) | exact HB.out)⟩
       ·rw [if_neg c116] at H
        have c116b0 : decide (0 ≤ a1_3) = false := decide_eq_false c116
        clear c116
        obtain rfl := Option.some.inj H
        have hnb119 := NB111_110.out
        have hnc119 := NB110_111.out
        have hcz120_0 : wc.cell? ⟨gb111, 0, none⟩ = some (.int .u8 a1_0) := (blk_cell BK111.out 0).trans rfl
        have hcz120_1 : wc.cell? ⟨gb111, 1, none⟩ = some (.int .u8 a1_1) := (blk_cell BK111.out 1).trans rfl
        have hcz120_2 : wc.cell? ⟨gb111, 2, none⟩ = some (.int .u16 a1_2) := (blk_cell BK111.out 2).trans rfl
        have hcz120_3 : wc.cell? ⟨gb111, 3, none⟩ = some (.int .i64 a1_3) := (blk_cell BK111.out 3).trans rfl
        have hfz120_0 := blk_frozen BK111.out 0
        have hfz120_1 := blk_frozen BK111.out 1
        have hfz120_2 := blk_frozen BK111.out 2
        have hfz120_3 := blk_frozen BK111.out 3
        go_wp2
        go_ret
        exact ⟨by first | rfl | (simp [errW_none, errW_some] <;> rfl) | (simp [*, errW_none, errW_some] <;> rfl), by repeat (first | (with_reducible first | exact HB.out | apply below_alloc | apply pw_below_drewN | apply below_drew1 | refine below_set ?_ GE110.out | refine below_set ?_ GE111.out) | exact HB.out)⟩
      ·rw [if_neg c115] at H
       have c115b0 : (a1_1 == 0 && (a1_2 == 0)) = false := by simpa using c115
       (try (have c115b1 : decide (a1_1 = 0 && (a1_2 == 0)) = false := by simpa using c115))
       (try (have c115b2 : (a1_1 == 0 && (a1_2 == 0)) = false := by simpa using c115))
       (try (have c115b3 : ¬ (a1_1 = 0 && (a1_2 == 0)) := by simpa using c115))
       clear c115
       obtain rfl := Option.some.inj H
       have hnb121 := NB111_110.out
       have hnc121 := NB110_111.out
       have hcz122_0 : wc.cell? ⟨gb111, 0, none⟩ = some (.int .u8 a1_0) := (blk_cell BK111.out 0).trans rfl
       have hcz122_1 : wc.cell? ⟨gb111, 1, none⟩ = some (.int .u8 a1_1) := (blk_cell BK111.out 1).trans rfl
       have hcz122_2 : wc.cell? ⟨gb111, 2, none⟩ = some (.int .u16 a1_2) := (blk_cell BK111.out 2).trans rfl
       have hcz122_3 : wc.cell? ⟨gb111, 3, none⟩ = some (.int .i64 a1_3) := (blk_cell BK111.out 3).trans rfl
       have hfz122_0 := blk_frozen BK111.out 0
       have hfz122_1 := blk_frozen BK111.out 1
       have hfz122_2 := blk_frozen BK111.out 2
       have hfz122_3 := blk_frozen BK111.out 3
       go_wp2
       go_ret
       exact ⟨by first | rfl | (simp [errW_none, errW_some] <;> rfl) | (simp [*, errW_none, errW_some] <;> rfl), by repeat (first | (with_reducible first | exact HB.out | apply below_alloc | apply pw_below_drewN | apply below_drew1 | refine below_set ?_ GE110.out | refine below_set ?_ GE111.out) | exact HB.out)⟩
     ·rw [if_neg c114] at H
      have c114b0 : (a1_0 == 5) = false := beq_eq_false_iff_ne.mpr c114
      have c114b1 : (a1_0 != 5) = true := bne_iff_ne.mpr c114
      obtain rfl := Option.some.inj H
      go_wp2
      go_ret
      exact ⟨by first | rfl | (simp [errW_none, errW_some] <;> rfl) | (simp [*, errW_none, errW_some] <;> rfl), by repeat (first | (with_reducible first | exact HB.out | apply below_alloc | apply pw_below_drewN | apply below_drew1 | refine below_set ?_ GE110.out | refine below_set ?_ GE111.out) | exact HB.out)⟩

/-! ### hier_Common: function 42 -/
def hier_Common.f (l0_0 : List (S103)) (l0_1 : List (S38)) (l0_2 : List (S206)) (l0_3 : List (S117)) (a1 : Int) (a2 : Int) : Option (Int) := if okC l0_0 = true then some (Go.Proofs.Ytjknnifcbcdjiaa.Ups.comP l0_0.length (supOf l0_0) (ifsOf l0_0) (flOf l0_0) a1 a2) else none
set_option maxHeartbeats 8000000 in
set_option maxRecDepth 100000 in
theorem hier_Common.calls (A0_0 : Option Addr) (c0_0 : Nat) (l0_0 : List (S103)) (A0_1 : Option Addr) (c0_1 : Nat) (l0_1 : List (S38)) (A0_2 : Option Addr) (c0_2 : Nat) (l0_2 : List (S206)) (A0_3 : Option Addr) (c0_3 : Nat) (l0_3 : List (S117)) (a1 : Int) (a2 : Int) (r : Int) (w : World) (hr0_0 : Kd.C k103 w A0_0 l0_0.length l0_0) (hc0_0 : l0_0.length ≤ c0_0) (hr0_1 : Kd.C k38 w A0_1 l0_1.length l0_1) (hc0_1 : l0_1.length ≤ c0_1) (hr0_2 : Kd.C k206 w A0_2 l0_2.length l0_2) (hc0_2 : l0_2.length ≤ c0_2) (hr0_3 : Kd.C k117 w A0_3 l0_3.length l0_3) (hc0_3 : l0_3.length ≤ c0_3) (h : hier_Common.f l0_0 l0_1 l0_2 l0_3 a1 a2 = some r) :
  Calls Try.prog 42 #[.agg #[.slice A0_0 l0_0.length c0_0, .slice A0_1 l0_1.length c0_1, .slice A0_2 l0_2.length c0_2, .slice A0_3 l0_3.length c0_3], .int .i64 a1, .int .i64 a2] w fun e w' => e = .returned (.int .i64 r) ∧ Below w.heap.size w w' := by
 unfold hier_Common.f at h
 split at h
 ·rename_i hc
  obtain rfl := Option.some.inj h
  exact Go.Proofs.Ytjknnifcbcdjiaa.Ups.common_any _ _ _ _ _ _ _ _ _ _ _ _ _ _ _ _ _ _ (okC_n hc) (sup_of hr0_0) (ifs_of hr0_0) (fl_of hr0_0) (okC_l hc)
 ·exact absurd h (by simp)

/-! ### vals_object: function 67 -/
def vals_object.f (a0 : Int) : Option (Int × Int × Int × Int) := some (4, 4, IntKind.u16.wrap (a0), 0)
set_option maxHeartbeats 8000000 in
set_option maxRecDepth 100000 in
theorem vals_object.calls (a0 : Int) (r1 : Int) (r2 : Int) (r3 : Int) (r4 : Int) (w : World) (h : vals_object.f a0 = some (r1, r2, r3, r4)) :
  Calls Try.prog 67 #[.int .i64 a0] w fun e w' => e = .returned (.agg #[.int .u8 r1, .int .u8 r2, .int .u16 r3, .int .i64 r4]) ∧ Below w.heap.size w w' := by
 have hu56 := Try.underlying56
 have hu32 := Try.underlying32
 have HB := Aside0.mk (Below.refl w.heap.size w)
 have H : (some (4, 4, IntKind.u16.wrap (a0), 0)) = some (r1, r2, r3, r4) := h
 clear h
 simp only [Option.some.injEq, Prod.mk.injEq] at H
 obtain ⟨rfl, rfl, rfl, rfl⟩ := H
 go_enter Try.func67, Try.ntmps67
 go_wp2_with (first | ((with_reducible refine gate_dst (N := 2) rfl ?_); refine box_event ?hg (N := 2) ?hd (cs := #[.int .u8 0, .int .u8 0, .int .u16 0, .int .i64 0]) (t := 56) ?hr ?_; (case hd => rfl); (case hg => rfl); (case hr => first | (go_simp; done) | (go_simp; rfl)); intro gb120 hg w2 hbox hb; have n0_ := Aside0.mk (below_step (qW HB.out) hb); have n1_ := Aside0.mk (hbox); have n2_ := Aside0.mk ((by rw [hg]; exact (below_size (qW HB.out)) : w.heap.size ≤ gb120)); have n3_ := Aside0.mk ((by rw [hg]; exact (below_size (qW HB.out)) : w.heap.size ≤ gb120)); clear HB; have HB := n0_; have BK120 := n1_; have GW120 := n2_; have GE120 := n3_; clear n0_ n1_ n2_ n3_; clear hb hbox hg; have hcz3_0 : w2.cell? ⟨gb120, 0, none⟩ = some (.int .u8 0) := (blk_cell BK120.out 0).trans rfl; have hcz3_1 : w2.cell? ⟨gb120, 1, none⟩ = some (.int .u8 0) := (blk_cell BK120.out 1).trans rfl; have hcz3_2 : w2.cell? ⟨gb120, 2, none⟩ = some (.int .u16 0) := (blk_cell BK120.out 2).trans rfl; have hcz3_3 : w2.cell? ⟨gb120, 3, none⟩ = some (.int .i64 0) := (blk_cell BK120.out 3).trans rfl; have hfz3_0 := blk_frozen BK120.out 0; have hfz3_1 := blk_frozen BK120.out 1; have hfz3_2 := blk_frozen BK120.out 2; have hfz3_3 := blk_frozen BK120.out 3))
 refine bodyPost_ret (results_cell_row rfl _ _ gb120 56 #[.int .u8 4, .int .u8 4, .int .u16 (IntKind.u16.wrap (a0)), .int .i64 0] (0, 0) _ rfl (by (with_reducible repeat (first | refine blk_drewN ?_ _ | refine blk_drew ?_ | refine blk_alloc ?_ _)); refine blk_put (cs := #[.int .u8 4, .int .u8 4, .int .u16 (IntKind.u16.wrap (a0)), .int .i64 0]) ?_ 3 _ rfl; (with_reducible repeat (first | refine blk_drewN ?_ _ | refine blk_drew ?_ | refine blk_alloc ?_ _)); refine blk_put (cs := #[.int .u8 4, .int .u8 4, .int .u16 0, .int .i64 0]) ?_ 2 _ rfl; (with_reducible repeat (first | refine blk_drewN ?_ _ | refine blk_drew ?_ | refine blk_alloc ?_ _)); refine blk_put (cs := #[.int .u8 4, .int .u8 0, .int .u16 0, .int .i64 0]) ?_ 1 _ rfl; (with_reducible repeat (first | refine blk_drewN ?_ _ | refine blk_drew ?_ | refine blk_alloc ?_ _)); refine blk_put (cs := #[.int .u8 0, .int .u8 0, .int .u16 0, .int .i64 0]) ?_ 0 _ rfl; (with_reducible repeat (first | refine blk_drewN ?_ _ | refine blk_drew ?_ | refine blk_alloc ?_ _)); exact BK120.out) Try.underlying56 rfl (by kernel_rfl)) rfl ?_
 exact ⟨by first | rfl | (simp [errW_none, errW_some] <;> rfl) | (simp [*, errW_none, errW_some] <;> rfl), by repeat (first | (with_reducible first | exact HB.out | apply below_alloc | apply pw_below_drewN | apply below_drew1 | refine below_set ?_ GE120.out) | exact HB.out)⟩

end Go.Proofs.Ytjknnifcbcdjiaa.PValsAny
