/- Printed by a program of this session (pr.py). -/
import Derived.Test.YtjknnifcbcdjiaaPShapeMovesx0
import Derived.Test.YtjknnifcbcdjiaaPShapeMovesx2
import Derived.Test.YtjknnifcbcdjiaaAppendFull
import Derived.Test.YtjknnifcbcdjiaaShort
namespace Go.Proofs.Ytjknnifcbcdjiaa.PShapeMoves
open Go.RowKit Go.Proofs.YtjknnifcbcdjiaaW.PrintWords Go.Proofs.YtjknnifcbcdjiaaW.PrintLast Go.Proofs.YtjknnifcbcdjiaaW.PrintMore Go.Proofs.Ytjknnifcbcdjiaa.Short
attribute [local go_sem] max2_int min2_int max_two min_two max_three min_three max_four min_four   -- for this text's walks alone
set_option linter.unusedVariables false
set_option linter.unusedSimpArgs false

/-! ### garderoberef17_Same: function 22 -/
mutual
def garderoberef17_Same.j0 : Nat → Bool → List (S56) → List (S56) → List Int → List (S56) → List (S56) → List Int → Option (Bool)
 | 0, _, _, _, _, _, _, _ => none
 | k + 1, x28, x173000, x173001, x173002, x174000, x174001, x174002 => if x28 = true then (some false) else (garderoberef17_Same.l0 k 0 x173000 x173001 x173002 x174000 x174001 x174002)
def garderoberef17_Same.l0 : Nat → Int → List (S56) → List (S56) → List Int → List (S56) → List (S56) → List Int → Option (Bool)
 | 0, _, _, _, _, _, _, _ => none
 | k + 1, x5, x173000, x173001, x173002, x174000, x174001, x174002 => if x5 < (x173002.length : Int) then (if 0 ≤ x5 then (if x5 < (x174002.length : Int) then (if (rd x173002 x5) = (rd x174002 x5) then (garderoberef17_Same.l0 k (wrap64 (x5 + 1)) x173000 x173001 x173002 x174000 x174001 x174002) else (some false)) else (none)) else (none)) else (some true)
end
def garderoberef17_Same.f (k : Nat) (l0_0 : List (S56)) (l0_1 : List (S56)) (l0_2 : List Int) (l1_0 : List (S56)) (l1_1 : List (S56)) (l1_2 : List Int) : Option (Bool) := (garderoberef17_Vals.f k l0_0 l1_0).bind fun t174 => (if t174 = true then ((garderoberef17_Vals.f k l0_1 l1_1).bind fun t175 => (if t175 = true then (garderoberef17_Same.j0 k ((l0_2.length : Int) != (l1_2.length : Int)) l0_0 l0_1 l0_2 l1_0 l1_1 l1_2) else (garderoberef17_Same.j0 k true l0_0 l0_1 l0_2 l1_0 l1_1 l1_2))) else (garderoberef17_Same.j0 k true l0_0 l0_1 l0_2 l1_0 l1_1 l1_2))
theorem garderoberef17_Same.mono_l : ∀ k, (∀ y0 y1 y2 y3 y4 y5 y6, LeO (garderoberef17_Same.j0 k y0 y1 y2 y3 y4 y5 y6) (garderoberef17_Same.j0 (k + 1) y0 y1 y2 y3 y4 y5 y6)) ∧ (∀ y0 y1 y2 y3 y4 y5 y6, LeO (garderoberef17_Same.l0 k y0 y1 y2 y3 y4 y5 y6) (garderoberef17_Same.l0 (k + 1) y0 y1 y2 y3 y4 y5 y6))
 | 0 => ⟨fun _ _ _ _ _ _ _ r h => by simp [garderoberef17_Same.j0] at h, fun _ _ _ _ _ _ _ r h => by simp [garderoberef17_Same.l0] at h⟩
 | k + 1 => by
  obtain ⟨ih0, ih1⟩ := garderoberef17_Same.mono_l k
  refine ⟨?_, ?_⟩
  ·intro y0 y1 y2 y3 y4 y5 y6
   unfold garderoberef17_Same.j0
   repeat' first
   | (with_reducible exact ih0 _ _ _ _ _ _ _)
   | (with_reducible exact ih1 _ _ _ _ _ _ _)
   | (with_reducible exact garderoberef17_Vals.mono _ _ _)
   | (with_reducible exact LeO.refl _)
   | (with_reducible exact LeO.none _)
   | (with_reducible refine LeO.ite ?_ ?_)
   | (with_reducible refine LeO.bind ?_ (fun _ => ?_))
   | exact ih0 _ _ _ _ _ _ _
   | exact ih1 _ _ _ _ _ _ _
   | exact garderoberef17_Vals.mono _ _ _
   | exact LeO.none _
   | refine LeO.ite ?_ ?_
   | refine LeO.bind ?_ (fun _ => ?_)
  ·intro y0 y1 y2 y3 y4 y5 y6
   unfold garderoberef17_Same.l0
   repeat' first
   | (with_reducible exact ih0 _ _ _ _ _ _ _)
   | (with_reducible exact ih1 _ _ _ _ _ _ _)
   | (with_reducible exact garderoberef17_Vals.mono _ _ _)
   | (with_reducible exact LeO.refl _)
   | (with_reducible exact LeO.none _)
   | (with_reducible refine LeO.ite ?_ ?_)
   | (with_reducible refine LeO.bind ?_ (fun _ => ?_))
   | exact ih0 _ _ _ _ _ _ _
   | exact ih1 _ _ _ _ _ _ _
   | exact garderoberef17_Vals.mono _ _ _
   | exact LeO.none _
   | refine LeO.ite ?_ ?_
   | refine LeO.bind ?_ (fun _ => ?_)
theorem garderoberef17_Same.mono : ∀ a0 a1 a2 a3 a4 a5 k, LeO (garderoberef17_Same.f k a0 a1 a2 a3 a4 a5) (garderoberef17_Same.f (k + 1) a0 a1 a2 a3 a4 a5) := by
 intro a0 a1 a2 a3 a4 a5 k
 obtain ⟨ih0, ih1⟩ := garderoberef17_Same.mono_l k
 unfold garderoberef17_Same.f
 repeat' first
   | (with_reducible exact ih0 _ _ _ _ _ _ _)
   | (with_reducible exact ih1 _ _ _ _ _ _ _)
   | (with_reducible exact garderoberef17_Vals.mono _ _ _)
   | (with_reducible exact LeO.refl _)
   | (with_reducible exact LeO.none _)
   | (with_reducible refine LeO.ite ?_ ?_)
   | (with_reducible refine LeO.bind ?_ (fun _ => ?_))
   | exact ih0 _ _ _ _ _ _ _
   | exact ih1 _ _ _ _ _ _ _
   | exact garderoberef17_Vals.mono _ _ _
   | exact LeO.none _
   | refine LeO.ite ?_ ?_
   | refine LeO.bind ?_ (fun _ => ?_)
set_option maxHeartbeats 8000000 in
set_option maxRecDepth 100000 in
theorem garderoberef17_Same.calls (k : Nat) (A0_0 : Option Addr) (c0_0 : Nat) (l0_0 : List (S56)) (A0_1 : Option Addr) (c0_1 : Nat) (l0_1 : List (S56)) (A0_2 : Option Addr) (c0_2 : Nat) (l0_2 : List Int) (A1_0 : Option Addr) (c1_0 : Nat) (l1_0 : List (S56)) (A1_1 : Option Addr) (c1_1 : Nat) (l1_1 : List (S56)) (A1_2 : Option Addr) (c1_2 : Nat) (l1_2 : List Int) (r : Bool) (w : World) (hr0_0 : Kd.C k56 w A0_0 l0_0.length l0_0) (hc0_0 : l0_0.length ≤ c0_0) (hr0_1 : Kd.C k56 w A0_1 l0_1.length l0_1) (hc0_1 : l0_1.length ≤ c0_1) (hr0_2 : Kd.C (Kd.int .i64) w A0_2 l0_2.length l0_2) (hc0_2 : l0_2.length ≤ c0_2) (hr1_0 : Kd.C k56 w A1_0 l1_0.length l1_0) (hc1_0 : l1_0.length ≤ c1_0) (hr1_1 : Kd.C k56 w A1_1 l1_1.length l1_1) (hc1_1 : l1_1.length ≤ c1_1) (hr1_2 : Kd.C (Kd.int .i64) w A1_2 l1_2.length l1_2) (hc1_2 : l1_2.length ≤ c1_2) (h : garderoberef17_Same.f k l0_0 l0_1 l0_2 l1_0 l1_1 l1_2 = some r) :
  Calls Try.prog 22 #[.agg #[.slice A0_0 l0_0.length c0_0, .slice A0_1 l0_1.length c0_1, .slice A0_2 l0_2.length c0_2], .agg #[.slice A1_0 l1_0.length c1_0, .slice A1_1 l1_1.length c1_1, .slice A1_2 l1_2.length c1_2]] w fun e w' => e = .returned (.bool r) ∧ Below w.heap.size w w' := by
 have hu53 := Try.underlying53
 have HR0_0 := Aside0.mk hr0_0
 have HC0_0 := Aside0.mk hc0_0
 clear hr0_0 hc0_0
 have HR0_1 := Aside0.mk hr0_1
 have HC0_1 := Aside0.mk hc0_1
 clear hr0_1 hc0_1
 have HR0_2 := Aside0.mk hr0_2
 have HC0_2 := Aside0.mk hc0_2
 clear hr0_2 hc0_2
 have HR1_0 := Aside0.mk hr1_0
 have HC1_0 := Aside0.mk hc1_0
 clear hr1_0 hc1_0
 have HR1_1 := Aside0.mk hr1_1
 have HC1_1 := Aside0.mk hc1_1
 clear hr1_1 hc1_1
 have HR1_2 := Aside0.mk hr1_2
 have HC1_2 := Aside0.mk hc1_2
 clear hr1_2 hc1_2
 have HB := Aside0.mk (Below.refl w.heap.size w)
 have H : ((garderoberef17_Vals.f k l0_0 l1_0).bind fun t174 => (if t174 = true then ((garderoberef17_Vals.f k l0_1 l1_1).bind fun t175 => (if t175 = true then (garderoberef17_Same.j0 k ((l0_2.length : Int) != (l1_2.length : Int)) l0_0 l0_1 l0_2 l1_0 l1_1 l1_2) else (garderoberef17_Same.j0 k true l0_0 l0_1 l0_2 l1_0 l1_1 l1_2))) else (garderoberef17_Same.j0 k true l0_0 l0_1 l0_2 l1_0 l1_1 l1_2))) = some r := h
 clear h
 have HC3 := Aside0.mk H
 clear H
 go_enter Try.func22, Try.ntmps22
 go_upto_region 1 with (first | ((with_reducible refine gate_dst (N := 2) rfl ?_); (try (refine gate_guard (by rfl) ?_; dsimp only)); refine box_event ?hg (N := 2) ?hd (cs := #[.slice A0_0 l0_0.length c0_0, .slice A0_1 l0_1.length c0_1, .slice A0_2 l0_2.length c0_2]) (t := 53) ?hr ?_; (case hd => rfl); (case hg => rfl); (case hr => first | (go_simp; done) | (go_simp; rfl)); intro gb172 hg w4 hbox hb; have n0_ := Aside0.mk (below_step (qW HB.out) hb); have n1_ := Aside0.mk (hbox); have n2_ := Aside0.mk ((by rw [hg]; exact (below_size (qW HB.out)) : w.heap.size ≤ gb172)); have n3_ := Aside0.mk ((by rw [hg]; exact (below_size (qW HB.out)) : w.heap.size ≤ gb172)); clear HB; have HB := n0_; have BK172 := n1_; have GW172 := n2_; have GE172 := n3_; clear n0_ n1_ n2_ n3_; clear hb hbox hg) | ((with_reducible refine gate_dst (N := 3) rfl ?_); (try (refine gate_guard (by rfl) ?_; dsimp only)); refine box_event ?hg (N := 3) ?hd (cs := #[.slice A1_0 l1_0.length c1_0, .slice A1_1 l1_1.length c1_1, .slice A1_2 l1_2.length c1_2]) (t := 53) ?hr ?_; (case hd => rfl); (case hg => rfl); (case hr => first | (go_simp; done) | (go_simp; rfl)); intro gb173 hg w5 hbox hb; have n0_ := Aside0.mk (blk_below (qb BK172.out) hb); have n1_ := Aside0.mk (below_step (qW HB.out) hb); have n2_ := Aside0.mk (hbox); have n3_ := Aside0.mk ((by rw [hg]; exact (below_size (qW HB.out)) : w.heap.size ≤ gb173)); have n4_ := Aside0.mk ((by rw [hg]; exact (below_size (qW HB.out)) : w.heap.size ≤ gb173)); have n5_ := Aside0.mk ((by rw [hg]; exact Nat.ne_of_lt (blk_lt (qb BK172.out)) : gb172 ≠ gb173)); have n6_ := Aside0.mk ((by rw [hg]; exact Nat.ne_of_gt (blk_lt (qb BK172.out)) : gb173 ≠ gb172)); clear BK172 HB; have BK172 := n0_; have HB := n1_; have BK173 := n2_; have GW173 := n3_; have GE173 := n4_; have NB172_173 := n5_; have NB173_172 := n6_; clear n0_ n1_ n2_ n3_ n4_ n5_ n6_; clear hb hbox hg))
 repeat (go_quiet (first | ((with_reducible refine gate_dst (N := 2) rfl ?_); (try (refine gate_guard (by rfl) ?_; dsimp only)); refine box_event ?hg (N := 2) ?hd (cs := #[.slice A0_0 l0_0.length c0_0, .slice A0_1 l0_1.length c0_1, .slice A0_2 l0_2.length c0_2]) (t := 53) ?hr ?_; (case hd => rfl); (case hg => rfl); (case hr => first | (go_simp; done) | (go_simp; rfl)); intro gb172 hg w4 hbox hb; have n0_ := Aside0.mk (below_step (qW HB.out) hb); have n1_ := Aside0.mk (hbox); have n2_ := Aside0.mk ((by rw [hg]; exact (below_size (qW HB.out)) : w.heap.size ≤ gb172)); have n3_ := Aside0.mk ((by rw [hg]; exact (below_size (qW HB.out)) : w.heap.size ≤ gb172)); clear HB; have HB := n0_; have BK172 := n1_; have GW172 := n2_; have GE172 := n3_; clear n0_ n1_ n2_ n3_; clear hb hbox hg) | ((with_reducible refine gate_dst (N := 3) rfl ?_); (try (refine gate_guard (by rfl) ?_; dsimp only)); refine box_event ?hg (N := 3) ?hd (cs := #[.slice A1_0 l1_0.length c1_0, .slice A1_1 l1_1.length c1_1, .slice A1_2 l1_2.length c1_2]) (t := 53) ?hr ?_; (case hd => rfl); (case hg => rfl); (case hr => first | (go_simp; done) | (go_simp; rfl)); intro gb173 hg w5 hbox hb; have n0_ := Aside0.mk (blk_below (qb BK172.out) hb); have n1_ := Aside0.mk (below_step (qW HB.out) hb); have n2_ := Aside0.mk (hbox); have n3_ := Aside0.mk ((by rw [hg]; exact (below_size (qW HB.out)) : w.heap.size ≤ gb173)); have n4_ := Aside0.mk ((by rw [hg]; exact (below_size (qW HB.out)) : w.heap.size ≤ gb173)); have n5_ := Aside0.mk ((by rw [hg]; exact Nat.ne_of_lt (blk_lt (qb BK172.out)) : gb172 ≠ gb173)); have n6_ := Aside0.mk ((by rw [hg]; exact Nat.ne_of_gt (blk_lt (qb BK172.out)) : gb173 ≠ gb172)); clear BK172 HB; have BK172 := n0_; have HB := n1_; have BK173 := n2_; have GW173 := n3_; have GE173 := n4_; have NB172_173 := n5_; have NB173_172 := n6_; clear n0_ n1_ n2_ n3_ n4_ n5_ n6_; clear hb hbox hg)); go_upto_region 1 with (first | ((with_reducible refine gate_dst (N := 2) rfl ?_); (try (refine gate_guard (by rfl) ?_; dsimp only)); refine box_event ?hg (N := 2) ?hd (cs := #[.slice A0_0 l0_0.length c0_0, .slice A0_1 l0_1.length c0_1, .slice A0_2 l0_2.length c0_2]) (t := 53) ?hr ?_; (case hd => rfl); (case hg => rfl); (case hr => first | (go_simp; done) | (go_simp; rfl)); intro gb172 hg w4 hbox hb; have n0_ := Aside0.mk (below_step (qW HB.out) hb); have n1_ := Aside0.mk (hbox); have n2_ := Aside0.mk ((by rw [hg]; exact (below_size (qW HB.out)) : w.heap.size ≤ gb172)); have n3_ := Aside0.mk ((by rw [hg]; exact (below_size (qW HB.out)) : w.heap.size ≤ gb172)); clear HB; have HB := n0_; have BK172 := n1_; have GW172 := n2_; have GE172 := n3_; clear n0_ n1_ n2_ n3_; clear hb hbox hg) | ((with_reducible refine gate_dst (N := 3) rfl ?_); (try (refine gate_guard (by rfl) ?_; dsimp only)); refine box_event ?hg (N := 3) ?hd (cs := #[.slice A1_0 l1_0.length c1_0, .slice A1_1 l1_1.length c1_1, .slice A1_2 l1_2.length c1_2]) (t := 53) ?hr ?_; (case hd => rfl); (case hg => rfl); (case hr => first | (go_simp; done) | (go_simp; rfl)); intro gb173 hg w5 hbox hb; have n0_ := Aside0.mk (blk_below (qb BK172.out) hb); have n1_ := Aside0.mk (below_step (qW HB.out) hb); have n2_ := Aside0.mk (hbox); have n3_ := Aside0.mk ((by rw [hg]; exact (below_size (qW HB.out)) : w.heap.size ≤ gb173)); have n4_ := Aside0.mk ((by rw [hg]; exact (below_size (qW HB.out)) : w.heap.size ≤ gb173)); have n5_ := Aside0.mk ((by rw [hg]; exact Nat.ne_of_lt (blk_lt (qb BK172.out)) : gb172 ≠ gb173)); have n6_ := Aside0.mk ((by rw [hg]; exact Nat.ne_of_gt (blk_lt (qb BK172.out)) : gb173 ≠ gb172)); clear BK172 HB; have BK172 := n0_; have HB := n1_; have BK173 := n2_; have GW173 := n3_; have GE173 := n4_; have NB172_173 := n5_; have NB173_172 := n6_; clear n0_ n1_ n2_ n3_ n4_ n5_ n6_; clear hb hbox hg)))
 (try simp only [Act.put, List.setIfInBounds_toArray, List.set_cons_zero, List.set_cons_succ])
 go_cut [28] (fun v28 wc => ∃ (kq : Nat) (x28_2 : Bool), v28 = .bool x28_2 ∧ Aside0 (garderoberef17_Same.j0 kq x28_2 l0_0 l0_1 l0_2 l1_0 l1_1 l1_2 = some r) ∧ Aside0 (kq ≤ k) ∧ Aside0 (wc.heap[gb172]? = some (.cells #[(.slice A0_0 l0_0.length c0_0), (.slice A0_1 l0_1.length c0_1), (.slice A0_2 l0_2.length c0_2)] 53 (0, 0))) ∧ Aside0 (wc.heap[gb173]? = some (.cells #[(.slice A1_0 l1_0.length c1_0), (.slice A1_1 l1_1.length c1_1), (.slice A1_2 l1_2.length c1_2)] 53 (0, 0))) ∧ Aside0 (Below w.heap.size w wc))
 case first =>
  have H := HC3.out
  clear HC3
  replace H := Option.bind_eq_some_iff.mp H
  obtain ⟨t174, A60, H⟩ := H
  replace H : (if t174 = true then ((garderoberef17_Vals.f k l0_1 l1_1).bind fun t175 => (if t175 = true then (garderoberef17_Same.j0 k ((l0_2.length : Int) != (l1_2.length : Int)) l0_0 l0_1 l0_2 l1_0 l1_1 l1_2) else (garderoberef17_Same.j0 k true l0_0 l0_1 l0_2 l1_0 l1_1 l1_2))) else (garderoberef17_Same.j0 k true l0_0 l0_1 l0_2 l1_0 l1_1 l1_2)) = some r := H
  have A6 := Aside0.mk A60
  clear A60
  by_cases c7 : t174 = true
  ·subst c7
   have H1 : ((garderoberef17_Vals.f k l0_1 l1_1).bind fun t175 => (if t175 = true then (garderoberef17_Same.j0 k ((l0_2.length : Int) != (l1_2.length : Int)) l0_0 l0_1 l0_2 l1_0 l1_1 l1_2) else (garderoberef17_Same.j0 k true l0_0 l0_1 l0_2 l1_0 l1_1 l1_2))) = some r := by rw [if_pos rfl] at H; exact H
   clear H
   have H := H1
   clear H1
   replace H := Option.bind_eq_some_iff.mp H
   obtain ⟨t175, A80, H⟩ := H
   replace H : (if t175 = true then (garderoberef17_Same.j0 k ((l0_2.length : Int) != (l1_2.length : Int)) l0_0 l0_1 l0_2 l1_0 l1_1 l1_2) else (garderoberef17_Same.j0 k true l0_0 l0_1 l0_2 l1_0 l1_1 l1_2)) = some r := H
   have A8 := Aside0.mk A80
   clear A80
   by_cases c9 : t175 = true
   ·subst c9
    have H1 : (garderoberef17_Same.j0 k ((l0_2.length : Int) != (l1_2.length : Int)) l0_0 l0_1 l0_2 l1_0 l1_1 l1_2) = some r := by rw [if_pos rfl] at H; exact H
    clear H
    have H := H1
    clear H1
    have H' := Aside0.mk H
    clear H
    have hnb10 := NB172_173.out
    have hnc10 := NB173_172.out
    have hcz11_0 : w5.cell? ⟨gb172, 0, none⟩ = some (.slice A0_0 l0_0.length c0_0) := (blk_cell BK172.out 0).trans rfl
    have hcz11_1 : w5.cell? ⟨gb172, 1, none⟩ = some (.slice A0_1 l0_1.length c0_1) := (blk_cell BK172.out 1).trans rfl
    have hcz11_2 : w5.cell? ⟨gb172, 2, none⟩ = some (.slice A0_2 l0_2.length c0_2) := (blk_cell BK172.out 2).trans rfl
    have hfz11_0 := blk_frozen BK172.out 0
    have hfz11_1 := blk_frozen BK172.out 1
    have hfz11_2 := blk_frozen BK172.out 2
    have hcz12_0 : w5.cell? ⟨gb173, 0, none⟩ = some (.slice A1_0 l1_0.length c1_0) := (blk_cell BK173.out 0).trans rfl
    have hcz12_1 : w5.cell? ⟨gb173, 1, none⟩ = some (.slice A1_1 l1_1.length c1_1) := (blk_cell BK173.out 1).trans rfl
    have hcz12_2 : w5.cell? ⟨gb173, 2, none⟩ = some (.slice A1_2 l1_2.length c1_2) := (blk_cell BK173.out 2).trans rfl
    have hfz12_0 := blk_frozen BK173.out 0
    have hfz12_1 := blk_frozen BK173.out 1
    have hfz12_2 := blk_frozen BK173.out 2
    go_wp2_with (first | (go_at_call 25; (with_reducible refine (garderoberef17_Vals.calls k _ _ l0_0 _ _ l1_0 true _ ?side1 ?side2 ?side3 ?side4 A6.out).mono ?_); (case side1 => exact qC (Kd.C_below HR0_0.out HB.out)); (case side2 => exact HC0_0.out); (case side3 => exact qC (Kd.C_below HR1_0.out HB.out)); (case side4 => exact HC1_0.out); rintro e w' ⟨rfl, ⟨nd, rfl⟩⟩; (try first | exact ⟨rfl, _, World.drewN_drewN _ _ _⟩ | exact ⟨rfl, _, Eq.trans (World.drewN_drewN _ _ _) (congrArg (World.drewN _) (Nat.add_assoc _ _ _))⟩)) | (go_at_call 25; (with_reducible refine (garderoberef17_Vals.calls k _ _ l0_1 _ _ l1_1 true _ ?side1 ?side2 ?side3 ?side4 A8.out).mono ?_); (case side1 => repeat (first | exact (Kd.C_below HR0_1.out (qW HB.out)) | (with_reducible refine Kd.C_alloc ?_ _) | (with_reducible refine Kd.C_drewN ?_ _) | (with_reducible refine Kd.C_drew ?_))); (case side2 => exact HC0_1.out); (case side3 => repeat (first | exact (Kd.C_below HR1_1.out (qW HB.out)) | (with_reducible refine Kd.C_alloc ?_ _) | (with_reducible refine Kd.C_drewN ?_ _) | (with_reducible refine Kd.C_drew ?_))); (case side4 => exact HC1_1.out); rintro e w' ⟨rfl, ⟨nd, rfl⟩⟩; (try first | exact ⟨rfl, _, World.drewN_drewN _ _ _⟩ | exact ⟨rfl, _, Eq.trans (World.drewN_drewN _ _ _) (congrArg (World.drewN _) (Nat.add_assoc _ _ _))⟩)))
    repeat (go_quiet (first | (go_at_call 25; (with_reducible refine (garderoberef17_Vals.calls k _ _ l0_0 _ _ l1_0 true _ ?side1 ?side2 ?side3 ?side4 A6.out).mono ?_); (case side1 => exact qC (Kd.C_below HR0_0.out HB.out)); (case side2 => exact HC0_0.out); (case side3 => exact qC (Kd.C_below HR1_0.out HB.out)); (case side4 => exact HC1_0.out); rintro e w' ⟨rfl, ⟨nd, rfl⟩⟩; (try first | exact ⟨rfl, _, World.drewN_drewN _ _ _⟩ | exact ⟨rfl, _, Eq.trans (World.drewN_drewN _ _ _) (congrArg (World.drewN _) (Nat.add_assoc _ _ _))⟩)) | (go_at_call 25; (with_reducible refine (garderoberef17_Vals.calls k _ _ l0_1 _ _ l1_1 true _ ?side1 ?side2 ?side3 ?side4 A8.out).mono ?_); (case side1 => repeat (first | exact (Kd.C_below HR0_1.out (qW HB.out)) | (with_reducible refine Kd.C_alloc ?_ _) | (with_reducible refine Kd.C_drewN ?_ _) | (with_reducible refine Kd.C_drew ?_))); (case side2 => exact HC0_1.out); (case side3 => repeat (first | exact (Kd.C_below HR1_1.out (qW HB.out)) | (with_reducible refine Kd.C_alloc ?_ _) | (with_reducible refine Kd.C_drewN ?_ _) | (with_reducible refine Kd.C_drew ?_))); (case side4 => exact HC1_1.out); rintro e w' ⟨rfl, ⟨nd, rfl⟩⟩; (try first | exact ⟨rfl, _, World.drewN_drewN _ _ _⟩ | exact ⟨rfl, _, Eq.trans (World.drewN_drewN _ _ _) (congrArg (World.drewN _) (Nat.add_assoc _ _ _))⟩))); try go_wp2_with (first | (go_at_call 25; (with_reducible refine (garderoberef17_Vals.calls k _ _ l0_0 _ _ l1_0 true _ ?side1 ?side2 ?side3 ?side4 A6.out).mono ?_); (case side1 => exact qC (Kd.C_below HR0_0.out HB.out)); (case side2 => exact HC0_0.out); (case side3 => exact qC (Kd.C_below HR1_0.out HB.out)); (case side4 => exact HC1_0.out); rintro e w' ⟨rfl, ⟨nd, rfl⟩⟩; (try first | exact ⟨rfl, _, World.drewN_drewN _ _ _⟩ | exact ⟨rfl, _, Eq.trans (World.drewN_drewN _ _ _) (congrArg (World.drewN _) (Nat.add_assoc _ _ _))⟩)) | (go_at_call 25; (with_reducible refine (garderoberef17_Vals.calls k _ _ l0_1 _ _ l1_1 true _ ?side1 ?side2 ?side3 ?side4 A8.out).mono ?_); (case side1 => repeat (first | exact (Kd.C_below HR0_1.out (qW HB.out)) | (with_reducible refine Kd.C_alloc ?_ _) | (with_reducible refine Kd.C_drewN ?_ _) | (with_reducible refine Kd.C_drew ?_))); (case side2 => exact HC0_1.out); (case side3 => repeat (first | exact (Kd.C_below HR1_1.out (qW HB.out)) | (with_reducible refine Kd.C_alloc ?_ _) | (with_reducible refine Kd.C_drewN ?_ _) | (with_reducible refine Kd.C_drew ?_))); (case side4 => exact HC1_1.out); rintro e w' ⟨rfl, ⟨nd, rfl⟩⟩; (try first | exact ⟨rfl, _, World.drewN_drewN _ _ _⟩ | exact ⟨rfl, _, Eq.trans (World.drewN_drewN _ _ _) (congrArg (World.drewN _) (Nat.add_assoc _ _ _))⟩))))
    go_meet
    case rel => exact ⟨_, (((l0_2.length : Int) != (l1_2.length : Int))), (by first | rfl | (simp; done) | (simp [*]; done)), H', ⟨by first | omega | exact Nat.le_refl _⟩, ⟨qf BK172.out⟩, ⟨qf BK173.out⟩, ⟨qW HB.out⟩⟩
   ·replace c9 := Bool.eq_false_iff.mpr c9
    subst c9
    have H1 : (garderoberef17_Same.j0 k true l0_0 l0_1 l0_2 l1_0 l1_1 l1_2) = some r := by rw [if_neg (show ¬ (false = true) by decide)] at H; exact H
    clear H
    have H := H1
    clear H1
    have H' := Aside0.mk H
    clear H
    have hnb13 := NB172_173.out
    have hnc13 := NB173_172.out
    have hcz14_0 : w5.cell? ⟨gb172, 0, none⟩ = some (.slice A0_0 l0_0.length c0_0) := (blk_cell BK172.out 0).trans rfl
    have hcz14_1 : w5.cell? ⟨gb172, 1, none⟩ = some (.slice A0_1 l0_1.length c0_1) := (blk_cell BK172.out 1).trans rfl
    have hcz14_2 : w5.cell? ⟨gb172, 2, none⟩ = some (.slice A0_2 l0_2.length c0_2) := (blk_cell BK172.out 2).trans rfl
    have hfz14_0 := blk_frozen BK172.out 0
    have hfz14_1 := blk_frozen BK172.out 1
    have hfz14_2 := blk_frozen BK172.out 2
    have hcz15_0 : w5.cell? ⟨gb173, 0, none⟩ = some (.slice A1_0 l1_0.length c1_0) := (blk_cell BK173.out 0).trans rfl
    have hcz15_1 : w5.cell? ⟨gb173, 1, none⟩ = some (.slice A1_1 l1_1.length c1_1) := (blk_cell BK173.out 1).trans rfl
    have hcz15_2 : w5.cell? ⟨gb173, 2, none⟩ = some (.slice A1_2 l1_2.length c1_2) := (blk_cell BK173.out 2).trans rfl
    have hfz15_0 := blk_frozen BK173.out 0
    have hfz15_1 := blk_frozen BK173.out 1
    have hfz15_2 := blk_frozen BK173.out 2
    go_wp2_with (first | (go_at_call 25; (with_reducible refine (garderoberef17_Vals.calls k _ _ l0_0 _ _ l1_0 true _ ?side1 ?side2 ?side3 ?side4 A6.out).mono ?_); (case side1 => exact qC (Kd.C_below HR0_0.out HB.out)); (case side2 => exact HC0_0.out); (case side3 => exact qC (Kd.C_below HR1_0.out HB.out)); (case side4 => exact HC1_0.out); rintro e w' ⟨rfl, ⟨nd, rfl⟩⟩; (try first | exact ⟨rfl, _, World.drewN_drewN _ _ _⟩ | exact ⟨rfl, _, Eq.trans (World.drewN_drewN _ _ _) (congrArg (World.drewN _) (Nat.add_assoc _ _ _))⟩)) | (go_at_call 25; (with_reducible refine (garderoberef17_Vals.calls k _ _ l0_1 _ _ l1_1 false _ ?side1 ?side2 ?side3 ?side4 A8.out).mono ?_); (case side1 => repeat (first | exact (Kd.C_below HR0_1.out (qW HB.out)) | (with_reducible refine Kd.C_alloc ?_ _) | (with_reducible refine Kd.C_drewN ?_ _) | (with_reducible refine Kd.C_drew ?_))); (case side2 => exact HC0_1.out); (case side3 => repeat (first | exact (Kd.C_below HR1_1.out (qW HB.out)) | (with_reducible refine Kd.C_alloc ?_ _) | (with_reducible refine Kd.C_drewN ?_ _) | (with_reducible refine Kd.C_drew ?_))); (case side4 => exact HC1_1.out); rintro e w' ⟨rfl, ⟨nd, rfl⟩⟩; (try first | exact ⟨rfl, _, World.drewN_drewN _ _ _⟩ | exact ⟨rfl, _, Eq.trans (World.drewN_drewN _ _ _) (congrArg (World.drewN _) (Nat.add_assoc _ _ _))⟩)))
    repeat (go_quiet (first | (go_at_call 25; (with_reducible refine (garderoberef17_Vals.calls k _ _ l0_0 _ _ l1_0 true _ ?side1 ?side2 ?side3 ?side4 A6.out).mono ?_); (case side1 => exact qC (Kd.C_below HR0_0.out HB.out)); (case side2 => exact HC0_0.out); (case side3 => exact qC (Kd.C_below HR1_0.out HB.out)); (case side4 => exact HC1_0.out); rintro e w' ⟨rfl, ⟨nd, rfl⟩⟩; (try first | exact ⟨rfl, _, World.drewN_drewN _ _ _⟩ | exact ⟨rfl, _, Eq.trans (World.drewN_drewN _ _ _) (congrArg (World.drewN _) (Nat.add_assoc _ _ _))⟩)) | (go_at_call 25; (with_reducible refine (garderoberef17_Vals.calls k _ _ l0_1 _ _ l1_1 false _ ?side1 ?side2 ?side3 ?side4 A8.out).mono ?_); (case side1 => repeat (first | exact (Kd.C_below HR0_1.out (qW HB.out)) | (with_reducible refine Kd.C_alloc ?_ _) | (with_reducible refine Kd.C_drewN ?_ _) | (with_reducible refine Kd.C_drew ?_))); (case side2 => exact HC0_1.out); (case side3 => repeat (first | exact (Kd.C_below HR1_1.out (qW HB.out)) | (with_reducible refine Kd.C_alloc ?_ _) | (with_reducible refine Kd.C_drewN ?_ _) | (with_reducible refine Kd.C_drew ?_))); (case side4 => exact HC1_1.out); rintro e w' ⟨rfl, ⟨nd, rfl⟩⟩; (try first | exact ⟨rfl, _, World.drewN_drewN _ _ _⟩ | exact ⟨rfl, _, Eq.trans (World.drewN_drewN _ _ _) (congrArg (World.drewN _) (Nat.add_assoc _ _ _))⟩))); try go_wp2_with (first | (go_at_call 25; (with_reducible refine (garderoberef17_Vals.calls k _ _ l0_0 _ _ l1_0 true _ ?side1 ?side2 ?side3 ?side4 A6.out).mono ?_); (case side1 => exact qC (Kd.C_below HR0_0.out HB.out)); (case side2 => exact HC0_0.out); (case side3 => exact qC (Kd.C_below HR1_0.out HB.out)); (case side4 => exact HC1_0.out); rintro e w' ⟨rfl, ⟨nd, rfl⟩⟩; (try first | exact ⟨rfl, _, World.drewN_drewN _ _ _⟩ | exact ⟨rfl, _, Eq.trans (World.drewN_drewN _ _ _) (congrArg (World.drewN _) (Nat.add_assoc _ _ _))⟩)) | (go_at_call 25; (with_reducible refine (garderoberef17_Vals.calls k _ _ l0_1 _ _ l1_1 false _ ?side1 ?side2 ?side3 ?side4 A8.out).mono ?_); (case side1 => repeat (first | exact (Kd.C_below HR0_1.out (qW HB.out)) | (with_reducible refine Kd.C_alloc ?_ _) | (with_reducible refine Kd.C_drewN ?_ _) | (with_reducible refine Kd.C_drew ?_))); (case side2 => exact HC0_1.out); (case side3 => repeat (first | exact (Kd.C_below HR1_1.out (qW HB.out)) | (with_reducible refine Kd.C_alloc ?_ _) | (with_reducible refine Kd.C_drewN ?_ _) | (with_reducible refine Kd.C_drew ?_))); (case side4 => exact HC1_1.out); rintro e w' ⟨rfl, ⟨nd, rfl⟩⟩; (try first | exact ⟨rfl, _, World.drewN_drewN _ _ _⟩ | exact ⟨rfl, _, Eq.trans (World.drewN_drewN _ _ _) (congrArg (World.drewN _) (Nat.add_assoc _ _ _))⟩))))
    go_meet
    case rel => exact ⟨_, (true), (by first | rfl | (simp; done) | (simp [*]; done)), H', ⟨by first | omega | exact Nat.le_refl _⟩, ⟨qf BK172.out⟩, ⟨qf BK173.out⟩, ⟨qW HB.out⟩⟩
  ·replace c7 := Bool.eq_false_iff.mpr c7
   subst c7
   have H1 : (garderoberef17_Same.j0 k true l0_0 l0_1 l0_2 l1_0 l1_1 l1_2) = some r := by rw [if_neg (show ¬ (false = true) by decide)] at H; exact H
   clear H
   have H := H1
   clear H1
   have H' := Aside0.mk H
   clear H
   have hnb16 := NB172_173.out
   have hnc16 := NB173_172.out
   have hcz17_0 : w5.cell? ⟨gb172, 0, none⟩ = some (.slice A0_0 l0_0.length c0_0) := (blk_cell BK172.out 0).trans rfl
   have hcz17_1 : w5.cell? ⟨gb172, 1, none⟩ = some (.slice A0_1 l0_1.length c0_1) := (blk_cell BK172.out 1).trans rfl
   have hcz17_2 : w5.cell? ⟨gb172, 2, none⟩ = some (.slice A0_2 l0_2.length c0_2) := (blk_cell BK172.out 2).trans rfl
   have hfz17_0 := blk_frozen BK172.out 0
   have hfz17_1 := blk_frozen BK172.out 1
   have hfz17_2 := blk_frozen BK172.out 2
   have hcz18_0 : w5.cell? ⟨gb173, 0, none⟩ = some (.slice A1_0 l1_0.length c1_0) := (blk_cell BK173.out 0).trans rfl
   have hcz18_1 : w5.cell? ⟨gb173, 1, none⟩ = some (.slice A1_1 l1_1.length c1_1) := (blk_cell BK173.out 1).trans rfl
   have hcz18_2 : w5.cell? ⟨gb173, 2, none⟩ = some (.slice A1_2 l1_2.length c1_2) := (blk_cell BK173.out 2).trans rfl
   have hfz18_0 := blk_frozen BK173.out 0
   have hfz18_1 := blk_frozen BK173.out 1
   have hfz18_2 := blk_frozen BK173.out 2
   go_wp2_with (first | (go_at_call 25; (with_reducible refine (garderoberef17_Vals.calls k _ _ l0_0 _ _ l1_0 false _ ?side1 ?side2 ?side3 ?side4 A6.out).mono ?_); (case side1 => exact qC (Kd.C_below HR0_0.out HB.out)); (case side2 => exact HC0_0.out); (case side3 => exact qC (Kd.C_below HR1_0.out HB.out)); (case side4 => exact HC1_0.out); rintro e w' ⟨rfl, ⟨nd, rfl⟩⟩; (try first | exact ⟨rfl, _, World.drewN_drewN _ _ _⟩ | exact ⟨rfl, _, Eq.trans (World.drewN_drewN _ _ _) (congrArg (World.drewN _) (Nat.add_assoc _ _ _))⟩)))
   repeat (go_quiet (first | (go_at_call 25; (with_reducible refine (garderoberef17_Vals.calls k _ _ l0_0 _ _ l1_0 false _ ?side1 ?side2 ?side3 ?side4 A6.out).mono ?_); (case side1 => exact qC (Kd.C_below HR0_0.out HB.out)); (case side2 => exact HC0_0.out); (case side3 => exact qC (Kd.C_below HR1_0.out HB.out)); (case side4 => exact HC1_0.out); rintro e w' ⟨rfl, ⟨nd, rfl⟩⟩; (try first | exact ⟨rfl, _, World.drewN_drewN _ _ _⟩ | exact ⟨rfl, _, Eq.trans (World.drewN_drewN _ _ _) (congrArg (World.drewN _) (Nat.add_assoc _ _ _))⟩))); try go_wp2_with (first | (go_at_call 25; (with_reducible refine (garderoberef17_Vals.calls k _ _ l0_0 _ _ l1_0 false _ ?side1 ?side2 ?side3 ?side4 A6.out).mono ?_); (case side1 => exact qC (Kd.C_below HR0_0.out HB.out)); (case side2 => exact HC0_0.out); (case side3 => exact qC (Kd.C_below HR1_0.out HB.out)); (case side4 => exact HC1_0.out); rintro e w' ⟨rfl, ⟨nd, rfl⟩⟩; (try first | exact ⟨rfl, _, World.drewN_drewN _ _ _⟩ | exact ⟨rfl, _, Eq.trans (World.drewN_drewN _ _ _) (congrArg (World.drewN _) (Nat.add_assoc _ _ _))⟩))))
   go_meet
   case rel => exact ⟨_, (true), (by first | rfl | (simp; done) | (simp [*]; done)), H', ⟨by first | omega | exact Nat.le_refl _⟩, ⟨qf BK172.out⟩, ⟨qf BK173.out⟩, ⟨qW HB.out⟩⟩
 case rest =>
  clear HC3
  try clear c1
  try clear c2
  try clear p2
  try clear c7
  try clear c9
  try clear c10
  try clear c13
  try clear c16
  try clear hcz11_0
  try clear hcz11_1
  try clear hcz11_2
  try clear hcz12_0
  try clear hcz12_1
  try clear hcz12_2
  try clear hcz14_0
  try clear hcz14_1
  try clear hcz14_2
  try clear hcz15_0
  try clear hcz15_1
  try clear hcz15_2
  try clear hcz17_0
  try clear hcz17_1
  try clear hcz17_2
  try clear hcz18_0
  try clear hcz18_1
  try clear hcz18_2
  try clear hfz11_0
  try clear hfz11_1
  try clear hfz11_2
  try clear hfz12_0
  try clear hfz12_1
  try clear hfz12_2
  try clear hfz14_0
  try clear hfz14_1
  try clear hfz14_2
  try clear hfz15_0
  try clear hfz15_1
  try clear hfz15_2
  try clear hfz17_0
  try clear hfz17_1
  try clear hfz17_2
  try clear hfz18_0
  try clear hfz18_1
  try clear hfz18_2
  obtain ⟨kq, x28_2, rfl, HA, HJ2, BK172, BK173, HB⟩ := hcut
  cases kq with
  | zero => exact absurd HA.out (by simp [garderoberef17_Same.j0])
  | succ kj2 =>
   have H := HA.out
   clear HA
   simp only [garderoberef17_Same.j0] at H
   by_cases c19 : x28_2 = true
   ·subst c19
    have H1 : (some false) = some r := by rw [if_pos rfl] at H; exact H
    clear H
    have H := H1
    clear H1
    obtain rfl := Option.some.inj H
    go_wp2
    repeat (go_quiet (fail); try go_wp2)
    go_ret
    exact ⟨by first | rfl | (simp [errW_none, errW_some] <;> rfl) | (simp [*, errW_none, errW_some] <;> rfl), by repeat (first | (with_reducible first | exact HB.out | apply below_alloc | apply pw_below_drewN | apply below_drew1 | refine below_set ?_ GE172.out | refine below_set ?_ GE173.out) | exact HB.out)⟩
   ·replace c19 := Bool.eq_false_iff.mpr c19
    subst c19
    have H1 : (garderoberef17_Same.l0 kj2 0 l0_0 l0_1 l0_2 l1_0 l1_1 l1_2) = some r := by rw [if_neg (show ¬ (false = true) by decide)] at H; exact H
    clear H
    have H := H1
    clear H1
    have H' := Aside0.mk H
    clear H
    go_wp2
    repeat (go_quiet (fail); try go_wp2)
    go_loopg [5] kj2 (fun kq v5 w' => ∃ (x5_2 : Int), v5 = .int .i64 x5_2 ∧ Aside0 (garderoberef17_Same.l0 kq x5_2 l0_0 l0_1 l0_2 l1_0 l1_1 l1_2 = some r) ∧ Aside0 (kq ≤ kj2) ∧ Aside0 (w'.heap[gb172]? = some (.cells #[(.slice A0_0 l0_0.length c0_0), (.slice A0_1 l0_1.length c0_1), (.slice A0_2 l0_2.length c0_2)] 53 (0, 0))) ∧ Aside0 (w'.heap[gb173]? = some (.cells #[(.slice A1_0 l1_0.length c1_0), (.slice A1_1 l1_1.length c1_1), (.slice A1_2 l1_2.length c1_2)] 53 (0, 0))) ∧ Aside0 (Below w.heap.size w w'))
    case atStart => exact ⟨(0), (by first | rfl | (simp; done) | (simp [*]; done)), H', ⟨Nat.le_refl _⟩, ⟨qf BK172.out⟩, ⟨qf BK173.out⟩, ⟨qW HB.out⟩⟩
    case round =>
     clear H'
     try clear c1
     try clear c2
     try clear p2
     try clear c7
     try clear c9
     try clear c10
     try clear c13
     try clear c16
     try clear c19
     try clear hcz11_0
     try clear hcz11_1
     try clear hcz11_2
     try clear hcz12_0
     try clear hcz12_1
     try clear hcz12_2
     try clear hcz14_0
     try clear hcz14_1
     try clear hcz14_2
     try clear hcz15_0
     try clear hcz15_1
     try clear hcz15_2
     try clear hcz17_0
     try clear hcz17_1
     try clear hcz17_2
     try clear hcz18_0
     try clear hcz18_1
     try clear hcz18_2
     try clear hfz11_0
     try clear hfz11_1
     try clear hfz11_2
     try clear hfz12_0
     try clear hfz12_1
     try clear hfz12_2
     try clear hfz14_0
     try clear hfz14_1
     try clear hfz14_2
     try clear hfz15_0
     try clear hfz15_1
     try clear hfz15_2
     try clear hfz17_0
     try clear hfz17_1
     try clear hfz17_2
     try clear hfz18_0
     try clear hfz18_1
     try clear hfz18_2
     try clear p2
     obtain ⟨x5_2, rfl, HA, HK2, BK172, BK173, HB⟩ := hrel
     cases gk with
     | zero => exact absurd HA.out (by simp [garderoberef17_Same.l0])
     | succ k2 =>
      have H := HA.out
      clear HA
      simp only [garderoberef17_Same.l0] at H
      by_cases c20 : x5_2 < (l0_2.length : Int)
      ·rw [if_pos c20] at H
       have c20b0 : decide (x5_2 < (l0_2.length : Int)) = true := decide_eq_true c20
       clear c20
       by_cases c21 : 0 ≤ x5_2
       ·rw [if_pos c21] at H
        have c21b0 : decide (0 ≤ x5_2) = true := decide_eq_true c21
        clear c21
        by_cases c22 : x5_2 < (l1_2.length : Int)
        ·rw [if_pos c22] at H
         have c22b0 : decide (x5_2 < (l1_2.length : Int)) = true := decide_eq_true c22
         clear c22
         by_cases c23 : (rd l0_2 x5_2) = (rd l1_2 x5_2)
         ·rw [if_pos c23] at H
          have c23b0 : ((rd l0_2 x5_2) == (rd l1_2 x5_2)) = true := beq_iff_eq.mpr c23
          have c23b1 : ((rd l0_2 x5_2) != (rd l1_2 x5_2)) = false := bne_eq_false_iff_eq.mpr c23
          clear c23
          have H' := Aside0.mk H
          clear H
          have hnb24 := NB172_173.out
          have hnc24 := NB173_172.out
          have hcz25_0 : wr.cell? ⟨gb172, 0, none⟩ = some (.slice A0_0 l0_0.length c0_0) := (blk_cell BK172.out 0).trans rfl
          have hcz25_1 : wr.cell? ⟨gb172, 1, none⟩ = some (.slice A0_1 l0_1.length c0_1) := (blk_cell BK172.out 1).trans rfl
          have hcz25_2 : wr.cell? ⟨gb172, 2, none⟩ = some (.slice A0_2 l0_2.length c0_2) := (blk_cell BK172.out 2).trans rfl
          have hfz25_0 := blk_frozen BK172.out 0
          have hfz25_1 := blk_frozen BK172.out 1
          have hfz25_2 := blk_frozen BK172.out 2
          have p176 : 0 ≤ (x5_2 : Int) := of_decide_eq_true (by first | (with_reducible assumption) | assumption)
          have q176 : x5_2 < (l0_2.length : Int) := of_decide_eq_true (by first | (with_reducible assumption) | assumption)
          obtain ⟨ad176, e176, hx176_0⟩ := Kd.at_int HR0_2.out x5_2 p176 q176
          cases e176
          replace hx176_0 := (HB.out.cell (World.block_lt_of_cell? w _ hx176_0)).trans hx176_0
          replace p176 := eq_true p176
          replace q176 := eq_true q176
          have hcz26_0 : wr.cell? ⟨gb173, 0, none⟩ = some (.slice A1_0 l1_0.length c1_0) := (blk_cell BK173.out 0).trans rfl
          have hcz26_1 : wr.cell? ⟨gb173, 1, none⟩ = some (.slice A1_1 l1_1.length c1_1) := (blk_cell BK173.out 1).trans rfl
          have hcz26_2 : wr.cell? ⟨gb173, 2, none⟩ = some (.slice A1_2 l1_2.length c1_2) := (blk_cell BK173.out 2).trans rfl
          have hfz26_0 := blk_frozen BK173.out 0
          have hfz26_1 := blk_frozen BK173.out 1
          have hfz26_2 := blk_frozen BK173.out 2
          have p177 : 0 ≤ (x5_2 : Int) := of_decide_eq_true (by first | (with_reducible assumption) | assumption)
          have q177 : x5_2 < (l1_2.length : Int) := of_decide_eq_true (by first | (with_reducible assumption) | assumption)
          obtain ⟨ad177, e177, hx177_0⟩ := Kd.at_int HR1_2.out x5_2 p177 q177
          cases e177
          replace hx177_0 := (HB.out.cell (World.block_lt_of_cell? w _ hx177_0)).trans hx177_0
          replace p177 := eq_true p177
          replace q177 := eq_true q177
          go_wp2
          repeat (go_quiet (fail); try go_wp2)
          go_roundg k2
          case measure => have := HJ2.out; have := HK2.out; omega
          case rel => exact ⟨(wrap64 (x5_2 + 1)), (by first | rfl | (simp; done) | (simp [*]; done)), H', ⟨by have := HJ2.out; have := HK2.out; omega⟩, ⟨qf BK172.out⟩, ⟨qf BK173.out⟩, ⟨qW HB.out⟩⟩
         ·rw [if_neg c23] at H
          have c23b0 : ((rd l0_2 x5_2) == (rd l1_2 x5_2)) = false := beq_eq_false_iff_ne.mpr c23
          have c23b1 : ((rd l0_2 x5_2) != (rd l1_2 x5_2)) = true := bne_iff_ne.mpr c23
          obtain rfl := Option.some.inj H
          have hnb27 := NB172_173.out
          have hnc27 := NB173_172.out
          have hcz28_0 : wr.cell? ⟨gb172, 0, none⟩ = some (.slice A0_0 l0_0.length c0_0) := (blk_cell BK172.out 0).trans rfl
          have hcz28_1 : wr.cell? ⟨gb172, 1, none⟩ = some (.slice A0_1 l0_1.length c0_1) := (blk_cell BK172.out 1).trans rfl
          have hcz28_2 : wr.cell? ⟨gb172, 2, none⟩ = some (.slice A0_2 l0_2.length c0_2) := (blk_cell BK172.out 2).trans rfl
          have hfz28_0 := blk_frozen BK172.out 0
          have hfz28_1 := blk_frozen BK172.out 1
          have hfz28_2 := blk_frozen BK172.out 2
          have p176 : 0 ≤ (x5_2 : Int) := of_decide_eq_true (by first | (with_reducible assumption) | assumption)
          have q176 : x5_2 < (l0_2.length : Int) := of_decide_eq_true (by first | (with_reducible assumption) | assumption)
          obtain ⟨ad176, e176, hx176_0⟩ := Kd.at_int HR0_2.out x5_2 p176 q176
          cases e176
          replace hx176_0 := (HB.out.cell (World.block_lt_of_cell? w _ hx176_0)).trans hx176_0
          replace p176 := eq_true p176
          replace q176 := eq_true q176
          have hcz29_0 : wr.cell? ⟨gb173, 0, none⟩ = some (.slice A1_0 l1_0.length c1_0) := (blk_cell BK173.out 0).trans rfl
          have hcz29_1 : wr.cell? ⟨gb173, 1, none⟩ = some (.slice A1_1 l1_1.length c1_1) := (blk_cell BK173.out 1).trans rfl
          have hcz29_2 : wr.cell? ⟨gb173, 2, none⟩ = some (.slice A1_2 l1_2.length c1_2) := (blk_cell BK173.out 2).trans rfl
          have hfz29_0 := blk_frozen BK173.out 0
          have hfz29_1 := blk_frozen BK173.out 1
          have hfz29_2 := blk_frozen BK173.out 2
          have p177 : 0 ≤ (x5_2 : Int) := of_decide_eq_true (by first | (with_reducible assumption) | assumption)
          have q177 : x5_2 < (l1_2.length : Int) := of_decide_eq_true (by first | (with_reducible assumption) | assumption)
          obtain ⟨ad177, e177, hx177_0⟩ := Kd.at_int HR1_2.out x5_2 p177 q177
          cases e177
          replace hx177_0 := (HB.out.cell (World.block_lt_of_cell? w _ hx177_0)).trans hx177_0
          replace p177 := eq_true p177
          replace q177 := eq_true q177
          go_wp2
          repeat (go_quiet (fail); try go_wp2)
          go_ret
          exact ⟨by first | rfl | (simp [errW_none, errW_some] <;> rfl) | (simp [*, errW_none, errW_some] <;> rfl), by repeat (first | (with_reducible first | exact HB.out | apply below_alloc | apply pw_below_drewN | apply below_drew1 | refine below_set ?_ GE172.out | refine below_set ?_ GE173.out) | exact HB.out)⟩
        ·rw [if_neg c22] at H
         exact absurd H (by simp)
       ·rw [if_neg c21] at H
        exact absurd H (by simp)
      ·rw [if_neg c20] at H
       have c20b0 : decide (x5_2 < (l0_2.length : Int)) = false := decide_eq_false c20
       clear c20
       obtain rfl := Option.some.inj H
       have hnb30 := NB172_173.out
       have hnc30 := NB173_172.out
       have hcz31_0 : wr.cell? ⟨gb172, 0, none⟩ = some (.slice A0_0 l0_0.length c0_0) := (blk_cell BK172.out 0).trans rfl
       have hcz31_1 : wr.cell? ⟨gb172, 1, none⟩ = some (.slice A0_1 l0_1.length c0_1) := (blk_cell BK172.out 1).trans rfl
       have hcz31_2 : wr.cell? ⟨gb172, 2, none⟩ = some (.slice A0_2 l0_2.length c0_2) := (blk_cell BK172.out 2).trans rfl
       have hfz31_0 := blk_frozen BK172.out 0
       have hfz31_1 := blk_frozen BK172.out 1
       have hfz31_2 := blk_frozen BK172.out 2
       go_wp2
       repeat (go_quiet (fail); try go_wp2)
       go_ret
       exact ⟨by first | rfl | (simp [errW_none, errW_some] <;> rfl) | (simp [*, errW_none, errW_some] <;> rfl), by repeat (first | (with_reducible first | exact HB.out | apply below_alloc | apply pw_below_drewN | apply below_drew1 | refine below_set ?_ GE172.out | refine below_set ?_ GE173.out) | exact HB.out)⟩

/-! ### shape_Pop: function 23 -/
set_option maxHeartbeats 8000000 in
set_option maxRecDepth 100000 in
theorem pop_ok (A0_0 : Option Addr) (c0_0 : Nat) (l0_0 : List (S56)) (A0_1 : Option Addr) (c0_1 : Nat) (l0_1 : List (S56)) (A0_2 : Option Addr) (c0_2 : Nat) (l0_2 : List Int) (a1 : Int) (r1 : List (S56)) (r2 : List (S56)) (r3 : List Int) (r4 : List (S56)) (j : Nat) (w : World) (hr0_0 : Kd.C k56 w A0_0 l0_0.length l0_0) (hc0_0 : l0_0.length ≤ c0_0) (hr0_1 : Kd.C k56 w A0_1 l0_1.length l0_1) (hc0_1 : l0_1.length ≤ c0_1) (hr0_2 : Kd.C (Kd.int .i64) w A0_2 l0_2.length l0_2) (hc0_2 : l0_2.length ≤ c0_2)
  (b1 : decide (a1 < 0) = false) (b2 : decide ((l0_1.length : Int) < a1) = false) (A16 : shape_copied.f l0_0 l0_1 l0_2 = some (r1, r2, r3)) (hj : wrap64 ((r2.length : Int) - a1) = (j : Int)) (hj1 : j ≤ r2.length) (hcl : api_Val.f (r2.drop j) = some r4) :
  Calls Try.prog 23 #[.agg #[.slice A0_0 l0_0.length c0_0, .slice A0_1 l0_1.length c0_1, .slice A0_2 l0_2.length c0_2], .int .i64 a1] w fun e w' => ∃ v0_ v1_ v2_ v3_ : Value, e = .returned (.tuple #[.agg #[v0_, v1_, v2_], v3_, .int .i64 0]) ∧ Kd.R k56 56 w' w.heap.size (fun k_ => (w.heap.size ≤ k_) ∧ some k_ ≠ (v3_ : Value).ownBlock) v0_ r1 ∧ Kd.V k56 56 w' w.heap.size (fun k_ => (w.heap.size ≤ k_) ∧ some k_ ≠ (v0_ : Value).ownBlock ∧ some k_ ≠ (v2_ : Value).ownBlock ∧ some k_ ≠ (v3_ : Value).ownBlock) v1_ (r2.take j) ∧ Kd.R (Kd.int .i64) 3 w' w.heap.size (fun k_ => (w.heap.size ≤ k_)) v2_ r3 ∧ Kd.R k56 56 w' w.heap.size (fun k_ => (w.heap.size ≤ k_) ∧ some k_ ≠ (v0_ : Value).ownBlock) v3_ r4 ∧ Below w.heap.size w w' := by
 have H1 := Aside0.mk hr0_0
 have H2 := Aside0.mk hr0_1
 have H3 := Aside0.mk hr0_2
 have G1 := Aside0.mk hc0_0
 have G2 := Aside0.mk hc0_1
 have G3 := Aside0.mk hc0_2
 have A17 := Aside0.mk A16
 have AC := Aside0.mk hcl
 have hjw : IntKind.i64.wrap ((r2.length : Int) - a1) = (j : Int) := (i64_w _).trans hj
 clear hr0_0 hr0_1 hr0_2 hc0_0 hc0_1 hc0_2 A16 hcl
 go_enter Try.func23, Try.ntmps23
 go_wp2_with (fail)
 refine (shape_copied.calls _ _ l0_0 _ _ l0_1 _ _ l0_2 r1 r2 r3 _ (Kd.C_alloc (Kd.C_alloc H1.out _) _) G1.out (Kd.C_alloc (Kd.C_alloc H2.out _) _) G2.out (Kd.C_alloc (Kd.C_alloc H3.out _) _) G3.out A17.out).mono ?_
 rintro e w3 ⟨v0, v1, v2, rfl, ho0, ho1, ho2, hb⟩
 obtain ⟨B0, d0, rfl⟩ := Kd.R_slice ho0
 obtain ⟨B1, d1, rfl⟩ := Kd.R_slice ho1
 obtain ⟨B2, d2, rfl⟩ := Kd.R_slice ho2
 have hd1 := (Kd.R_reads' ho1).2.1
 have hC1 := (Kd.R_reads' ho1).2.2
 have hz := hb.size
 simp at hz
 have bs : w3.heap[w.heap.size]? = some (.cells #[.slice A0_0 l0_0.length c0_0, .slice A0_1 l0_1.length c0_1, .slice A0_2 l0_2.length c0_2] 53 (0, 0)) := blk_below (blk_alloc (blk_new _ _) _) hb
 have br : w3.heap[w.heap.size + 1]? = some (.cells #[.slice none 0 0, .slice none 0 0, .slice none 0 0] 53 (0, 0)) := blk_below (by have := blk_new (w.alloc (.cells #[.slice A0_0 l0_0.length c0_0, .slice A0_1 l0_1.length c0_1, .slice A0_2 l0_2.length c0_2] 53)) (.cells #[.slice none 0 0, .slice none 0 0, .slice none 0 0] 53 (0, 0)); simpa using this) hb
 have BR := Aside0.mk br
 have V1 : Aside0 (Kd.V k56 56 w3 w.heap.size (fun k_ => ((w.heap.size ≤ k_) ∧ some k_ ≠ (.slice B0 r1.length d0 : Value).ownBlock ∧ some k_ ≠ (.slice B2 r3.length d2 : Value).ownBlock) ∧ k_ ≠ w.heap.size + 1 ∧ k_ < w3.heap.size) (.slice B1 j j) (r2.take j)) :=
  ⟨v_cap (Kd.R_take (Kd.R_mono (Kd.R_bound (Kd.R_types (Kd.R_apartR ho1 ho2 (by decide)) br (by decide))) (fun k hk => ⟨⟨by have := hk.2.1; simp at this; omega, hk.1.1.1, hk.1.1.2⟩, hk.1.2, hk.2.2.1⟩)) hj1) (Nat.le_refl _)⟩
 have HO0 := Aside0.mk (Kd.R_mono (Kd.R_bound (Kd.R_types ho0 br (by decide))) (ok' := fun k => w.heap.size ≤ k ∧ k ≠ w.heap.size + 1 ∧ k < w3.heap.size) (fun k hk => ⟨by have := hk.2.1; simp at this; omega, hk.1.2, hk.2.2.1⟩))
 have HO2 := Aside0.mk (Kd.R_mono (Kd.R_bound (Kd.R_types ho2 br (by decide))) (ok' := fun k => w.heap.size ≤ k ∧ k ≠ w.heap.size + 1 ∧ k < w3.heap.size) (fun k hk => ⟨by have := hk.2.1; simp at this; omega, hk.1.2, hk.2.2.1⟩))
 have F0 := Aside0.mk (Kd.R_lt ho0)
 have HT : Aside0 (Below w.heap.size w w3) := ⟨((((Below.refl _ _).alloc (Nat.le_refl _) _).alloc (by simp) _).trans (hb.mono (by simp; omega)))⟩
 have s0 : w3.cell? ⟨w.heap.size, 0, none⟩ = some (.slice A0_0 l0_0.length c0_0) := (blk_cell bs 0).trans rfl
 have s1 : w3.cell? ⟨w.heap.size, 1, none⟩ = some (.slice A0_1 l0_1.length c0_1) := (blk_cell bs 1).trans rfl
 have s2 : w3.cell? ⟨w.heap.size, 2, none⟩ = some (.slice A0_2 l0_2.length c0_2) := (blk_cell bs 2).trans rfl
 obtain ⟨i0, hi0, _, hsz0, _⟩ := info_parts info56
 have hcut := cut_from (P := Try.prog) 50 56 .i64 Try.underlying50 hi0 4 hsz0 B1 r2.length d1 (j : Int) (by omega) (by omega)
 have hr34 := Kd.C_drop (m := j) (c := d1) hC1 hj1 hd1
 rw [Int.toNat_natCast] at hcut
 obtain ⟨A34, hA34⟩ : ∃ A1, A1 = (if d1 = j then B1 else (B1 : Option Addr).map (·.add (j * 4))) := ⟨_, rfl⟩
 obtain ⟨c34, hc34⟩ : ∃ c1, c1 = d1 - j := ⟨_, rfl⟩
 obtain ⟨y, hy⟩ : ∃ y, y = r2.drop j := ⟨_, rfl⟩
 have hyl : y.length = r2.length - j := by rw [hy, List.length_drop]
 rw [← hy] at hr34
 replace hr34 : Kd.C k56 w3 A34 y.length y := by rw [hA34]; exact hr34
 rw [← hyl, ← hA34, ← hc34] at hcut
 have HR34 := Aside0.mk hr34
 have HC34 := Aside0.mk (show y.length ≤ c34 by omega)
 have HY := Aside0.mk hy
 have HZ := Aside0.mk hz
 have HD := Aside0.mk (show j ≤ d1 by omega)
 clear bs br ho0 ho1 ho2 hb hC1 hi0 hsz0 hr34 hA34 hc34 hy hyl
 go_wp2_with (fail)
 refine (api_Val.calls _ _ y r4 _ (Kd.C_alloc HR34.out _) HC34.out (by rw [HY.out]; exact AC.out)).mono ?_
 rintro e w5 ⟨v4, rfl, ho4, hb4⟩
 obtain ⟨B4, d4, rfl⟩ := Kd.R_slice ho4
 have hz := HZ.out
 have hz5 := hb4.size
 simp at hz5
 have br := blk_below (blk_alloc BR.out (.cells #[.slice B0 r1.length d0, .slice B1 r2.length d1, .slice B2 r3.length d2] 53)) hb4
 have bn := blk_below (blk_new w3 (.cells #[.slice B0 r1.length d0, .slice B1 r2.length d1, .slice B2 r3.length d2] 53)) hb4
 have HO0' := Aside0.mk (Kd.R_below (Kd.R_alloc HO0.out _) hb4)
 have HO2' := Aside0.mk (Kd.R_below (Kd.R_alloc HO2.out _) hb4)
 have HV1 := Aside0.mk (Kd.V_below (Kd.V_alloc V1.out _) hb4)
 have HB5 : Aside0 (Below w.heap.size w w5) := ⟨(HT.out.alloc (by omega) _).trans (hb4.mono (by simp; omega))⟩
 have HO4 := Aside0.mk (Kd.R_mono (Kd.R_bound (Kd.R_types (Kd.R_types ho4 br (by decide)) bn (by decide))) (ok' := fun k => w3.heap.size < k ∧ k ≠ w.heap.size + 1 ∧ k ≠ w3.heap.size) (fun k hk => ⟨by have := hk.2.1; simp at this; omega, hk.1.1.2, hk.1.2⟩))
 have n0 : w5.cell? ⟨w3.heap.size, 0, none⟩ = some (.slice B0 r1.length d0) := (blk_cell bn 0).trans rfl
 have n1 : w5.cell? ⟨w3.heap.size, 1, none⟩ = some (.slice B1 r2.length d1) := (blk_cell bn 1).trans rfl
 have n2 : w5.cell? ⟨w3.heap.size, 2, none⟩ = some (.slice B2 r3.length d2) := (blk_cell bn 2).trans rfl
 have n3 := blk_frozen bn 1
 have m0 : w5.cell? ⟨w.heap.size + 1, 0, none⟩ = some (.slice none 0 0) := (blk_cell br 0).trans rfl
 have m1 : w5.cell? ⟨w.heap.size + 1, 1, none⟩ = some (.slice none 0 0) := (blk_cell br 1).trans rfl
 have m2 : w5.cell? ⟨w.heap.size + 1, 2, none⟩ = some (.slice none 0 0) := (blk_cell br 2).trans rfl
 have o0 := blk_frozen br 0
 have o1 := blk_frozen br 1
 have o2 := blk_frozen br 2
 have HN := Aside0.mk (show w.heap.size + 1 ≠ w3.heap.size by omega)
 have BR5 := Aside0.mk br
 have HZ5 := Aside0.mk hz5
 have hdj := HD.out
 have hne := HN.out
 clear br bn ho4 hb4 hcut hz hz5
 go_wp2_with (fail)
 have b0 := blk_far (p := ⟨w3.heap.size, 1, none⟩) BR5.out HN.out (.slice B1 j j)
 have b1 := blk_put b0 0 (.slice B0 r1.length d0) rfl
 have b2 := blk_put b1 1 (.slice B1 j j) rfl
 have b3 := blk_put b2 2 (.slice B2 r3.length d2) rfl
 have e0 := blk_cell b3 0
 have e1 := blk_cell b3 1
 have e2 := blk_cell b3 2
 have f0 := Kd.R_far (p := ⟨w.heap.size + 1, 2, none⟩) (Kd.R_far (p := ⟨w.heap.size + 1, 1, none⟩) (Kd.R_far (p := ⟨w.heap.size + 1, 0, none⟩) (Kd.R_far (p := ⟨w3.heap.size, 1, none⟩) HO0'.out (fun _ hk => Nat.ne_of_lt hk.2.2) (.slice B1 j j)) (fun _ hk => hk.2.1) (.slice B0 r1.length d0)) (fun _ hk => hk.2.1) (.slice B1 j j)) (fun _ hk => hk.2.1) (.slice B2 r3.length d2)
 have f2 := Kd.R_far (p := ⟨w.heap.size + 1, 2, none⟩) (Kd.R_far (p := ⟨w.heap.size + 1, 1, none⟩) (Kd.R_far (p := ⟨w.heap.size + 1, 0, none⟩) (Kd.R_far (p := ⟨w3.heap.size, 1, none⟩) HO2'.out (fun _ hk => Nat.ne_of_lt hk.2.2) (.slice B1 j j)) (fun _ hk => hk.2.1) (.slice B0 r1.length d0)) (fun _ hk => hk.2.1) (.slice B1 j j)) (fun _ hk => hk.2.1) (.slice B2 r3.length d2)
 have f1 := Kd.V_far (p := ⟨w.heap.size + 1, 2, none⟩) (Kd.V_far (p := ⟨w.heap.size + 1, 1, none⟩) (Kd.V_far (p := ⟨w.heap.size + 1, 0, none⟩) (Kd.V_far (p := ⟨w3.heap.size, 1, none⟩) HV1.out (fun _ hk => Nat.ne_of_lt hk.2.2) (.slice B1 j j)) (fun _ hk => hk.2.1) (.slice B0 r1.length d0)) (fun _ hk => hk.2.1) (.slice B1 j j)) (fun _ hk => hk.2.1) (.slice B2 r3.length d2)
 have f4 := Kd.R_far (p := ⟨w.heap.size + 1, 2, none⟩) (Kd.R_far (p := ⟨w.heap.size + 1, 1, none⟩) (Kd.R_far (p := ⟨w.heap.size + 1, 0, none⟩) (Kd.R_far (p := ⟨w3.heap.size, 1, none⟩) HO4.out (fun _ hk => hk.2.2) (.slice B1 j j)) (fun _ hk => hk.2.1) (.slice B0 r1.length d0)) (fun _ hk => hk.2.1) (.slice B1 j j)) (fun _ hk => hk.2.1) (.slice B2 r3.length d2)
 have hz := HZ.out
 have hz5 := HZ5.out
 have g4 := f4.1
 have g0 := f0.1
 refine bodyPost_ret (v := .tuple #[.agg #[.slice B0 r1.length d0, .slice B1 j j, .slice B2 r3.length d2], .slice B4 r4.length d4, .int .i64 0]) (by simp at e0 e1 e2; simp [results, Try.results23, go_sem, e0, e1, e2]) rfl ⟨_, _, _, _, rfl, Kd.R_lower (Kd.R_mono f0 (fun k hk => ⟨hk.1, fun e => by have := (g4 k e.symm).1; have := hk.2.2; omega⟩)) (by simp; omega), Kd.V_mono f1 (fun k hk => ⟨hk.1.1, hk.1.2.1, hk.1.2.2, fun e => by have := (g4 k e.symm).1; have := hk.2.2; omega⟩), Kd.R_lower (Kd.R_mono f2 (fun _ hk => hk.1)) (by simp; omega), Kd.R_lower (Kd.R_mono f4 (fun k hk => ⟨by have := hk.1; omega, fun e => by have := (g0 k e.symm).2.2; have := hk.1; omega⟩)) (by simp; omega), ?_⟩
 exact (((HB5.out.setCell (by simp; omega) _).setCell (by simp) _).setCell (by simp) _).setCell (by simp) _
def shape_Pop.f (l0_0 : List (S56)) (l0_1 : List (S56)) (l0_2 : List Int) (a1 : Int) : Option ((List (S56)) × (List (S56)) × List Int × (List (S56)) × Int) := if a1 < 0 then (some (([] : List (S56)), ([] : List (S56)), ([] : List Int), ([] : List (S56)), 2)) else (if a1 > (l0_1.length : Int) then (some (([] : List (S56)), ([] : List (S56)), ([] : List Int), ([] : List (S56)), 9)) else ((shape_copied.f l0_0 l0_1 l0_2).bind fun bt180 => (if 0 ≤ (wrap64 ((bt180.2.1.length : Int) - a1)) then (if (wrap64 ((bt180.2.1.length : Int) - a1)) ≤ (bt180.2.1.length : Int) then ((api_Val.f (bt180.2.1.drop ((wrap64 ((bt180.2.1.length : Int) - a1)) : Int).toNat)).bind fun t194 => (some (bt180.1, (bt180.2.1.take ((wrap64 ((bt180.2.1.length : Int) - a1)) : Int).toNat), bt180.2.2, t194, 0))) else (none)) else (none))))
set_option maxHeartbeats 8000000 in
set_option maxRecDepth 100000 in
theorem shape_Pop.calls (A0_0 : Option Addr) (c0_0 : Nat) (l0_0 : List (S56)) (A0_1 : Option Addr) (c0_1 : Nat) (l0_1 : List (S56)) (A0_2 : Option Addr) (c0_2 : Nat) (l0_2 : List Int) (a1 : Int) (r1 : List (S56)) (r2 : List (S56)) (r3 : List Int) (r4 : List (S56)) (r5 : Int) (w : World) (hr0_0 : Kd.C k56 w A0_0 l0_0.length l0_0) (hc0_0 : l0_0.length ≤ c0_0) (hr0_1 : Kd.C k56 w A0_1 l0_1.length l0_1) (hc0_1 : l0_1.length ≤ c0_1) (hr0_2 : Kd.C (Kd.int .i64) w A0_2 l0_2.length l0_2) (hc0_2 : l0_2.length ≤ c0_2) (h : shape_Pop.f l0_0 l0_1 l0_2 a1 = some (r1, r2, r3, r4, r5)) :
  Calls Try.prog 23 #[.agg #[.slice A0_0 l0_0.length c0_0, .slice A0_1 l0_1.length c0_1, .slice A0_2 l0_2.length c0_2], .int .i64 a1] w fun e w' => ∃ v0_ v1_ v2_ v3_ : Value, e = .returned (.tuple #[.agg #[v0_, v1_, v2_], v3_, .int .i64 r5]) ∧ Kd.R k56 56 w' w.heap.size (fun k_ => (w.heap.size ≤ k_) ∧ some k_ ≠ (v3_ : Value).ownBlock) v0_ r1 ∧ Kd.V k56 56 w' w.heap.size (fun k_ => (w.heap.size ≤ k_) ∧ some k_ ≠ (v0_ : Value).ownBlock ∧ some k_ ≠ (v2_ : Value).ownBlock ∧ some k_ ≠ (v3_ : Value).ownBlock) v1_ r2 ∧ Kd.R (Kd.int .i64) 3 w' w.heap.size (fun k_ => (w.heap.size ≤ k_)) v2_ r3 ∧ Kd.R k56 56 w' w.heap.size (fun k_ => (w.heap.size ≤ k_) ∧ some k_ ≠ (v0_ : Value).ownBlock) v3_ r4 ∧ Below w.heap.size w w' := by
 have hu53 := Try.underlying53
 have HR0_0 := Aside0.mk hr0_0
 have HC0_0 := Aside0.mk hc0_0
 clear hr0_0 hc0_0
 have HR0_1 := Aside0.mk hr0_1
 have HC0_1 := Aside0.mk hc0_1
 clear hr0_1 hc0_1
 have HR0_2 := Aside0.mk hr0_2
 have HC0_2 := Aside0.mk hc0_2
 clear hr0_2 hc0_2
 have HB := Aside0.mk (Below.refl w.heap.size w)
 have H : (if a1 < 0 then (some (([] : List (S56)), ([] : List (S56)), ([] : List Int), ([] : List (S56)), 2)) else (if a1 > (l0_1.length : Int) then (some (([] : List (S56)), ([] : List (S56)), ([] : List Int), ([] : List (S56)), 9)) else ((shape_copied.f l0_0 l0_1 l0_2).bind fun bt180 => (if 0 ≤ (wrap64 ((bt180.2.1.length : Int) - a1)) then (if (wrap64 ((bt180.2.1.length : Int) - a1)) ≤ (bt180.2.1.length : Int) then ((api_Val.f (bt180.2.1.drop ((wrap64 ((bt180.2.1.length : Int) - a1)) : Int).toNat)).bind fun t194 => (some (bt180.1, (bt180.2.1.take ((wrap64 ((bt180.2.1.length : Int) - a1)) : Int).toNat), bt180.2.2, t194, 0))) else (none)) else (none))))) = some (r1, r2, r3, r4, r5) := h
 clear h
 by_cases c3 : a1 < 0
 ·rw [if_pos c3] at H
  have c3b0 : decide (a1 < 0) = true := decide_eq_true c3
  clear c3
  simp only [Option.some.injEq, Prod.mk.injEq] at H
  obtain ⟨rfl, rfl, rfl, rfl, rfl⟩ := H
  go_enter Try.func23, Try.ntmps23
  go_wp2_with (first | ((with_reducible refine gate_dst (N := 2) rfl ?_); refine box_event ?hg (N := 2) ?hd (cs := #[.slice A0_0 l0_0.length c0_0, .slice A0_1 l0_1.length c0_1, .slice A0_2 l0_2.length c0_2]) (t := 53) ?hr ?_; (case hd => rfl); (case hg => rfl); (case hr => first | (go_simp; done) | (go_simp; rfl)); intro gb178 hg w4 hbox hb; have n0_ := Aside0.mk (below_step (qW HB.out) hb); have n1_ := Aside0.mk (hbox); have n2_ := Aside0.mk ((by rw [hg]; exact (below_size (qW HB.out)) : w.heap.size ≤ gb178)); have n3_ := Aside0.mk ((by rw [hg]; exact (below_size (qW HB.out)) : w.heap.size ≤ gb178)); clear HB; have HB := n0_; have BK178 := n1_; have GW178 := n2_; have GE178 := n3_; clear n0_ n1_ n2_ n3_; clear hb hbox hg) | ((with_reducible refine gate_dst (N := 4) rfl ?_); refine box_event ?hg (N := 4) ?hd (cs := #[.slice none 0 0, .slice none 0 0, .slice none 0 0]) (t := 53) ?hr ?_; (case hd => rfl); (case hg => rfl); (case hr => first | (go_simp; done) | (go_simp; rfl)); intro gb179 hg w5 hbox hb; have n0_ := Aside0.mk (blk_below (qb BK178.out) hb); have n1_ := Aside0.mk (below_step (qW HB.out) hb); have n2_ := Aside0.mk (hbox); have n3_ := Aside0.mk ((by rw [hg]; exact (below_size (qW HB.out)) : w.heap.size ≤ gb179)); have n4_ := Aside0.mk ((by rw [hg]; exact (below_size (qW HB.out)) : w.heap.size ≤ gb179)); have n5_ := Aside0.mk ((by rw [hg]; exact Nat.ne_of_lt (blk_lt (qb BK178.out)) : gb178 ≠ gb179)); have n6_ := Aside0.mk ((by rw [hg]; exact Nat.ne_of_gt (blk_lt (qb BK178.out)) : gb179 ≠ gb178)); clear BK178 HB; have BK178 := n0_; have HB := n1_; have BK179 := n2_; have GW179 := n3_; have GE179 := n4_; have NB178_179 := n5_; have NB179_178 := n6_; clear n0_ n1_ n2_ n3_ n4_ n5_ n6_; clear hb hbox hg; have hnb6 := NB179_178.out; have hnc6 := NB178_179.out; have hcz7_0 : w5.cell? ⟨gb179, 0, none⟩ = some (.slice none 0 0) := (blk_cell BK179.out 0).trans rfl; have hcz7_1 : w5.cell? ⟨gb179, 1, none⟩ = some (.slice none 0 0) := (blk_cell BK179.out 1).trans rfl; have hcz7_2 : w5.cell? ⟨gb179, 2, none⟩ = some (.slice none 0 0) := (blk_cell BK179.out 2).trans rfl; have hfz7_0 := blk_frozen BK179.out 0; have hfz7_1 := blk_frozen BK179.out 1; have hfz7_2 := blk_frozen BK179.out 2))
  refine bodyPost_ret (results_ctt rfl _ _ gb179 53 #[.slice none 0 0, .slice none 0 0, .slice none 0 0] (0, 0) _ rfl (by (with_reducible repeat (first | refine blk_drewN ?_ _ | refine blk_drew ?_ | refine blk_alloc ?_ _)); refine blk_put (cs := #[.slice none 0 0, .slice none 0 0, .slice none 0 0]) ?_ 2 _ rfl; (with_reducible repeat (first | refine blk_drewN ?_ _ | refine blk_drew ?_ | refine blk_alloc ?_ _)); refine blk_put (cs := #[.slice none 0 0, .slice none 0 0, .slice none 0 0]) ?_ 1 _ rfl; (with_reducible repeat (first | refine blk_drewN ?_ _ | refine blk_drew ?_ | refine blk_alloc ?_ _)); refine blk_put (cs := #[.slice none 0 0, .slice none 0 0, .slice none 0 0]) ?_ 0 _ rfl; (with_reducible repeat (first | refine blk_drewN ?_ _ | refine blk_drew ?_ | refine blk_alloc ?_ _)); exact BK179.out) Try.underlying53 rfl (by kernel_rfl)) rfl ?_
  exact ⟨_, _, _, _, by first | rfl | (simp [errW_none, errW_some] <;> rfl) | (simp [*, errW_none, errW_some] <;> rfl), by first | exact Kd.R_nil _ _ _ _ _ | exact Kd.N_nil _ _ _ _ _ | exact Kd.V_nil _ _ _ _ _ | exact Kd.Q_nil _ _ _ _ _ | exact Kd.S_nil _ _ _ _ _, Kd.V_nil _ _ _ _ _, by first | exact Kd.R_nil _ _ _ _ _ | exact Kd.N_nil _ _ _ _ _ | exact Kd.V_nil _ _ _ _ _ | exact Kd.Q_nil _ _ _ _ _ | exact Kd.S_nil _ _ _ _ _, by first | exact Kd.R_nil _ _ _ _ _ | exact Kd.N_nil _ _ _ _ _ | exact Kd.V_nil _ _ _ _ _ | exact Kd.Q_nil _ _ _ _ _ | exact Kd.S_nil _ _ _ _ _, by repeat (first | (with_reducible first | exact HB.out | apply below_alloc | apply pw_below_drewN | apply below_drew1 | refine below_set ?_ GE178.out | refine below_set ?_ GE179.out) | exact HB.out)⟩
 ·rw [if_neg c3] at H
  have c3b0 : decide (a1 < 0) = false := decide_eq_false c3
  clear c3
  by_cases c8 : a1 > (l0_1.length : Int)
  ·rw [if_pos c8] at H
   have c8b0 : decide ((l0_1.length : Int) < a1) = true := decide_eq_true c8
   clear c8
   simp only [Option.some.injEq, Prod.mk.injEq] at H
   obtain ⟨rfl, rfl, rfl, rfl, rfl⟩ := H
   go_enter Try.func23, Try.ntmps23
   go_wp2_with (first | ((with_reducible refine gate_dst (N := 2) rfl ?_); refine box_event ?hg (N := 2) ?hd (cs := #[.slice A0_0 l0_0.length c0_0, .slice A0_1 l0_1.length c0_1, .slice A0_2 l0_2.length c0_2]) (t := 53) ?hr ?_; (case hd => rfl); (case hg => rfl); (case hr => first | (go_simp; done) | (go_simp; rfl)); intro gb178 hg w9 hbox hb; have n0_ := Aside0.mk (below_step (qW HB.out) hb); have n1_ := Aside0.mk (hbox); have n2_ := Aside0.mk ((by rw [hg]; exact (below_size (qW HB.out)) : w.heap.size ≤ gb178)); have n3_ := Aside0.mk ((by rw [hg]; exact (below_size (qW HB.out)) : w.heap.size ≤ gb178)); clear HB; have HB := n0_; have BK178 := n1_; have GW178 := n2_; have GE178 := n3_; clear n0_ n1_ n2_ n3_; clear hb hbox hg) | ((with_reducible refine gate_dst (N := 4) rfl ?_); refine box_event ?hg (N := 4) ?hd (cs := #[.slice none 0 0, .slice none 0 0, .slice none 0 0]) (t := 53) ?hr ?_; (case hd => rfl); (case hg => rfl); (case hr => first | (go_simp; done) | (go_simp; rfl)); intro gb179 hg w10 hbox hb; have n0_ := Aside0.mk (blk_below (qb BK178.out) hb); have n1_ := Aside0.mk (below_step (qW HB.out) hb); have n2_ := Aside0.mk (hbox); have n3_ := Aside0.mk ((by rw [hg]; exact (below_size (qW HB.out)) : w.heap.size ≤ gb179)); have n4_ := Aside0.mk ((by rw [hg]; exact (below_size (qW HB.out)) : w.heap.size ≤ gb179)); have n5_ := Aside0.mk ((by rw [hg]; exact Nat.ne_of_lt (blk_lt (qb BK178.out)) : gb178 ≠ gb179)); have n6_ := Aside0.mk ((by rw [hg]; exact Nat.ne_of_gt (blk_lt (qb BK178.out)) : gb179 ≠ gb178)); clear BK178 HB; have BK178 := n0_; have HB := n1_; have BK179 := n2_; have GW179 := n3_; have GE179 := n4_; have NB178_179 := n5_; have NB179_178 := n6_; clear n0_ n1_ n2_ n3_ n4_ n5_ n6_; clear hb hbox hg; have hnb11 := NB178_179.out; have hnc11 := NB179_178.out; have hcz12_0 : w10.cell? ⟨gb178, 0, none⟩ = some (.slice A0_0 l0_0.length c0_0) := (blk_cell BK178.out 0).trans rfl; have hcz12_1 : w10.cell? ⟨gb178, 1, none⟩ = some (.slice A0_1 l0_1.length c0_1) := (blk_cell BK178.out 1).trans rfl; have hcz12_2 : w10.cell? ⟨gb178, 2, none⟩ = some (.slice A0_2 l0_2.length c0_2) := (blk_cell BK178.out 2).trans rfl; have hfz12_0 := blk_frozen BK178.out 0; have hfz12_1 := blk_frozen BK178.out 1; have hfz12_2 := blk_frozen BK178.out 2; have hcz13_0 : w10.cell? ⟨gb179, 0, none⟩ = some (.slice none 0 0) := (blk_cell BK179.out 0).trans rfl; have hcz13_1 : w10.cell? ⟨gb179, 1, none⟩ = some (.slice none 0 0) := (blk_cell BK179.out 1).trans rfl; have hcz13_2 : w10.cell? ⟨gb179, 2, none⟩ = some (.slice none 0 0) := (blk_cell BK179.out 2).trans rfl; have hfz13_0 := blk_frozen BK179.out 0; have hfz13_1 := blk_frozen BK179.out 1; have hfz13_2 := blk_frozen BK179.out 2))
   refine bodyPost_ret (results_ctt rfl _ _ gb179 53 #[.slice none 0 0, .slice none 0 0, .slice none 0 0] (0, 0) _ rfl (by (with_reducible repeat (first | refine blk_drewN ?_ _ | refine blk_drew ?_ | refine blk_alloc ?_ _)); refine blk_put (cs := #[.slice none 0 0, .slice none 0 0, .slice none 0 0]) ?_ 2 _ rfl; (with_reducible repeat (first | refine blk_drewN ?_ _ | refine blk_drew ?_ | refine blk_alloc ?_ _)); refine blk_put (cs := #[.slice none 0 0, .slice none 0 0, .slice none 0 0]) ?_ 1 _ rfl; (with_reducible repeat (first | refine blk_drewN ?_ _ | refine blk_drew ?_ | refine blk_alloc ?_ _)); refine blk_put (cs := #[.slice none 0 0, .slice none 0 0, .slice none 0 0]) ?_ 0 _ rfl; (with_reducible repeat (first | refine blk_drewN ?_ _ | refine blk_drew ?_ | refine blk_alloc ?_ _)); exact BK179.out) Try.underlying53 rfl (by kernel_rfl)) rfl ?_
   exact ⟨_, _, _, _, by first | rfl | (simp [errW_none, errW_some] <;> rfl) | (simp [*, errW_none, errW_some] <;> rfl), by first | exact Kd.R_nil _ _ _ _ _ | exact Kd.N_nil _ _ _ _ _ | exact Kd.V_nil _ _ _ _ _ | exact Kd.Q_nil _ _ _ _ _ | exact Kd.S_nil _ _ _ _ _, Kd.V_nil _ _ _ _ _, by first | exact Kd.R_nil _ _ _ _ _ | exact Kd.N_nil _ _ _ _ _ | exact Kd.V_nil _ _ _ _ _ | exact Kd.Q_nil _ _ _ _ _ | exact Kd.S_nil _ _ _ _ _, by first | exact Kd.R_nil _ _ _ _ _ | exact Kd.N_nil _ _ _ _ _ | exact Kd.V_nil _ _ _ _ _ | exact Kd.Q_nil _ _ _ _ _ | exact Kd.S_nil _ _ _ _ _, by repeat (first | (with_reducible first | exact HB.out | apply below_alloc | apply pw_below_drewN | apply below_drew1 | refine below_set ?_ GE178.out | refine below_set ?_ GE179.out) | exact HB.out)⟩
  ·rw [if_neg c8] at H
   have c8b0 : decide ((l0_1.length : Int) < a1) = false := decide_eq_false c8
   clear c8
   replace H := Option.bind_eq_some_iff.mp H
   obtain ⟨⟨t180, t183, t186⟩, A140, H⟩ := H
   replace H : (if 0 ≤ (wrap64 ((t183.length : Int) - a1)) then (if (wrap64 ((t183.length : Int) - a1)) ≤ (t183.length : Int) then ((api_Val.f (t183.drop ((wrap64 ((t183.length : Int) - a1)) : Int).toNat)).bind fun t194 => (some (t180, (t183.take ((wrap64 ((t183.length : Int) - a1)) : Int).toNat), t186, t194, 0))) else (none)) else (none)) = some (r1, r2, r3, r4, r5) := H
   have A14 := Aside0.mk A140
   clear A140
   obtain ⟨ji15, hji15⟩ : ∃ j_ : Int, (wrap64 ((t183.length : Int) - a1)) = j_ := ⟨_, rfl⟩
   replace H : (if 0 ≤ (ji15) then (if (ji15) ≤ (t183.length : Int) then ((api_Val.f (t183.drop ((ji15) : Int).toNat)).bind fun t194 => (some (t180, (t183.take ((ji15) : Int).toNat), t186, t194, 0))) else (none)) else (none)) = some (r1, r2, r3, r4, r5) := by first | (rw [hji15] at H; exact H) | (simp only [hji15] at H ⊢; exact H)
   (try rw [hji15] at A14)
   have hji15w : (IntKind.i64.wrap ((t183.length : Int) - a1)) = ji15 := (i64_w _).trans hji15
   by_cases c16 : 0 ≤ (ji15)
   ·rw [if_pos c16] at H
    have c16b0 := eq_true c16
    have c16b1 : decide (0 ≤ (ji15)) = true := decide_eq_true c16
    clear c16
    by_cases c17 : (ji15) ≤ (t183.length : Int)
    ·rw [if_pos c17] at H
     have c17b0 := eq_true c17
     have c17b1 : decide ((ji15) ≤ (t183.length : Int)) = true := decide_eq_true c17
     clear c17
     obtain ⟨y190, hy190⟩ : ∃ y_ : List (S56), y_ = (t183.drop ((ji15) : Int).toNat) := ⟨_, rfl⟩
     replace H : ((api_Val.f y190).bind fun t194 => (some (t180, (t183.take ((ji15) : Int).toNat), t186, t194, 0))) = some (r1, r2, r3, r4, r5) := by first | (rw [hy190]; with_reducible exact H) | (have H2_ := (Option.bind_some _ _).symm.trans H; rw [hy190]; with_reducible exact H2_) | (have H2_ := (Option.bind_some _ _).symm.trans H; with_reducible exact H2_) | with_reducible exact H | (rw [hy190]; exact H) | exact H
     have Ny190 := Aside0.mk hy190
     clear hy190
     replace H := Option.bind_eq_some_iff.mp H
     obtain ⟨t194, A180, H⟩ := H
     replace H : (some (t180, (t183.take ((ji15) : Int).toNat), t186, t194, 0)) = some (r1, r2, r3, r4, r5) := H
     have A18 := Aside0.mk A180
     clear A180
     have c19b0 := eq_true (of_decide_eq_true (by first | (with_reducible assumption) | assumption) : (ji15) ≤ (t183.length : Int))
     obtain ⟨y197, hy197⟩ : ∃ y_ : List (S56), y_ = (t183.take ((ji15) : Int).toNat) := ⟨_, rfl⟩
     replace H : (some (t180, y197, t186, t194, 0)) = some (r1, r2, r3, r4, r5) := by first | (rw [hy197]; with_reducible exact H) | (have H2_ := (Option.bind_some _ _).symm.trans H; rw [hy197]; with_reducible exact H2_) | (have H2_ := (Option.bind_some _ _).symm.trans H; with_reducible exact H2_) | with_reducible exact H | (rw [hy197]; exact H) | exact H
     have Ny197 := Aside0.mk hy197
     clear hy197
     simp only [Option.some.injEq, Prod.mk.injEq] at H
     obtain ⟨rfl, rfl, rfl, rfl, rfl⟩ := H
     have j0 : 0 ≤ ji15 := of_eq_true c16b0
     have j1 := of_eq_true c17b0
     have hjn : ((ji15.toNat : Nat) : Int) = ji15 := Int.toNat_of_nonneg j0
     rw [Ny197.out]
     exact pop_ok _ _ _ _ _ _ _ _ _ _ _ _ _ _ _ _ HR0_0.out HC0_0.out HR0_1.out HC0_1.out HR0_2.out HC0_2.out c3b0 c8b0 A14.out (by rw [hjn]; exact hji15) (by omega) (by rw [← Ny190.out]; exact A18.out)
    ·rw [if_neg c17] at H
     exact absurd H (by simp)
   ·rw [if_neg c16] at H
    exact absurd H (by simp)


/-! ### garderoberef17_Pop: function 24 -/
set_option maxHeartbeats 8000000 in
set_option maxRecDepth 100000 in
theorem popr_ok (A0_0 : Option Addr) (c0_0 : Nat) (l0_0 : List (S56)) (A0_1 : Option Addr) (c0_1 : Nat) (l0_1 : List (S56)) (A0_2 : Option Addr) (c0_2 : Nat) (l0_2 : List Int) (a1 : Int) (r1 : List (S56)) (r2 : List (S56)) (r3 : List Int) (j : Nat) (w : World) (hr0_0 : Kd.C k56 w A0_0 l0_0.length l0_0) (hc0_0 : l0_0.length ≤ c0_0) (hr0_1 : Kd.C k56 w A0_1 l0_1.length l0_1) (hc0_1 : l0_1.length ≤ c0_1) (hr0_2 : Kd.C (Kd.int .i64) w A0_2 l0_2.length l0_2) (hc0_2 : l0_2.length ≤ c0_2)
  (b1 : decide (a1 < 0) = false) (b2 : decide ((l0_1.length : Int) < a1) = false) (A16 : garderoberef17_Copy.f l0_0 l0_1 l0_2 = some (r1, r2, r3)) (hj : wrap64 ((r2.length : Int) - a1) = (j : Int)) (hj1 : j ≤ r2.length) :
  Calls Try.prog 24 #[.agg #[.slice A0_0 l0_0.length c0_0, .slice A0_1 l0_1.length c0_1, .slice A0_2 l0_2.length c0_2], .int .i64 a1] w fun e w' => ∃ v0_ v1_ v2_ v3_ : Value, e = .returned (.tuple #[.agg #[v0_, v1_, v2_], v3_, .int .i64 0]) ∧ Kd.R k56 56 w' w.heap.size (fun k_ => (w.heap.size ≤ k_)) v0_ r1 ∧ Kd.V k56 56 w' w.heap.size (fun k_ => (w.heap.size ≤ k_) ∧ some k_ ≠ (v0_ : Value).ownBlock ∧ some k_ ≠ (v2_ : Value).ownBlock) v1_ (r2.take j) ∧ Kd.R (Kd.int .i64) 3 w' w.heap.size (fun k_ => (w.heap.size ≤ k_)) v2_ r3 ∧ Kd.V k56 56 w' w.heap.size (fun k_ => (w.heap.size ≤ k_) ∧ some k_ ≠ (v0_ : Value).ownBlock ∧ some k_ ≠ (v2_ : Value).ownBlock) v3_ (r2.drop j) ∧ Below w.heap.size w w' := by
 have H1 := Aside0.mk hr0_0
 have H2 := Aside0.mk hr0_1
 have H3 := Aside0.mk hr0_2
 have G1 := Aside0.mk hc0_0
 have G2 := Aside0.mk hc0_1
 have G3 := Aside0.mk hc0_2
 have A17 := Aside0.mk A16
 have hjw : IntKind.i64.wrap ((r2.length : Int) - a1) = (j : Int) := (i64_w _).trans hj
 clear hr0_0 hr0_1 hr0_2 hc0_0 hc0_1 hc0_2 A16
 go_enter Try.func24, Try.ntmps24
 go_wp2_with (fail)
 refine (garderoberef17_Copy.calls _ _ l0_0 _ _ l0_1 _ _ l0_2 r1 r2 r3 _ (Kd.C_alloc (Kd.C_alloc H1.out _) _) G1.out (Kd.C_alloc (Kd.C_alloc H2.out _) _) G2.out (Kd.C_alloc (Kd.C_alloc H3.out _) _) G3.out A17.out).mono ?_
 rintro e w3 ⟨v0, v1, v2, rfl, ho0, ho1, ho2, hb⟩
 obtain ⟨B0, d0, rfl⟩ := Kd.R_slice ho0
 obtain ⟨B1, d1, rfl⟩ := Kd.R_slice ho1
 obtain ⟨B2, d2, rfl⟩ := Kd.R_slice ho2
 have hd1 := (Kd.R_reads' ho1).2.1
 have hC1 := (Kd.R_reads' ho1).2.2
 have hz := hb.size
 simp at hz
 have bs : w3.heap[w.heap.size]? = some (.cells #[.slice A0_0 l0_0.length c0_0, .slice A0_1 l0_1.length c0_1, .slice A0_2 l0_2.length c0_2] 53 (0, 0)) := blk_below (blk_alloc (blk_new _ _) _) hb
 have br : w3.heap[w.heap.size + 1]? = some (.cells #[.slice none 0 0, .slice none 0 0, .slice none 0 0] 53 (0, 0)) := blk_below (by have := blk_new (w.alloc (.cells #[.slice A0_0 l0_0.length c0_0, .slice A0_1 l0_1.length c0_1, .slice A0_2 l0_2.length c0_2] 53)) (.cells #[.slice none 0 0, .slice none 0 0, .slice none 0 0] 53 (0, 0)); simpa using this) hb
 have BR := Aside0.mk br
 have W1 : Kd.R k56 56 w3 w.heap.size (fun k_ => ((w.heap.size ≤ k_) ∧ some k_ ≠ (.slice B0 r1.length d0 : Value).ownBlock ∧ some k_ ≠ (.slice B2 r3.length d2 : Value).ownBlock) ∧ k_ ≠ w.heap.size + 1 ∧ k_ < w3.heap.size) (.slice B1 r2.length d1) r2 :=
  Kd.R_lower (Kd.R_mono (Kd.R_bound (Kd.R_types (Kd.R_apartR ho1 ho2 (by decide)) br (by decide))) (fun k hk => ⟨⟨by have := hk.2.1; simp at this; omega, hk.1.1.1, hk.1.1.2⟩, hk.1.2, hk.2.2.1⟩)) (by simp; omega)
 have V1 : Aside0 (Kd.V k56 56 w3 w.heap.size (fun k_ => ((w.heap.size ≤ k_) ∧ some k_ ≠ (.slice B0 r1.length d0 : Value).ownBlock ∧ some k_ ≠ (.slice B2 r3.length d2 : Value).ownBlock) ∧ k_ ≠ w.heap.size + 1 ∧ k_ < w3.heap.size) (.slice B1 j d1) (r2.take j)) :=
  ⟨v_cap (Kd.R_take W1 hj1) (by omega)⟩
 have V3 : Kd.V k56 56 w3 w.heap.size (fun k_ => ((w.heap.size ≤ k_) ∧ some k_ ≠ (.slice B0 r1.length d0 : Value).ownBlock ∧ some k_ ≠ (.slice B2 r3.length d2 : Value).ownBlock) ∧ k_ ≠ w.heap.size + 1 ∧ k_ < w3.heap.size) (.slice (if d1 = j then B1 else (B1 : Option Addr).map (·.add (j * 4))) (r2.drop j).length (d1 - j)) (r2.drop j) :=
  Kd.V_mk (by rw [List.length_drop]; omega) (Kd.F_cut (Kd.V_at (Kd.R_V (base' := 0) W1)).2.2 hj1 hd1)
 have HO0 := Aside0.mk (Kd.R_mono (Kd.R_bound (Kd.R_types ho0 br (by decide))) (ok' := fun k => w.heap.size ≤ k ∧ k ≠ w.heap.size + 1 ∧ k < w3.heap.size) (fun k hk => ⟨by have := hk.2.1; simp at this; omega, hk.1.2, hk.2.2.1⟩))
 have HO2 := Aside0.mk (Kd.R_mono (Kd.R_bound (Kd.R_types ho2 br (by decide))) (ok' := fun k => w.heap.size ≤ k ∧ k ≠ w.heap.size + 1 ∧ k < w3.heap.size) (fun k hk => ⟨by have := hk.2.1; simp at this; omega, hk.1.2, hk.2.2.1⟩))
 have F0 := Aside0.mk (Kd.R_lt ho0)
 have HT : Aside0 (Below w.heap.size w w3) := ⟨((((Below.refl _ _).alloc (Nat.le_refl _) _).alloc (by simp) _).trans (hb.mono (by simp; omega)))⟩
 have s0 : w3.cell? ⟨w.heap.size, 0, none⟩ = some (.slice A0_0 l0_0.length c0_0) := (blk_cell bs 0).trans rfl
 have s1 : w3.cell? ⟨w.heap.size, 1, none⟩ = some (.slice A0_1 l0_1.length c0_1) := (blk_cell bs 1).trans rfl
 have s2 : w3.cell? ⟨w.heap.size, 2, none⟩ = some (.slice A0_2 l0_2.length c0_2) := (blk_cell bs 2).trans rfl
 obtain ⟨i0, hi0, _, hsz0, _⟩ := info_parts info56
 have hcut := cut_from (P := Try.prog) 50 56 .i64 Try.underlying50 hi0 4 hsz0 B1 r2.length d1 (j : Int) (by omega) (by omega)
 rw [Int.toNat_natCast] at hcut
 obtain ⟨A34, hA34⟩ : ∃ A1, A1 = (if d1 = j then B1 else (B1 : Option Addr).map (·.add (j * 4))) := ⟨_, rfl⟩
 obtain ⟨c34, hc34⟩ : ∃ c1, c1 = d1 - j := ⟨_, rfl⟩
 obtain ⟨y, hy⟩ : ∃ y, y = r2.drop j := ⟨_, rfl⟩
 have hyl : y.length = r2.length - j := by rw [hy, List.length_drop]
 rw [← hy, ← hA34, ← hc34] at V3
 rw [← hyl, ← hA34, ← hc34] at hcut
 have V34 := Aside0.mk V3
 have HY := Aside0.mk hy
 have HZ := Aside0.mk hz
 have HD := Aside0.mk (show j ≤ d1 by omega)
 clear bs br ho0 ho1 ho2 hb hC1 hi0 hsz0 V3 W1 hA34 hc34 hy hyl
 have br := blk_alloc BR.out (.cells #[.slice B0 r1.length d0, .slice B1 j d1, .slice B2 r3.length d2] 53)
 have m0 : (w3.alloc (.cells #[.slice B0 r1.length d0, .slice B1 j d1, .slice B2 r3.length d2] 53)).cell? ⟨w.heap.size + 1, 0, none⟩ = some (.slice none 0 0) := (blk_cell br 0).trans rfl
 have m1 : (w3.alloc (.cells #[.slice B0 r1.length d0, .slice B1 j d1, .slice B2 r3.length d2] 53)).cell? ⟨w.heap.size + 1, 1, none⟩ = some (.slice none 0 0) := (blk_cell br 1).trans rfl
 have m2 : (w3.alloc (.cells #[.slice B0 r1.length d0, .slice B1 j d1, .slice B2 r3.length d2] 53)).cell? ⟨w.heap.size + 1, 2, none⟩ = some (.slice none 0 0) := (blk_cell br 2).trans rfl
 have o0 := blk_frozen br 0
 have o1 := blk_frozen br 1
 have o2 := blk_frozen br 2
 have HN := Aside0.mk (show w.heap.size + 1 ≠ w3.heap.size by omega)
 have BR5 := Aside0.mk br
 have hdj := HD.out
 have hne := HN.out
 have HO0' := Aside0.mk (Kd.R_alloc HO0.out (.cells #[.slice B0 r1.length d0, .slice B1 j d1, .slice B2 r3.length d2] 53))
 have HO2' := Aside0.mk (Kd.R_alloc HO2.out (.cells #[.slice B0 r1.length d0, .slice B1 j d1, .slice B2 r3.length d2] 53))
 have HV1 := Aside0.mk (Kd.V_alloc V1.out (.cells #[.slice B0 r1.length d0, .slice B1 j d1, .slice B2 r3.length d2] 53))
 have HV3 := Aside0.mk (Kd.V_alloc V34.out (.cells #[.slice B0 r1.length d0, .slice B1 j d1, .slice B2 r3.length d2] 53))
 have HB5 : Aside0 (Below w.heap.size w (w3.alloc (.cells #[.slice B0 r1.length d0, .slice B1 j d1, .slice B2 r3.length d2] 53))) := ⟨HT.out.alloc (by omega) _⟩
 have hjr := hj1
 clear br
 go_wp2_with (fail)
 have b1 := blk_put BR5.out 0 (.slice B0 r1.length d0) rfl
 have b2 := blk_put b1 1 (.slice B1 j d1) rfl
 have b3 := blk_put b2 2 (.slice B2 r3.length d2) rfl
 have e0 := blk_cell b3 0
 have e1 := blk_cell b3 1
 have e2 := blk_cell b3 2
 have f0 := Kd.R_far (p := ⟨w.heap.size + 1, 2, none⟩) (Kd.R_far (p := ⟨w.heap.size + 1, 1, none⟩) (Kd.R_far (p := ⟨w.heap.size + 1, 0, none⟩) HO0'.out (fun _ hk => hk.2.1) (.slice B0 r1.length d0)) (fun _ hk => hk.2.1) (.slice B1 j d1)) (fun _ hk => hk.2.1) (.slice B2 r3.length d2)
 have f2 := Kd.R_far (p := ⟨w.heap.size + 1, 2, none⟩) (Kd.R_far (p := ⟨w.heap.size + 1, 1, none⟩) (Kd.R_far (p := ⟨w.heap.size + 1, 0, none⟩) HO2'.out (fun _ hk => hk.2.1) (.slice B0 r1.length d0)) (fun _ hk => hk.2.1) (.slice B1 j d1)) (fun _ hk => hk.2.1) (.slice B2 r3.length d2)
 have f1 := Kd.V_far (p := ⟨w.heap.size + 1, 2, none⟩) (Kd.V_far (p := ⟨w.heap.size + 1, 1, none⟩) (Kd.V_far (p := ⟨w.heap.size + 1, 0, none⟩) HV1.out (fun _ hk => hk.2.1) (.slice B0 r1.length d0)) (fun _ hk => hk.2.1) (.slice B1 j d1)) (fun _ hk => hk.2.1) (.slice B2 r3.length d2)
 have f4 := Kd.V_far (p := ⟨w.heap.size + 1, 2, none⟩) (Kd.V_far (p := ⟨w.heap.size + 1, 1, none⟩) (Kd.V_far (p := ⟨w.heap.size + 1, 0, none⟩) HV3.out (fun _ hk => hk.2.1) (.slice B0 r1.length d0)) (fun _ hk => hk.2.1) (.slice B1 j d1)) (fun _ hk => hk.2.1) (.slice B2 r3.length d2)
 have hz := HZ.out
 refine bodyPost_ret (v := .tuple #[.agg #[.slice B0 r1.length d0, .slice B1 j d1, .slice B2 r3.length d2], .slice A34 y.length c34, .int .i64 0]) (by simp at e0 e1 e2; simp [results, Try.results24, go_sem, e0, e1, e2]) rfl ⟨_, _, _, _, rfl, Kd.R_lower (Kd.R_mono f0 (fun _ hk => hk.1)) (by simp; omega), Kd.V_mono f1 (fun _ hk => hk.1), Kd.R_lower (Kd.R_mono f2 (fun _ hk => hk.1)) (by simp; omega), by rw [← HY.out]; exact Kd.V_mono f4 (fun _ hk => hk.1), ?_⟩
 exact ((HB5.out.setCell (by simp) _).setCell (by simp) _).setCell (by simp) _
def garderoberef17_Pop.f (l0_0 : List (S56)) (l0_1 : List (S56)) (l0_2 : List Int) (a1 : Int) : Option ((List (S56)) × (List (S56)) × List Int × (List (S56)) × Int) := if a1 < 0 then (some (([] : List (S56)), ([] : List (S56)), ([] : List Int), ([] : List (S56)), 2)) else (if a1 > (l0_1.length : Int) then (some (([] : List (S56)), ([] : List (S56)), ([] : List Int), ([] : List (S56)), 9)) else ((garderoberef17_Copy.f l0_0 l0_1 l0_2).bind fun bt202 => (if 0 ≤ (wrap64 ((bt202.2.1.length : Int) - a1)) then (if (wrap64 ((bt202.2.1.length : Int) - a1)) ≤ (bt202.2.1.length : Int) then ((api_Val.f (bt202.2.1.drop ((wrap64 ((bt202.2.1.length : Int) - a1)) : Int).toNat)).bind fun t216 => (some (bt202.1, (bt202.2.1.take ((wrap64 ((bt202.2.1.length : Int) - a1)) : Int).toNat), bt202.2.2, t216, 0))) else (none)) else (none))))
set_option maxHeartbeats 8000000 in
set_option maxRecDepth 100000 in
theorem garderoberef17_Pop.calls (A0_0 : Option Addr) (c0_0 : Nat) (l0_0 : List (S56)) (A0_1 : Option Addr) (c0_1 : Nat) (l0_1 : List (S56)) (A0_2 : Option Addr) (c0_2 : Nat) (l0_2 : List Int) (a1 : Int) (r1 : List (S56)) (r2 : List (S56)) (r3 : List Int) (r4 : List (S56)) (r5 : Int) (w : World) (hr0_0 : Kd.C k56 w A0_0 l0_0.length l0_0) (hc0_0 : l0_0.length ≤ c0_0) (hr0_1 : Kd.C k56 w A0_1 l0_1.length l0_1) (hc0_1 : l0_1.length ≤ c0_1) (hr0_2 : Kd.C (Kd.int .i64) w A0_2 l0_2.length l0_2) (hc0_2 : l0_2.length ≤ c0_2) (h : garderoberef17_Pop.f l0_0 l0_1 l0_2 a1 = some (r1, r2, r3, r4, r5)) :
  Calls Try.prog 24 #[.agg #[.slice A0_0 l0_0.length c0_0, .slice A0_1 l0_1.length c0_1, .slice A0_2 l0_2.length c0_2], .int .i64 a1] w fun e w' => ∃ v0_ v1_ v2_ v3_ : Value, e = .returned (.tuple #[.agg #[v0_, v1_, v2_], v3_, .int .i64 r5]) ∧ Kd.R k56 56 w' w.heap.size (fun k_ => (w.heap.size ≤ k_)) v0_ r1 ∧ Kd.V k56 56 w' w.heap.size (fun k_ => (w.heap.size ≤ k_) ∧ some k_ ≠ (v0_ : Value).ownBlock ∧ some k_ ≠ (v2_ : Value).ownBlock) v1_ r2 ∧ Kd.R (Kd.int .i64) 3 w' w.heap.size (fun k_ => (w.heap.size ≤ k_)) v2_ r3 ∧ Kd.V k56 56 w' w.heap.size (fun k_ => (w.heap.size ≤ k_) ∧ some k_ ≠ (v0_ : Value).ownBlock ∧ some k_ ≠ (v2_ : Value).ownBlock) v3_ r4 ∧ Below w.heap.size w w' := by
 have hu53 := Try.underlying53
 have HR0_0 := Aside0.mk hr0_0
 have HC0_0 := Aside0.mk hc0_0
 clear hr0_0 hc0_0
 have HR0_1 := Aside0.mk hr0_1
 have HC0_1 := Aside0.mk hc0_1
 clear hr0_1 hc0_1
 have HR0_2 := Aside0.mk hr0_2
 have HC0_2 := Aside0.mk hc0_2
 clear hr0_2 hc0_2
 have HB := Aside0.mk (Below.refl w.heap.size w)
 have H : (if a1 < 0 then (some (([] : List (S56)), ([] : List (S56)), ([] : List Int), ([] : List (S56)), 2)) else (if a1 > (l0_1.length : Int) then (some (([] : List (S56)), ([] : List (S56)), ([] : List Int), ([] : List (S56)), 9)) else ((garderoberef17_Copy.f l0_0 l0_1 l0_2).bind fun bt202 => (if 0 ≤ (wrap64 ((bt202.2.1.length : Int) - a1)) then (if (wrap64 ((bt202.2.1.length : Int) - a1)) ≤ (bt202.2.1.length : Int) then ((api_Val.f (bt202.2.1.drop ((wrap64 ((bt202.2.1.length : Int) - a1)) : Int).toNat)).bind fun t216 => (some (bt202.1, (bt202.2.1.take ((wrap64 ((bt202.2.1.length : Int) - a1)) : Int).toNat), bt202.2.2, t216, 0))) else (none)) else (none))))) = some (r1, r2, r3, r4, r5) := h
 clear h
 by_cases c3 : a1 < 0
 ·rw [if_pos c3] at H
  have c3b0 : decide (a1 < 0) = true := decide_eq_true c3
  clear c3
  simp only [Option.some.injEq, Prod.mk.injEq] at H
  obtain ⟨rfl, rfl, rfl, rfl, rfl⟩ := H
  go_enter Try.func24, Try.ntmps24
  go_wp2_with (first | ((with_reducible refine gate_dst (N := 2) rfl ?_); refine box_event ?hg (N := 2) ?hd (cs := #[.slice A0_0 l0_0.length c0_0, .slice A0_1 l0_1.length c0_1, .slice A0_2 l0_2.length c0_2]) (t := 53) ?hr ?_; (case hd => rfl); (case hg => rfl); (case hr => first | (go_simp; done) | (go_simp; rfl)); intro gb200 hg w4 hbox hb; have n0_ := Aside0.mk (below_step (qW HB.out) hb); have n1_ := Aside0.mk (hbox); have n2_ := Aside0.mk ((by rw [hg]; exact (below_size (qW HB.out)) : w.heap.size ≤ gb200)); have n3_ := Aside0.mk ((by rw [hg]; exact (below_size (qW HB.out)) : w.heap.size ≤ gb200)); clear HB; have HB := n0_; have BK200 := n1_; have GW200 := n2_; have GE200 := n3_; clear n0_ n1_ n2_ n3_; clear hb hbox hg) | ((with_reducible refine gate_dst (N := 4) rfl ?_); refine box_event ?hg (N := 4) ?hd (cs := #[.slice none 0 0, .slice none 0 0, .slice none 0 0]) (t := 53) ?hr ?_; (case hd => rfl); (case hg => rfl); (case hr => first | (go_simp; done) | (go_simp; rfl)); intro gb201 hg w5 hbox hb; have n0_ := Aside0.mk (blk_below (qb BK200.out) hb); have n1_ := Aside0.mk (below_step (qW HB.out) hb); have n2_ := Aside0.mk (hbox); have n3_ := Aside0.mk ((by rw [hg]; exact (below_size (qW HB.out)) : w.heap.size ≤ gb201)); have n4_ := Aside0.mk ((by rw [hg]; exact (below_size (qW HB.out)) : w.heap.size ≤ gb201)); have n5_ := Aside0.mk ((by rw [hg]; exact Nat.ne_of_lt (blk_lt (qb BK200.out)) : gb200 ≠ gb201)); have n6_ := Aside0.mk ((by rw [hg]; exact Nat.ne_of_gt (blk_lt (qb BK200.out)) : gb201 ≠ gb200)); clear BK200 HB; have BK200 := n0_; have HB := n1_; have BK201 := n2_; have GW201 := n3_; have GE201 := n4_; have NB200_201 := n5_; have NB201_200 := n6_; clear n0_ n1_ n2_ n3_ n4_ n5_ n6_; clear hb hbox hg; have hnb6 := NB201_200.out; have hnc6 := NB200_201.out; have hcz7_0 : w5.cell? ⟨gb201, 0, none⟩ = some (.slice none 0 0) := (blk_cell BK201.out 0).trans rfl; have hcz7_1 : w5.cell? ⟨gb201, 1, none⟩ = some (.slice none 0 0) := (blk_cell BK201.out 1).trans rfl; have hcz7_2 : w5.cell? ⟨gb201, 2, none⟩ = some (.slice none 0 0) := (blk_cell BK201.out 2).trans rfl; have hfz7_0 := blk_frozen BK201.out 0; have hfz7_1 := blk_frozen BK201.out 1; have hfz7_2 := blk_frozen BK201.out 2))
  refine bodyPost_ret (results_ctt rfl _ _ gb201 53 #[.slice none 0 0, .slice none 0 0, .slice none 0 0] (0, 0) _ rfl (by (with_reducible repeat (first | refine blk_drewN ?_ _ | refine blk_drew ?_ | refine blk_alloc ?_ _)); refine blk_put (cs := #[.slice none 0 0, .slice none 0 0, .slice none 0 0]) ?_ 2 _ rfl; (with_reducible repeat (first | refine blk_drewN ?_ _ | refine blk_drew ?_ | refine blk_alloc ?_ _)); refine blk_put (cs := #[.slice none 0 0, .slice none 0 0, .slice none 0 0]) ?_ 1 _ rfl; (with_reducible repeat (first | refine blk_drewN ?_ _ | refine blk_drew ?_ | refine blk_alloc ?_ _)); refine blk_put (cs := #[.slice none 0 0, .slice none 0 0, .slice none 0 0]) ?_ 0 _ rfl; (with_reducible repeat (first | refine blk_drewN ?_ _ | refine blk_drew ?_ | refine blk_alloc ?_ _)); exact BK201.out) Try.underlying53 rfl (by kernel_rfl)) rfl ?_
  exact ⟨_, _, _, _, by first | rfl | (simp [errW_none, errW_some] <;> rfl) | (simp [*, errW_none, errW_some] <;> rfl), by first | exact Kd.R_nil _ _ _ _ _ | exact Kd.N_nil _ _ _ _ _ | exact Kd.V_nil _ _ _ _ _ | exact Kd.Q_nil _ _ _ _ _ | exact Kd.S_nil _ _ _ _ _, Kd.V_nil _ _ _ _ _, by first | exact Kd.R_nil _ _ _ _ _ | exact Kd.N_nil _ _ _ _ _ | exact Kd.V_nil _ _ _ _ _ | exact Kd.Q_nil _ _ _ _ _ | exact Kd.S_nil _ _ _ _ _, Kd.V_nil _ _ _ _ _, by repeat (first | (with_reducible first | exact HB.out | apply below_alloc | apply pw_below_drewN | apply below_drew1 | refine below_set ?_ GE200.out | refine below_set ?_ GE201.out) | exact HB.out)⟩
 ·rw [if_neg c3] at H
  have c3b0 : decide (a1 < 0) = false := decide_eq_false c3
  clear c3
  by_cases c8 : a1 > (l0_1.length : Int)
  ·rw [if_pos c8] at H
   have c8b0 : decide ((l0_1.length : Int) < a1) = true := decide_eq_true c8
   clear c8
   simp only [Option.some.injEq, Prod.mk.injEq] at H
   obtain ⟨rfl, rfl, rfl, rfl, rfl⟩ := H
   go_enter Try.func24, Try.ntmps24
   go_wp2_with (first | ((with_reducible refine gate_dst (N := 2) rfl ?_); refine box_event ?hg (N := 2) ?hd (cs := #[.slice A0_0 l0_0.length c0_0, .slice A0_1 l0_1.length c0_1, .slice A0_2 l0_2.length c0_2]) (t := 53) ?hr ?_; (case hd => rfl); (case hg => rfl); (case hr => first | (go_simp; done) | (go_simp; rfl)); intro gb200 hg w9 hbox hb; have n0_ := Aside0.mk (below_step (qW HB.out) hb); have n1_ := Aside0.mk (hbox); have n2_ := Aside0.mk ((by rw [hg]; exact (below_size (qW HB.out)) : w.heap.size ≤ gb200)); have n3_ := Aside0.mk ((by rw [hg]; exact (below_size (qW HB.out)) : w.heap.size ≤ gb200)); clear HB; have HB := n0_; have BK200 := n1_; have GW200 := n2_; have GE200 := n3_; clear n0_ n1_ n2_ n3_; clear hb hbox hg) | ((with_reducible refine gate_dst (N := 4) rfl ?_); refine box_event ?hg (N := 4) ?hd (cs := #[.slice none 0 0, .slice none 0 0, .slice none 0 0]) (t := 53) ?hr ?_; (case hd => rfl); (case hg => rfl); (case hr => first | (go_simp; done) | (go_simp; rfl)); intro gb201 hg w10 hbox hb; have n0_ := Aside0.mk (blk_below (qb BK200.out) hb); have n1_ := Aside0.mk (below_step (qW HB.out) hb); have n2_ := Aside0.mk (hbox); have n3_ := Aside0.mk ((by rw [hg]; exact (below_size (qW HB.out)) : w.heap.size ≤ gb201)); have n4_ := Aside0.mk ((by rw [hg]; exact (below_size (qW HB.out)) : w.heap.size ≤ gb201)); have n5_ := Aside0.mk ((by rw [hg]; exact Nat.ne_of_lt (blk_lt (qb BK200.out)) : gb200 ≠ gb201)); have n6_ := Aside0.mk ((by rw [hg]; exact Nat.ne_of_gt (blk_lt (qb BK200.out)) : gb201 ≠ gb200)); clear BK200 HB; have BK200 := n0_; have HB := n1_; have BK201 := n2_; have GW201 := n3_; have GE201 := n4_; have NB200_201 := n5_; have NB201_200 := n6_; clear n0_ n1_ n2_ n3_ n4_ n5_ n6_; clear hb hbox hg; have hnb11 := NB200_201.out; have hnc11 := NB201_200.out; have hcz12_0 : w10.cell? ⟨gb200, 0, none⟩ = some (.slice A0_0 l0_0.length c0_0) := (blk_cell BK200.out 0).trans rfl; have hcz12_1 : w10.cell? ⟨gb200, 1, none⟩ = some (.slice A0_1 l0_1.length c0_1) := (blk_cell BK200.out 1).trans rfl; have hcz12_2 : w10.cell? ⟨gb200, 2, none⟩ = some (.slice A0_2 l0_2.length c0_2) := (blk_cell BK200.out 2).trans rfl; have hfz12_0 := blk_frozen BK200.out 0; have hfz12_1 := blk_frozen BK200.out 1; have hfz12_2 := blk_frozen BK200.out 2; have hcz13_0 : w10.cell? ⟨gb201, 0, none⟩ = some (.slice none 0 0) := (blk_cell BK201.out 0).trans rfl; have hcz13_1 : w10.cell? ⟨gb201, 1, none⟩ = some (.slice none 0 0) := (blk_cell BK201.out 1).trans rfl; have hcz13_2 : w10.cell? ⟨gb201, 2, none⟩ = some (.slice none 0 0) := (blk_cell BK201.out 2).trans rfl; have hfz13_0 := blk_frozen BK201.out 0; have hfz13_1 := blk_frozen BK201.out 1; have hfz13_2 := blk_frozen BK201.out 2))
   refine bodyPost_ret (results_ctt rfl _ _ gb201 53 #[.slice none 0 0, .slice none 0 0, .slice none 0 0] (0, 0) _ rfl (by (with_reducible repeat (first | refine blk_drewN ?_ _ | refine blk_drew ?_ | refine blk_alloc ?_ _)); refine blk_put (cs := #[.slice none 0 0, .slice none 0 0, .slice none 0 0]) ?_ 2 _ rfl; (with_reducible repeat (first | refine blk_drewN ?_ _ | refine blk_drew ?_ | refine blk_alloc ?_ _)); refine blk_put (cs := #[.slice none 0 0, .slice none 0 0, .slice none 0 0]) ?_ 1 _ rfl; (with_reducible repeat (first | refine blk_drewN ?_ _ | refine blk_drew ?_ | refine blk_alloc ?_ _)); refine blk_put (cs := #[.slice none 0 0, .slice none 0 0, .slice none 0 0]) ?_ 0 _ rfl; (with_reducible repeat (first | refine blk_drewN ?_ _ | refine blk_drew ?_ | refine blk_alloc ?_ _)); exact BK201.out) Try.underlying53 rfl (by kernel_rfl)) rfl ?_
   exact ⟨_, _, _, _, by first | rfl | (simp [errW_none, errW_some] <;> rfl) | (simp [*, errW_none, errW_some] <;> rfl), by first | exact Kd.R_nil _ _ _ _ _ | exact Kd.N_nil _ _ _ _ _ | exact Kd.V_nil _ _ _ _ _ | exact Kd.Q_nil _ _ _ _ _ | exact Kd.S_nil _ _ _ _ _, Kd.V_nil _ _ _ _ _, by first | exact Kd.R_nil _ _ _ _ _ | exact Kd.N_nil _ _ _ _ _ | exact Kd.V_nil _ _ _ _ _ | exact Kd.Q_nil _ _ _ _ _ | exact Kd.S_nil _ _ _ _ _, Kd.V_nil _ _ _ _ _, by repeat (first | (with_reducible first | exact HB.out | apply below_alloc | apply pw_below_drewN | apply below_drew1 | refine below_set ?_ GE200.out | refine below_set ?_ GE201.out) | exact HB.out)⟩
  ·rw [if_neg c8] at H
   have c8b0 : decide ((l0_1.length : Int) < a1) = false := decide_eq_false c8
   clear c8
   replace H := Option.bind_eq_some_iff.mp H
   obtain ⟨⟨t202, t205, t208⟩, A140, H⟩ := H
   replace H : (if 0 ≤ (wrap64 ((t205.length : Int) - a1)) then (if (wrap64 ((t205.length : Int) - a1)) ≤ (t205.length : Int) then ((api_Val.f (t205.drop ((wrap64 ((t205.length : Int) - a1)) : Int).toNat)).bind fun t216 => (some (t202, (t205.take ((wrap64 ((t205.length : Int) - a1)) : Int).toNat), t208, t216, 0))) else (none)) else (none)) = some (r1, r2, r3, r4, r5) := H
   have A14 := Aside0.mk A140
   clear A140
   obtain ⟨ji15, hji15⟩ : ∃ j_ : Int, (wrap64 ((t205.length : Int) - a1)) = j_ := ⟨_, rfl⟩
   replace H : (if 0 ≤ (ji15) then (if (ji15) ≤ (t205.length : Int) then ((api_Val.f (t205.drop ((ji15) : Int).toNat)).bind fun t216 => (some (t202, (t205.take ((ji15) : Int).toNat), t208, t216, 0))) else (none)) else (none)) = some (r1, r2, r3, r4, r5) := by first | (rw [hji15] at H; exact H) | (simp only [hji15] at H ⊢; exact H)
   (try rw [hji15] at A14)
   have hji15w : (IntKind.i64.wrap ((t205.length : Int) - a1)) = ji15 := (i64_w _).trans hji15
   by_cases c16 : 0 ≤ (ji15)
   ·rw [if_pos c16] at H
    have c16b0 := eq_true c16
    have c16b1 : decide (0 ≤ (ji15)) = true := decide_eq_true c16
    clear c16
    by_cases c17 : (ji15) ≤ (t205.length : Int)
    ·rw [if_pos c17] at H
     have c17b0 := eq_true c17
     have c17b1 : decide ((ji15) ≤ (t205.length : Int)) = true := decide_eq_true c17
     clear c17
     obtain ⟨y212, hy212⟩ : ∃ y_ : List (S56), y_ = (t205.drop ((ji15) : Int).toNat) := ⟨_, rfl⟩
     replace H : ((api_Val.f y212).bind fun t216 => (some (t202, (t205.take ((ji15) : Int).toNat), t208, t216, 0))) = some (r1, r2, r3, r4, r5) := by first | (rw [hy212]; with_reducible exact H) | (have H2_ := (Option.bind_some _ _).symm.trans H; rw [hy212]; with_reducible exact H2_) | (have H2_ := (Option.bind_some _ _).symm.trans H; with_reducible exact H2_) | with_reducible exact H | (rw [hy212]; exact H) | exact H
     have Ny212 := Aside0.mk hy212
     clear hy212
     replace H := Option.bind_eq_some_iff.mp H
     obtain ⟨t216, A180, H⟩ := H
     replace H : (some (t202, (t205.take ((ji15) : Int).toNat), t208, t216, 0)) = some (r1, r2, r3, r4, r5) := H
     have A18 := Aside0.mk A180
     clear A180
     have c19b0 := eq_true (of_decide_eq_true (by first | (with_reducible assumption) | assumption) : (ji15) ≤ (t205.length : Int))
     obtain ⟨y219, hy219⟩ : ∃ y_ : List (S56), y_ = (t205.take ((ji15) : Int).toNat) := ⟨_, rfl⟩
     replace H : (some (t202, y219, t208, t216, 0)) = some (r1, r2, r3, r4, r5) := by first | (rw [hy219]; with_reducible exact H) | (have H2_ := (Option.bind_some _ _).symm.trans H; rw [hy219]; with_reducible exact H2_) | (have H2_ := (Option.bind_some _ _).symm.trans H; with_reducible exact H2_) | with_reducible exact H | (rw [hy219]; exact H) | exact H
     have Ny219 := Aside0.mk hy219
     clear hy219
     simp only [Option.some.injEq, Prod.mk.injEq] at H
     obtain ⟨rfl, rfl, rfl, rfl, rfl⟩ := H
     have j0 : 0 ≤ ji15 := of_eq_true c16b0
     have j1 := of_eq_true c17b0
     have hjn : ((ji15.toNat : Nat) : Int) = ji15 := Int.toNat_of_nonneg j0
     have e4 : t216 = y212 := by
      have h4 := A18.out
      unfold api_Val.f at h4
      split at h4
      ·simpa using h4.symm
      ·exact absurd h4 (by simp)
     rw [e4, Ny219.out, Ny212.out]
     exact popr_ok _ _ _ _ _ _ _ _ _ _ _ _ _ _ _ HR0_0.out HC0_0.out HR0_1.out HC0_1.out HR0_2.out HC0_2.out c3b0 c8b0 A14.out (by rw [hjn]; exact hji15) (by omega)
    ·rw [if_neg c17] at H
     exact absurd H (by simp)
   ·rw [if_neg c16] at H
    exact absurd H (by simp)


/-! ### shape_Set: function 27 -/
def shape_Set.f (l0_0 : List (S56)) (l0_1 : List (S56)) (l0_2 : List Int) (a1 : Int) (a2_0 : Int) (a2_1 : Int) (a2_2 : Int) (a2_3 : Int) : Option ((List (S56)) × (List (S56)) × List Int × Int) := if a1 < 0 then (some (([] : List (S56)), ([] : List (S56)), ([] : List Int), 9)) else (if a1 ≥ (l0_0.length : Int) then (some (([] : List (S56)), ([] : List (S56)), ([] : List Int), 9)) else ((shape_copied.f l0_0 l0_1 l0_2).bind fun bt225 => (if 0 ≤ a1 then (if a1 < (bt225.1.length : Int) then (some ((bt225.1.set (a1 : Int).toNat (⟨a2_0, (⟨a2_1, a2_2⟩ : S32), a2_3⟩ : S56)), bt225.2.1, bt225.2.2, 0)) else (none)) else (none))))
set_option maxHeartbeats 8000000 in
set_option maxRecDepth 100000 in
theorem shape_Set.calls (A0_0 : Option Addr) (c0_0 : Nat) (l0_0 : List (S56)) (A0_1 : Option Addr) (c0_1 : Nat) (l0_1 : List (S56)) (A0_2 : Option Addr) (c0_2 : Nat) (l0_2 : List Int) (a1 : Int) (a2_0 : Int) (a2_1 : Int) (a2_2 : Int) (a2_3 : Int) (r1 : List (S56)) (r2 : List (S56)) (r3 : List Int) (r4 : Int) (w : World) (hr0_0 : Kd.C k56 w A0_0 l0_0.length l0_0) (hc0_0 : l0_0.length ≤ c0_0) (hr0_1 : Kd.C k56 w A0_1 l0_1.length l0_1) (hc0_1 : l0_1.length ≤ c0_1) (hr0_2 : Kd.C (Kd.int .i64) w A0_2 l0_2.length l0_2) (hc0_2 : l0_2.length ≤ c0_2) (h : shape_Set.f l0_0 l0_1 l0_2 a1 a2_0 a2_1 a2_2 a2_3 = some (r1, r2, r3, r4)) :
  Calls Try.prog 27 #[.agg #[.slice A0_0 l0_0.length c0_0, .slice A0_1 l0_1.length c0_1, .slice A0_2 l0_2.length c0_2], .int .i64 a1, .agg #[.int .u8 a2_0, .int .u8 a2_1, .int .u16 a2_2, .int .i64 a2_3]] w fun e w' => ∃ v0_ v1_ v2_ : Value, e = .returned (.tuple #[.agg #[v0_, v1_, v2_], .int .i64 r4]) ∧ Kd.R k56 56 w' w.heap.size (fun k_ => some k_ ≠ (v1_ : Value).ownBlock) v0_ r1 ∧ Kd.R k56 56 w' w.heap.size (fun k_ => some k_ ≠ (v0_ : Value).ownBlock) v1_ r2 ∧ Kd.R (Kd.int .i64) 3 w' w.heap.size (fun _ => True) v2_ r3 ∧ Below w.heap.size w w' := by
 have hu53 := Try.underlying53
 have hu56 := Try.underlying56
 have HR0_0 := Aside0.mk hr0_0
 have HC0_0 := Aside0.mk hc0_0
 clear hr0_0 hc0_0
 have HR0_1 := Aside0.mk hr0_1
 have HC0_1 := Aside0.mk hc0_1
 clear hr0_1 hc0_1
 have HR0_2 := Aside0.mk hr0_2
 have HC0_2 := Aside0.mk hc0_2
 clear hr0_2 hc0_2
 have HB := Aside0.mk (Below.refl w.heap.size w)
 have H : (if a1 < 0 then (some (([] : List (S56)), ([] : List (S56)), ([] : List Int), 9)) else (if a1 ≥ (l0_0.length : Int) then (some (([] : List (S56)), ([] : List (S56)), ([] : List Int), 9)) else ((shape_copied.f l0_0 l0_1 l0_2).bind fun bt225 => (if 0 ≤ a1 then (if a1 < (bt225.1.length : Int) then (some ((bt225.1.set (a1 : Int).toNat (⟨a2_0, (⟨a2_1, a2_2⟩ : S32), a2_3⟩ : S56)), bt225.2.1, bt225.2.2, 0)) else (none)) else (none))))) = some (r1, r2, r3, r4) := h
 clear h
 by_cases c4 : a1 < 0
 ·rw [if_pos c4] at H
  have c4b0 : decide (a1 < 0) = true := decide_eq_true c4
  clear c4
  simp only [Option.some.injEq, Prod.mk.injEq] at H
  obtain ⟨rfl, rfl, rfl, rfl⟩ := H
  go_enter Try.func27, Try.ntmps27
  go_wp2_with (first | ((with_reducible refine gate_dst (N := 3) rfl ?_); (try (refine gate_guard (by rfl) ?_; dsimp only)); refine box_event ?hg (N := 3) ?hd (cs := #[.slice A0_0 l0_0.length c0_0, .slice A0_1 l0_1.length c0_1, .slice A0_2 l0_2.length c0_2]) (t := 53) ?hr ?_; (case hd => rfl); (case hg => rfl); (case hr => first | (go_simp; done) | (go_simp; rfl)); intro gb222 hg w5 hbox hb; have n0_ := Aside0.mk (below_step (qW HB.out) hb); have n1_ := Aside0.mk (hbox); have n2_ := Aside0.mk ((by rw [hg]; exact (below_size (qW HB.out)) : w.heap.size ≤ gb222)); have n3_ := Aside0.mk ((by rw [hg]; exact (below_size (qW HB.out)) : w.heap.size ≤ gb222)); clear HB; have HB := n0_; have BK222 := n1_; have GW222 := n2_; have GE222 := n3_; clear n0_ n1_ n2_ n3_; clear hb hbox hg) | ((with_reducible refine gate_dst (N := 5) rfl ?_); (try (refine gate_guard (by rfl) ?_; dsimp only)); refine box_event ?hg (N := 5) ?hd (cs := #[.int .u8 a2_0, .int .u8 a2_1, .int .u16 a2_2, .int .i64 a2_3]) (t := 56) ?hr ?_; (case hd => rfl); (case hg => rfl); (case hr => first | (go_simp; done) | (go_simp; rfl)); intro gb223 hg w6 hbox hb; have n0_ := Aside0.mk (blk_below (qb BK222.out) hb); have n1_ := Aside0.mk (below_step (qW HB.out) hb); have n2_ := Aside0.mk (hbox); have n3_ := Aside0.mk ((by rw [hg]; exact (below_size (qW HB.out)) : w.heap.size ≤ gb223)); have n4_ := Aside0.mk ((by rw [hg]; exact (below_size (qW HB.out)) : w.heap.size ≤ gb223)); have n5_ := Aside0.mk ((by rw [hg]; exact Nat.ne_of_lt (blk_lt (qb BK222.out)) : gb222 ≠ gb223)); have n6_ := Aside0.mk ((by rw [hg]; exact Nat.ne_of_gt (blk_lt (qb BK222.out)) : gb223 ≠ gb222)); clear BK222 HB; have BK222 := n0_; have HB := n1_; have BK223 := n2_; have GW223 := n3_; have GE223 := n4_; have NB222_223 := n5_; have NB223_222 := n6_; clear n0_ n1_ n2_ n3_ n4_ n5_ n6_; clear hb hbox hg) | ((with_reducible refine gate_dst (N := 6) rfl ?_); (try (refine gate_guard (by rfl) ?_; dsimp only)); refine box_event ?hg (N := 6) ?hd (cs := #[.slice none 0 0, .slice none 0 0, .slice none 0 0]) (t := 53) ?hr ?_; (case hd => rfl); (case hg => rfl); (case hr => first | (go_simp; done) | (go_simp; rfl)); intro gb224 hg w7 hbox hb; have n0_ := Aside0.mk (blk_below (qb BK222.out) hb); have n1_ := Aside0.mk (blk_below (qb BK223.out) hb); have n2_ := Aside0.mk (below_step (qW HB.out) hb); have n3_ := Aside0.mk (hbox); have n4_ := Aside0.mk ((by rw [hg]; exact (below_size (qW HB.out)) : w.heap.size ≤ gb224)); have n5_ := Aside0.mk ((by rw [hg]; exact (below_size (qW HB.out)) : w.heap.size ≤ gb224)); have n6_ := Aside0.mk ((by rw [hg]; exact Nat.ne_of_lt (blk_lt (qb BK222.out)) : gb222 ≠ gb224)); have n7_ := Aside0.mk ((by rw [hg]; exact Nat.ne_of_gt (blk_lt (qb BK222.out)) : gb224 ≠ gb222)); have n8_ := Aside0.mk ((by rw [hg]; exact Nat.ne_of_lt (blk_lt (qb BK223.out)) : gb223 ≠ gb224)); have n9_ := Aside0.mk ((by rw [hg]; exact Nat.ne_of_gt (blk_lt (qb BK223.out)) : gb224 ≠ gb223)); clear BK222 BK223 HB; have BK222 := n0_; have BK223 := n1_; have HB := n2_; have BK224 := n3_; have GW224 := n4_; have GE224 := n5_; have NB222_224 := n6_; have NB224_222 := n7_; have NB223_224 := n8_; have NB224_223 := n9_; clear n0_ n1_ n2_ n3_ n4_ n5_ n6_ n7_ n8_ n9_; clear hb hbox hg; have hnb8 := NB224_222.out; have hnc8 := NB222_224.out; have hnb9 := NB224_223.out; have hnc9 := NB223_224.out; have hcz10_0 : w7.cell? ⟨gb224, 0, none⟩ = some (.slice none 0 0) := (blk_cell BK224.out 0).trans rfl; have hcz10_1 : w7.cell? ⟨gb224, 1, none⟩ = some (.slice none 0 0) := (blk_cell BK224.out 1).trans rfl; have hcz10_2 : w7.cell? ⟨gb224, 2, none⟩ = some (.slice none 0 0) := (blk_cell BK224.out 2).trans rfl; have hfz10_0 := blk_frozen BK224.out 0; have hfz10_1 := blk_frozen BK224.out 1; have hfz10_2 := blk_frozen BK224.out 2))
  refine bodyPost_ret (results_ct rfl _ _ gb224 53 #[.slice none 0 0, .slice none 0 0, .slice none 0 0] (0, 0) _ rfl (by (with_reducible repeat (first | refine blk_drewN ?_ _ | refine blk_drew ?_ | refine blk_alloc ?_ _)); refine blk_put (cs := #[.slice none 0 0, .slice none 0 0, .slice none 0 0]) ?_ 2 _ rfl; (with_reducible repeat (first | refine blk_drewN ?_ _ | refine blk_drew ?_ | refine blk_alloc ?_ _)); refine blk_put (cs := #[.slice none 0 0, .slice none 0 0, .slice none 0 0]) ?_ 1 _ rfl; (with_reducible repeat (first | refine blk_drewN ?_ _ | refine blk_drew ?_ | refine blk_alloc ?_ _)); refine blk_put (cs := #[.slice none 0 0, .slice none 0 0, .slice none 0 0]) ?_ 0 _ rfl; (with_reducible repeat (first | refine blk_drewN ?_ _ | refine blk_drew ?_ | refine blk_alloc ?_ _)); exact BK224.out) Try.underlying53 rfl (by kernel_rfl)) rfl ?_
  exact ⟨_, _, _, by first | rfl | (simp [errW_none, errW_some] <;> rfl) | (simp [*, errW_none, errW_some] <;> rfl), by first | exact Kd.R_nil _ _ _ _ _ | exact Kd.N_nil _ _ _ _ _ | exact Kd.V_nil _ _ _ _ _ | exact Kd.Q_nil _ _ _ _ _ | exact Kd.S_nil _ _ _ _ _, by first | exact Kd.R_nil _ _ _ _ _ | exact Kd.N_nil _ _ _ _ _ | exact Kd.V_nil _ _ _ _ _ | exact Kd.Q_nil _ _ _ _ _ | exact Kd.S_nil _ _ _ _ _, by first | exact Kd.R_nil _ _ _ _ _ | exact Kd.N_nil _ _ _ _ _ | exact Kd.V_nil _ _ _ _ _ | exact Kd.Q_nil _ _ _ _ _ | exact Kd.S_nil _ _ _ _ _, by repeat (first | (with_reducible first | exact HB.out | apply below_alloc | apply pw_below_drewN | apply below_drew1 | refine below_set ?_ GE222.out | refine below_set ?_ GE223.out | refine below_set ?_ GE224.out) | exact HB.out)⟩
 ·rw [if_neg c4] at H
  have c4b0 : decide (a1 < 0) = false := decide_eq_false c4
  clear c4
  by_cases c11 : a1 ≥ (l0_0.length : Int)
  ·rw [if_pos c11] at H
   have c11b0 : decide ((l0_0.length : Int) ≤ a1) = true := decide_eq_true c11
   clear c11
   simp only [Option.some.injEq, Prod.mk.injEq] at H
   obtain ⟨rfl, rfl, rfl, rfl⟩ := H
   go_enter Try.func27, Try.ntmps27
   go_wp2_with (first | ((with_reducible refine gate_dst (N := 3) rfl ?_); (try (refine gate_guard (by rfl) ?_; dsimp only)); refine box_event ?hg (N := 3) ?hd (cs := #[.slice A0_0 l0_0.length c0_0, .slice A0_1 l0_1.length c0_1, .slice A0_2 l0_2.length c0_2]) (t := 53) ?hr ?_; (case hd => rfl); (case hg => rfl); (case hr => first | (go_simp; done) | (go_simp; rfl)); intro gb222 hg w12 hbox hb; have n0_ := Aside0.mk (below_step (qW HB.out) hb); have n1_ := Aside0.mk (hbox); have n2_ := Aside0.mk ((by rw [hg]; exact (below_size (qW HB.out)) : w.heap.size ≤ gb222)); have n3_ := Aside0.mk ((by rw [hg]; exact (below_size (qW HB.out)) : w.heap.size ≤ gb222)); clear HB; have HB := n0_; have BK222 := n1_; have GW222 := n2_; have GE222 := n3_; clear n0_ n1_ n2_ n3_; clear hb hbox hg) | ((with_reducible refine gate_dst (N := 5) rfl ?_); (try (refine gate_guard (by rfl) ?_; dsimp only)); refine box_event ?hg (N := 5) ?hd (cs := #[.int .u8 a2_0, .int .u8 a2_1, .int .u16 a2_2, .int .i64 a2_3]) (t := 56) ?hr ?_; (case hd => rfl); (case hg => rfl); (case hr => first | (go_simp; done) | (go_simp; rfl)); intro gb223 hg w13 hbox hb; have n0_ := Aside0.mk (blk_below (qb BK222.out) hb); have n1_ := Aside0.mk (below_step (qW HB.out) hb); have n2_ := Aside0.mk (hbox); have n3_ := Aside0.mk ((by rw [hg]; exact (below_size (qW HB.out)) : w.heap.size ≤ gb223)); have n4_ := Aside0.mk ((by rw [hg]; exact (below_size (qW HB.out)) : w.heap.size ≤ gb223)); have n5_ := Aside0.mk ((by rw [hg]; exact Nat.ne_of_lt (blk_lt (qb BK222.out)) : gb222 ≠ gb223)); have n6_ := Aside0.mk ((by rw [hg]; exact Nat.ne_of_gt (blk_lt (qb BK222.out)) : gb223 ≠ gb222)); clear BK222 HB; have BK222 := n0_; have HB := n1_; have BK223 := n2_; have GW223 := n3_; have GE223 := n4_; have NB222_223 := n5_; have NB223_222 := n6_; clear n0_ n1_ n2_ n3_ n4_ n5_ n6_; clear hb hbox hg) | ((with_reducible refine gate_dst (N := 6) rfl ?_); (try (refine gate_guard (by rfl) ?_; dsimp only)); refine box_event ?hg (N := 6) ?hd (cs := #[.slice none 0 0, .slice none 0 0, .slice none 0 0]) (t := 53) ?hr ?_; (case hd => rfl); (case hg => rfl); (case hr => first | (go_simp; done) | (go_simp; rfl)); intro gb224 hg w14 hbox hb; have n0_ := Aside0.mk (blk_below (qb BK222.out) hb); have n1_ := Aside0.mk (blk_below (qb BK223.out) hb); have n2_ := Aside0.mk (below_step (qW HB.out) hb); have n3_ := Aside0.mk (hbox); have n4_ := Aside0.mk ((by rw [hg]; exact (below_size (qW HB.out)) : w.heap.size ≤ gb224)); have n5_ := Aside0.mk ((by rw [hg]; exact (below_size (qW HB.out)) : w.heap.size ≤ gb224)); have n6_ := Aside0.mk ((by rw [hg]; exact Nat.ne_of_lt (blk_lt (qb BK222.out)) : gb222 ≠ gb224)); have n7_ := Aside0.mk ((by rw [hg]; exact Nat.ne_of_gt (blk_lt (qb BK222.out)) : gb224 ≠ gb222)); have n8_ := Aside0.mk ((by rw [hg]; exact Nat.ne_of_lt (blk_lt (qb BK223.out)) : gb223 ≠ gb224)); have n9_ := Aside0.mk ((by rw [hg]; exact Nat.ne_of_gt (blk_lt (qb BK223.out)) : gb224 ≠ gb223)); clear BK222 BK223 HB; have BK222 := n0_; have BK223 := n1_; have HB := n2_; have BK224 := n3_; have GW224 := n4_; have GE224 := n5_; have NB222_224 := n6_; have NB224_222 := n7_; have NB223_224 := n8_; have NB224_223 := n9_; clear n0_ n1_ n2_ n3_ n4_ n5_ n6_ n7_ n8_ n9_; clear hb hbox hg; have hnb15 := NB222_223.out; have hnc15 := NB223_222.out; have hnb16 := NB222_224.out; have hnc16 := NB224_222.out; have hcz17_0 : w14.cell? ⟨gb222, 0, none⟩ = some (.slice A0_0 l0_0.length c0_0) := (blk_cell BK222.out 0).trans rfl; have hcz17_1 : w14.cell? ⟨gb222, 1, none⟩ = some (.slice A0_1 l0_1.length c0_1) := (blk_cell BK222.out 1).trans rfl; have hcz17_2 : w14.cell? ⟨gb222, 2, none⟩ = some (.slice A0_2 l0_2.length c0_2) := (blk_cell BK222.out 2).trans rfl; have hfz17_0 := blk_frozen BK222.out 0; have hfz17_1 := blk_frozen BK222.out 1; have hfz17_2 := blk_frozen BK222.out 2; have hnb18 := NB224_223.out; have hnc18 := NB223_224.out; have hcz19_0 : w14.cell? ⟨gb224, 0, none⟩ = some (.slice none 0 0) := (blk_cell BK224.out 0).trans rfl; have hcz19_1 : w14.cell? ⟨gb224, 1, none⟩ = some (.slice none 0 0) := (blk_cell BK224.out 1).trans rfl; have hcz19_2 : w14.cell? ⟨gb224, 2, none⟩ = some (.slice none 0 0) := (blk_cell BK224.out 2).trans rfl; have hfz19_0 := blk_frozen BK224.out 0; have hfz19_1 := blk_frozen BK224.out 1; have hfz19_2 := blk_frozen BK224.out 2))
   refine bodyPost_ret (results_ct rfl _ _ gb224 53 #[.slice none 0 0, .slice none 0 0, .slice none 0 0] (0, 0) _ rfl (by (with_reducible repeat (first | refine blk_drewN ?_ _ | refine blk_drew ?_ | refine blk_alloc ?_ _)); refine blk_put (cs := #[.slice none 0 0, .slice none 0 0, .slice none 0 0]) ?_ 2 _ rfl; (with_reducible repeat (first | refine blk_drewN ?_ _ | refine blk_drew ?_ | refine blk_alloc ?_ _)); refine blk_put (cs := #[.slice none 0 0, .slice none 0 0, .slice none 0 0]) ?_ 1 _ rfl; (with_reducible repeat (first | refine blk_drewN ?_ _ | refine blk_drew ?_ | refine blk_alloc ?_ _)); refine blk_put (cs := #[.slice none 0 0, .slice none 0 0, .slice none 0 0]) ?_ 0 _ rfl; (with_reducible repeat (first | refine blk_drewN ?_ _ | refine blk_drew ?_ | refine blk_alloc ?_ _)); exact BK224.out) Try.underlying53 rfl (by kernel_rfl)) rfl ?_
   exact ⟨_, _, _, by first | rfl | (simp [errW_none, errW_some] <;> rfl) | (simp [*, errW_none, errW_some] <;> rfl), by first | exact Kd.R_nil _ _ _ _ _ | exact Kd.N_nil _ _ _ _ _ | exact Kd.V_nil _ _ _ _ _ | exact Kd.Q_nil _ _ _ _ _ | exact Kd.S_nil _ _ _ _ _, by first | exact Kd.R_nil _ _ _ _ _ | exact Kd.N_nil _ _ _ _ _ | exact Kd.V_nil _ _ _ _ _ | exact Kd.Q_nil _ _ _ _ _ | exact Kd.S_nil _ _ _ _ _, by first | exact Kd.R_nil _ _ _ _ _ | exact Kd.N_nil _ _ _ _ _ | exact Kd.V_nil _ _ _ _ _ | exact Kd.Q_nil _ _ _ _ _ | exact Kd.S_nil _ _ _ _ _, by repeat (first | (with_reducible first | exact HB.out | apply below_alloc | apply pw_below_drewN | apply below_drew1 | refine below_set ?_ GE222.out | refine below_set ?_ GE223.out | refine below_set ?_ GE224.out) | exact HB.out)⟩
  ·rw [if_neg c11] at H
   have c11b0 : decide ((l0_0.length : Int) ≤ a1) = false := decide_eq_false c11
   clear c11
   replace H := Option.bind_eq_some_iff.mp H
   obtain ⟨⟨t225, t228, t231⟩, A200, H⟩ := H
   replace H : (if 0 ≤ a1 then (if a1 < (t225.length : Int) then (some ((t225.set (a1 : Int).toNat (⟨a2_0, (⟨a2_1, a2_2⟩ : S32), a2_3⟩ : S56)), t228, t231, 0)) else (none)) else (none)) = some (r1, r2, r3, r4) := H
   have A20 := Aside0.mk A200
   clear A200
   by_cases c21 : 0 ≤ a1
   ·rw [if_pos c21] at H
    have c21b0 : decide (0 ≤ a1) = true := decide_eq_true c21
    clear c21
    by_cases c22 : a1 < (t225.length : Int)
    ·rw [if_pos c22] at H
     have c22b0 : decide (a1 < (t225.length : Int)) = true := decide_eq_true c22
     clear c22
     obtain ⟨y235, hy235⟩ : ∃ y_ : List (S56), y_ = (t225.set (a1 : Int).toNat (⟨a2_0, (⟨a2_1, a2_2⟩ : S32), a2_3⟩ : S56)) := ⟨_, rfl⟩
     replace H : (some (y235, t228, t231, 0)) = some (r1, r2, r3, r4) := by first | (rw [hy235]; with_reducible exact H) | (have H2_ := (Option.bind_some _ _).symm.trans H; rw [hy235]; with_reducible exact H2_) | (have H2_ := (Option.bind_some _ _).symm.trans H; with_reducible exact H2_) | with_reducible exact H | (rw [hy235]; exact H) | exact H
     have Ny235 := Aside0.mk hy235
     clear hy235
     simp only [Option.some.injEq, Prod.mk.injEq] at H
     obtain ⟨rfl, rfl, rfl, rfl⟩ := H
     go_enter Try.func27, Try.ntmps27
     go_wp2_with (first | ((with_reducible refine gate_dst (N := 3) rfl ?_); (try (refine gate_guard (by rfl) ?_; dsimp only)); refine box_event ?hg (N := 3) ?hd (cs := #[.slice A0_0 l0_0.length c0_0, .slice A0_1 l0_1.length c0_1, .slice A0_2 l0_2.length c0_2]) (t := 53) ?hr ?_; (case hd => rfl); (case hg => rfl); (case hr => first | (go_simp; done) | (go_simp; rfl)); intro gb222 hg w24 hbox hb; have n0_ := Aside0.mk (below_step (qW HB.out) hb); have n1_ := Aside0.mk (hbox); have n2_ := Aside0.mk ((by rw [hg]; exact (below_size (qW HB.out)) : w.heap.size ≤ gb222)); have n3_ := Aside0.mk ((by rw [hg]; exact (below_size (qW HB.out)) : w.heap.size ≤ gb222)); clear HB; have HB := n0_; have BK222 := n1_; have GW222 := n2_; have GE222 := n3_; clear n0_ n1_ n2_ n3_; clear hb hbox hg) | ((with_reducible refine gate_dst (N := 5) rfl ?_); (try (refine gate_guard (by rfl) ?_; dsimp only)); refine box_event ?hg (N := 5) ?hd (cs := #[.int .u8 a2_0, .int .u8 a2_1, .int .u16 a2_2, .int .i64 a2_3]) (t := 56) ?hr ?_; (case hd => rfl); (case hg => rfl); (case hr => first | (go_simp; done) | (go_simp; rfl)); intro gb223 hg w25 hbox hb; have n0_ := Aside0.mk (blk_below (qb BK222.out) hb); have n1_ := Aside0.mk (below_step (qW HB.out) hb); have n2_ := Aside0.mk (hbox); have n3_ := Aside0.mk ((by rw [hg]; exact (below_size (qW HB.out)) : w.heap.size ≤ gb223)); have n4_ := Aside0.mk ((by rw [hg]; exact (below_size (qW HB.out)) : w.heap.size ≤ gb223)); have n5_ := Aside0.mk ((by rw [hg]; exact Nat.ne_of_lt (blk_lt (qb BK222.out)) : gb222 ≠ gb223)); have n6_ := Aside0.mk ((by rw [hg]; exact Nat.ne_of_gt (blk_lt (qb BK222.out)) : gb223 ≠ gb222)); clear BK222 HB; have BK222 := n0_; have HB := n1_; have BK223 := n2_; have GW223 := n3_; have GE223 := n4_; have NB222_223 := n5_; have NB223_222 := n6_; clear n0_ n1_ n2_ n3_ n4_ n5_ n6_; clear hb hbox hg) | ((with_reducible refine gate_dst (N := 6) rfl ?_); (try (refine gate_guard (by rfl) ?_; dsimp only)); refine box_event ?hg (N := 6) ?hd (cs := #[.slice none 0 0, .slice none 0 0, .slice none 0 0]) (t := 53) ?hr ?_; (case hd => rfl); (case hg => rfl); (case hr => first | (go_simp; done) | (go_simp; rfl)); intro gb224 hg w26 hbox hb; have n0_ := Aside0.mk (blk_below (qb BK222.out) hb); have n1_ := Aside0.mk (blk_below (qb BK223.out) hb); have n2_ := Aside0.mk (below_step (qW HB.out) hb); have n3_ := Aside0.mk (hbox); have n4_ := Aside0.mk ((by rw [hg]; exact (below_size (qW HB.out)) : w.heap.size ≤ gb224)); have n5_ := Aside0.mk ((by rw [hg]; exact (below_size (qW HB.out)) : w.heap.size ≤ gb224)); have n6_ := Aside0.mk ((by rw [hg]; exact Nat.ne_of_lt (blk_lt (qb BK222.out)) : gb222 ≠ gb224)); have n7_ := Aside0.mk ((by rw [hg]; exact Nat.ne_of_gt (blk_lt (qb BK222.out)) : gb224 ≠ gb222)); have n8_ := Aside0.mk ((by rw [hg]; exact Nat.ne_of_lt (blk_lt (qb BK223.out)) : gb223 ≠ gb224)); have n9_ := Aside0.mk ((by rw [hg]; exact Nat.ne_of_gt (blk_lt (qb BK223.out)) : gb224 ≠ gb223)); clear BK222 BK223 HB; have BK222 := n0_; have BK223 := n1_; have HB := n2_; have BK224 := n3_; have GW224 := n4_; have GE224 := n5_; have NB222_224 := n6_; have NB224_222 := n7_; have NB223_224 := n8_; have NB224_223 := n9_; clear n0_ n1_ n2_ n3_ n4_ n5_ n6_ n7_ n8_ n9_; clear hb hbox hg; have hnb27 := NB222_223.out; have hnc27 := NB223_222.out; have hnb28 := NB222_224.out; have hnc28 := NB224_222.out; have hcz29_0 : w26.cell? ⟨gb222, 0, none⟩ = some (.slice A0_0 l0_0.length c0_0) := (blk_cell BK222.out 0).trans rfl; have hcz29_1 : w26.cell? ⟨gb222, 1, none⟩ = some (.slice A0_1 l0_1.length c0_1) := (blk_cell BK222.out 1).trans rfl; have hcz29_2 : w26.cell? ⟨gb222, 2, none⟩ = some (.slice A0_2 l0_2.length c0_2) := (blk_cell BK222.out 2).trans rfl; have hfz29_0 := blk_frozen BK222.out 0; have hfz29_1 := blk_frozen BK222.out 1; have hfz29_2 := blk_frozen BK222.out 2) | ((with_reducible refine gate_callee (f := 60) rfl ?_); refine goesL_ (some 20) rfl rfl Try.func60 (by kernel_rfl) rfl #[.agg #[.slice A0_0 l0_0.length c0_0, .slice A0_1 l0_1.length c0_1, .slice A0_2 l0_2.length c0_2]] rfl (by (try simp only [List.map_toArray, List.map_cons, List.map_nil]); first | done | rfl | (simp only [List.length_drop, List.length_take]; rfl)) ?_; (with_reducible refine (shape_copied.calls _ _ l0_0 _ _ l0_1 _ _ l0_2 t225 t228 t231 _ ?side1 ?side2 ?side3 ?side4 ?side5 ?side6 A20.out).mono ?_); (case side1 => exact qC (Kd.C_below HR0_0.out HB.out)); (case side2 => exact HC0_0.out); (case side3 => exact qC (Kd.C_below HR0_1.out HB.out)); (case side4 => exact HC0_1.out); (case side5 => exact qC (Kd.C_below HR0_2.out HB.out)); (case side6 => exact HC0_2.out); rintro e w30 ⟨v226, v229, v232, rfl, ho0, ho1, ho2, hb⟩; refine ⟨_, rfl, ?_⟩; have n0_ := Aside0.mk (Kd.R_lower (Kd.R_newB ho0 (qb BK223.out)) (below_size (qW HB.out))); have n1_ := Aside0.mk (Kd.R_lower (Kd.R_newB ho1 (qb BK223.out)) (below_size (qW HB.out))); have n2_ := Aside0.mk (Kd.R_lower ho2 (below_size (qW HB.out))); have n3_ := Aside0.mk (blk_below (qb BK222.out) hb); have n4_ := Aside0.mk (blk_below (qb BK223.out) hb); have n5_ := Aside0.mk (blk_below (qb BK224.out) hb); have n6_ := Aside0.mk (below_step (qW HB.out) hb); clear BK222 BK223 BK224 HB; have HO227 := n0_; have HO230 := n1_; have HO233 := n2_; have BK222 := n3_; have BK223 := n4_; have BK224 := n5_; have HB := n6_; clear n0_ n1_ n2_ n3_ n4_ n5_ n6_; (try clear hb); (try clear hb2); (try clear hk); (try clear hi); (try clear ho0); (try clear ho1); (try clear ho2)) | ((with_reducible refine gate_dst (N := 8) rfl ?_); (try (refine gate_guard (by rfl) ?_; dsimp only)); refine box_event ?hg (N := 8) ?hd (cs := #[.slice none 0 0, .slice none 0 0, .slice none 0 0]) (t := 53) ?hr ?_; (case hd => rfl); (case hg => rfl); (case hr => first | (go_simp; done) | (go_simp; rfl)); intro gb234 hg w31 hbox hb; have n0_ := Aside0.mk (Kd.R_below (qR HO227.out) hb); have n1_ := Aside0.mk (Kd.R_below (qR HO230.out) hb); have n2_ := Aside0.mk (Kd.R_below (qR HO233.out) hb); have n3_ := Aside0.mk (blk_below (qb BK222.out) hb); have n4_ := Aside0.mk (blk_below (qb BK223.out) hb); have n5_ := Aside0.mk (blk_below (qb BK224.out) hb); have n6_ := Aside0.mk (below_step (qW HB.out) hb); have n7_ := Aside0.mk (hbox); have n8_ := Aside0.mk ((by rw [hg]; exact (below_size (qW HB.out)) : w.heap.size ≤ gb234)); have n9_ := Aside0.mk ((by rw [hg]; exact (below_size (qW HB.out)) : w.heap.size ≤ gb234)); have n10_ := Aside0.mk ((by rw [hg]; exact Nat.ne_of_lt (blk_lt (qb BK222.out)) : gb222 ≠ gb234)); have n11_ := Aside0.mk ((by rw [hg]; exact Nat.ne_of_gt (blk_lt (qb BK222.out)) : gb234 ≠ gb222)); have n12_ := Aside0.mk ((by rw [hg]; exact Nat.ne_of_lt (blk_lt (qb BK223.out)) : gb223 ≠ gb234)); have n13_ := Aside0.mk ((by rw [hg]; exact Nat.ne_of_gt (blk_lt (qb BK223.out)) : gb234 ≠ gb223)); have n14_ := Aside0.mk ((by rw [hg]; exact Nat.ne_of_lt (blk_lt (qb BK224.out)) : gb224 ≠ gb234)); have n15_ := Aside0.mk ((by rw [hg]; exact Nat.ne_of_gt (blk_lt (qb BK224.out)) : gb234 ≠ gb224)); clear HO227 HO230 HO233 BK222 BK223 BK224 HB; have HO227 := n0_; have HO230 := n1_; have HO233 := n2_; have BK222 := n3_; have BK223 := n4_; have BK224 := n5_; have HB := n6_; have BK234 := n7_; have GW234 := n8_; have GE234 := n9_; have NB222_234 := n10_; have NB234_222 := n11_; have NB223_234 := n12_; have NB234_223 := n13_; have NB224_234 := n14_; have NB234_224 := n15_; clear n0_ n1_ n2_ n3_ n4_ n5_ n6_ n7_ n8_ n9_ n10_ n11_ n12_ n13_ n14_ n15_; clear hb hbox hg; obtain ⟨Ao32, co32, eo32⟩ := Kd.R_slice HO227.out; subst eo32; have hnb33 := NB234_222.out; have hnc33 := NB222_234.out; have hnb34 := NB234_223.out; have hnc34 := NB223_234.out; have hnb35 := NB234_224.out; have hnc35 := NB224_234.out; have hcz36_0 : w31.cell? ⟨gb234, 0, none⟩ = some (.slice none 0 0) := (blk_cell BK234.out 0).trans rfl; have hcz36_1 : w31.cell? ⟨gb234, 1, none⟩ = some (.slice none 0 0) := (blk_cell BK234.out 1).trans rfl; have hcz36_2 : w31.cell? ⟨gb234, 2, none⟩ = some (.slice none 0 0) := (blk_cell BK234.out 2).trans rfl; have hfz36_0 := blk_frozen BK234.out 0; have hfz36_1 := blk_frozen BK234.out 1; have hfz36_2 := blk_frozen BK234.out 2; obtain ⟨Ao37, co37, eo37⟩ := Kd.R_slice HO230.out; subst eo37; obtain ⟨Ao38, co38, eo38⟩ := Kd.R_slice HO233.out; subst eo38) | ((with_reducible refine gate_store (t := 53) (p := 8) rfl ?_); refine store_event (t := 53) (p := 8) (v := ?vo_w39) (w1 := (((w31.setCell ⟨gb234, 0, none⟩ (.slice Ao32 t225.length co32)).setCell ⟨gb234, 1, none⟩ (.slice Ao37 t228.length co37)).setCell ⟨gb234, 2, none⟩ (.slice Ao38 t231.length co38))) ?hg ?ho ?hn ?hr ?_; (case ho => rfl); (case hg => rfl); (case hn => rfl); (case hr => first | (go_simp; done) | (go_simp; rfl)); intro w39 hw; have n0_ : Aside0 (Kd.R k56 56 w39 w.heap.size (fun k_ => some k_ ≠ (.slice Ao37 t228.length co37 : Value).ownBlock ∧ k_ ≠ gb223) (.slice Ao32 t225.length co32) t225) := ⟨(by rw [hw]; exact (qR (Kd.R_mono (Kd.R_far (p := ⟨gb234, 2, none⟩) (Kd.R_far (p := ⟨gb234, 1, none⟩) (Kd.R_far (p := ⟨gb234, 0, none⟩) (Kd.R_types HO227.out BK234.out (by decide)) (fun _ hk => hk.2) (.slice Ao32 t225.length co32)) (fun _ hk => hk.2) (.slice Ao37 t228.length co37)) (fun _ hk => hk.2) (.slice Ao38 t231.length co38)) (fun _ hk => ⟨hk.1.1, hk.1.2⟩))))⟩; have n1_ : Aside0 (Kd.R k56 56 w39 w.heap.size (fun k_ => some k_ ≠ (.slice Ao32 t225.length co32 : Value).ownBlock ∧ k_ ≠ gb223) (.slice Ao37 t228.length co37) t228) := ⟨(by rw [hw]; exact (qR (Kd.R_mono (Kd.R_far (p := ⟨gb234, 2, none⟩) (Kd.R_far (p := ⟨gb234, 1, none⟩) (Kd.R_far (p := ⟨gb234, 0, none⟩) (Kd.R_types HO230.out BK234.out (by decide)) (fun _ hk => hk.2) (.slice Ao32 t225.length co32)) (fun _ hk => hk.2) (.slice Ao37 t228.length co37)) (fun _ hk => hk.2) (.slice Ao38 t231.length co38)) (fun _ hk => ⟨hk.1.1, hk.1.2⟩))))⟩; have n2_ : Aside0 (Kd.R (Kd.int .i64) 3 w39 w.heap.size (fun _ => True) (.slice Ao38 t231.length co38) t231) := ⟨(by rw [hw]; exact (qR (Kd.R_mono (Kd.R_far (p := ⟨gb234, 2, none⟩) (Kd.R_far (p := ⟨gb234, 1, none⟩) (Kd.R_far (p := ⟨gb234, 0, none⟩) (Kd.R_types HO233.out BK234.out (by decide)) (fun _ hk => hk.2) (.slice Ao32 t225.length co32)) (fun _ hk => hk.2) (.slice Ao37 t228.length co37)) (fun _ hk => hk.2) (.slice Ao38 t231.length co38)) (fun _ hk => trivial))))⟩; have n3_ : Aside0 (w39.heap[gb222]? = some (.cells #[.slice A0_0 l0_0.length c0_0, .slice A0_1 l0_1.length c0_1, .slice A0_2 l0_2.length c0_2] 53 (0, 0))) := ⟨(by rw [hw]; exact (qf BK222.out))⟩; have n4_ : Aside0 (w39.heap[gb223]? = some (.cells #[.int .u8 a2_0, .int .u8 a2_1, .int .u16 a2_2, .int .i64 a2_3] 56 (0, 0))) := ⟨(by rw [hw]; exact (qf BK223.out))⟩; have n5_ : Aside0 (w39.heap[gb224]? = some (.cells #[.slice none 0 0, .slice none 0 0, .slice none 0 0] 53 (0, 0))) := ⟨(by rw [hw]; exact (qf BK224.out))⟩; have n6_ : Aside0 (w39.heap[gb234]? = some (.cells #[.slice Ao32 t225.length co32, .slice Ao37 t228.length co37, .slice Ao38 t231.length co38] 53 (0, 0))) := ⟨(by rw [hw]; exact (by (with_reducible repeat (first | refine blk_drewN ?_ _ | refine blk_drew ?_ | refine blk_alloc ?_ _)); refine blk_put (cs := #[.slice Ao32 t225.length co32, .slice Ao37 t228.length co37, .slice none 0 0]) ?_ 2 _ rfl; (with_reducible repeat (first | refine blk_drewN ?_ _ | refine blk_drew ?_ | refine blk_alloc ?_ _)); refine blk_put (cs := #[.slice Ao32 t225.length co32, .slice none 0 0, .slice none 0 0]) ?_ 1 _ rfl; (with_reducible repeat (first | refine blk_drewN ?_ _ | refine blk_drew ?_ | refine blk_alloc ?_ _)); refine blk_put (cs := #[.slice none 0 0, .slice none 0 0, .slice none 0 0]) ?_ 0 _ rfl; (with_reducible repeat (first | refine blk_drewN ?_ _ | refine blk_drew ?_ | refine blk_alloc ?_ _)); exact BK234.out))⟩; have n7_ : Aside0 (Below w.heap.size w w39) := ⟨(by rw [hw]; exact (qW HB.out))⟩; clear hw HO227 HO230 HO233 BK222 BK223 BK224 BK234 HB; have HO227 := n0_; have HO230 := n1_; have HO233 := n2_; have BK222 := n3_; have BK223 := n4_; have BK224 := n5_; have BK234 := n6_; have HB := n7_; clear n0_ n1_ n2_ n3_ n4_ n5_ n6_ n7_; have hcz40_0 : w39.cell? ⟨gb234, 0, none⟩ = some (.slice Ao32 t225.length co32) := (blk_cell BK234.out 0).trans rfl; have hcz40_1 : w39.cell? ⟨gb234, 1, none⟩ = some (.slice Ao37 t228.length co37) := (blk_cell BK234.out 1).trans rfl; have hcz40_2 : w39.cell? ⟨gb234, 2, none⟩ = some (.slice Ao38 t231.length co38) := (blk_cell BK234.out 2).trans rfl; have hfz40_0 := blk_frozen BK234.out 0; have hfz40_1 := blk_frozen BK234.out 1; have hfz40_2 := blk_frozen BK234.out 2; have hnb41 := NB223_224.out; have hnc41 := NB224_223.out; have hcz42_0 : w39.cell? ⟨gb223, 0, none⟩ = some (.int .u8 a2_0) := (blk_cell BK223.out 0).trans rfl; have hcz42_1 : w39.cell? ⟨gb223, 1, none⟩ = some (.int .u8 a2_1) := (blk_cell BK223.out 1).trans rfl; have hcz42_2 : w39.cell? ⟨gb223, 2, none⟩ = some (.int .u16 a2_2) := (blk_cell BK223.out 2).trans rfl; have hcz42_3 : w39.cell? ⟨gb223, 3, none⟩ = some (.int .i64 a2_3) := (blk_cell BK223.out 3).trans rfl; have hfz42_0 := blk_frozen BK223.out 0; have hfz42_1 := blk_frozen BK223.out 1; have hfz42_2 := blk_frozen BK223.out 2; have hfz42_3 := blk_frozen BK223.out 3; have p23 : 0 ≤ (a1 : Int) := of_decide_eq_true (by first | (with_reducible assumption) | assumption); have q23 : (a1 : Int) < ((t225.length : Int) : Int) := of_decide_eq_true (by first | (with_reducible assumption) | assumption); obtain ⟨go23, co23, eo23, gb23, gl23, cl23, HG23⟩ := Kd.R_form HO227.out (by omega); (first | cases eo23 | (injection eo23 with ea_ en_ ec_; (first | subst ea_ | (injection ea_ with ea_; subst ea_)); subst ec_; clear en_)); have GB23 := Aside0.mk gb23; have GG23 := Aside0.mk HG23; clear gb23 gl23 HG23; obtain ⟨ce23, hcl23, hM23, hcc23, hfr23⟩ := Kd.R_elem HO227.out z56 (a1 : Int) p23 q23; obtain rfl := k56_openM hM23; have hx23_0 : w39.cell? ⟨go23, (a1 : Int).toNat * 4, none⟩ = some (.int .u8 ((rd_T56 t225 a1).f0)) := hcc23 0 _ rfl; have hx23_1 : w39.cell? ⟨go23, (a1 : Int).toNat * 4 + 1, none⟩ = some (.int .u8 ((rd_T56 t225 a1).f1.f0)) := hcc23 1 _ rfl; have hx23_2 : w39.cell? ⟨go23, (a1 : Int).toNat * 4 + 2, none⟩ = some (.int .u16 ((rd_T56 t225 a1).f1.f1)) := hcc23 2 _ rfl; have hx23_3 : w39.cell? ⟨go23, (a1 : Int).toNat * 4 + 3, none⟩ = some (.int .i64 ((rd_T56 t225 a1).f2)) := hcc23 3 _ rfl; have hf23_0 : w39.frozen? ⟨go23, (a1 : Int).toNat * 4, none⟩ = false := hfr23 0; have hf23_1 : w39.frozen? ⟨go23, (a1 : Int).toNat * 4 + 1, none⟩ = false := hfr23 1; have hf23_2 : w39.frozen? ⟨go23, (a1 : Int).toNat * 4 + 2, none⟩ = false := hfr23 2; have hf23_3 : w39.frozen? ⟨go23, (a1 : Int).toNat * 4 + 3, none⟩ = false := hfr23 3; clear hcl23 hcc23 hfr23 hM23; replace p23 := eq_true p23; replace q23 := eq_true q23; have HX43 := Aside0.mk (show Kd.R k56 56 w39 w.heap.size (fun k_ => some k_ ≠ (.slice Ao37 t228.length co37 : Value).ownBlock ∧ k_ ≠ gb223) (.slice (some ⟨go23, 0, none⟩) t225.length co32) t225 from (qR HO227.out)); obtain ⟨ce43, hcl43, hM43, hcc43, hfr43⟩ := Kd.R_elem HX43.out z56 (a1 : Int) (of_decide_eq_true (by first | (with_reducible assumption) | assumption)) (by have h_ : (a1 : Int) < ((t225.length : Int) : Int) := of_decide_eq_true (by first | (with_reducible assumption) | assumption); first | exact h_ | (have e_ := (Kd.R_reads' HO227.out).1; omega) | simpa using h_); obtain rfl := k56_openM hM43; have HP43 := Kd.R_seg HX43.out (a1 : Int) (of_decide_eq_true (by first | (with_reducible assumption) | assumption)) (by have h_ : (a1 : Int) < ((t225.length : Int) : Int) := of_decide_eq_true (by first | (with_reducible assumption) | assumption); first | exact h_ | (have e_ := (Kd.R_reads' HO227.out).1; omega) | simpa using h_) (seg := [.int .u8 a2_0, .int .u8 a2_1, .int .u16 a2_2, .int .i64 a2_3]) (j := 0) hcl43 hcc43 (show 4 ≤ 4 from by decide) (x' := (⟨a2_0, (⟨a2_1, a2_2⟩ : S32), a2_3⟩ : S56)) (k56_mkM _ _ _ (⟨a2_0, (⟨a2_1, a2_2⟩ : S32), a2_3⟩ : S56) ) (fun _ hk => hk); have hx43_0 := hcc43 0 _ rfl; (try simp only [show (k56).sz = 4 from rfl, Nat.mul_one, Nat.add_zero] at hx43_0); have hf43_0 := hfr43 0; (try simp only [show (k56).sz = 4 from rfl, Nat.mul_one, Nat.add_zero] at hf43_0); have hx43_1 := hcc43 1 _ rfl; (try simp only [show (k56).sz = 4 from rfl, Nat.mul_one, Nat.add_zero] at hx43_1); have hf43_1 := hfr43 1; (try simp only [show (k56).sz = 4 from rfl, Nat.mul_one, Nat.add_zero] at hf43_1); have hx43_2 := hcc43 2 _ rfl; (try simp only [show (k56).sz = 4 from rfl, Nat.mul_one, Nat.add_zero] at hx43_2); have hf43_2 := hfr43 2; (try simp only [show (k56).sz = 4 from rfl, Nat.mul_one, Nat.add_zero] at hf43_2); have hx43_3 := hcc43 3 _ rfl; (try simp only [show (k56).sz = 4 from rfl, Nat.mul_one, Nat.add_zero] at hx43_3); have hf43_3 := hfr43 3; (try simp only [show (k56).sz = 4 from rfl, Nat.mul_one, Nat.add_zero] at hf43_3); clear hcl43 hcc43 hfr43 hM43) | ((with_reducible refine gate_store (t := 56) (p := 25) rfl ?_); refine store_event (t := 56) (p := 25) (v := ?vo_w44) (w1 := ((((w39.setCell ⟨go23, (a1 : Int).toNat * 4, none⟩ (.int .u8 a2_0)).setCell ⟨go23, (a1 : Int).toNat * 4 + 1, none⟩ (.int .u8 a2_1)).setCell ⟨go23, (a1 : Int).toNat * 4 + 2, none⟩ (.int .u16 a2_2)).setCell ⟨go23, (a1 : Int).toNat * 4 + 3, none⟩ (.int .i64 a2_3))) ?hg ?ho ?hn ?hr ?_; (case ho => rfl); (case hg => rfl); (case hn => rfl); (case hr => first | (go_simp; done) | (go_simp; rfl)); intro w44 hw; have hg : w39.grownBy w44 (some go23) := (by rw [hw]; exact HP43.2); have hp_ : Kd.R k56 56 w44 w.heap.size (fun k_ => some k_ ≠ (.slice Ao37 t228.length co37 : Value).ownBlock ∧ k_ ≠ gb223) (.slice (some ⟨go23, 0, none⟩) t225.length co32) y235 := (by rw [hw, Ny235.out]; exact HP43.1); clear HP43; have n0_ := Aside0.mk (blk_grown (qb BK222.out) hg (Kd.R_ne HO227.out BK222.out (by decide))); have n1_ := Aside0.mk (blk_grown (qb BK223.out) hg (Kd.R_away HO227.out (fun _ hk => hk.2))); have n2_ := Aside0.mk (blk_grown (qb BK224.out) hg (Kd.R_ne HO227.out BK224.out (by decide))); have n3_ := Aside0.mk (hp_); have n4_ := Aside0.mk (Kd.R_after (v := (.slice (some ⟨go23, 0, none⟩) t225.length co32)) (v1 := (.slice (some ⟨go23, 0, none⟩) t225.length co32)) (ok := (fun k_ => k_ ≠ gb223)) (qR (Kd.R_mono HO230.out (fun _ hk => ⟨hk.2, hk.1⟩))) hg (.inl rfl)); have n5_ := Aside0.mk (Kd.R_over' (v := (.slice (some ⟨go23, 0, none⟩) t225.length co32)) (qR HO233.out) (Kd.R_typed HO227.out) (by decide) hg); have n6_ := Aside0.mk (blk_grown (qb BK234.out) hg (Kd.R_ne HO227.out BK234.out (by decide))); have n7_ := Aside0.mk ((by rw [hw]; exact below_set (below_set (below_set (below_set (HB.out) GB23.out) GB23.out) GB23.out) GB23.out : Below w.heap.size w w44)); clear BK222 BK223 BK224 HO227 HO230 HO233 BK234 HB; have BK222 := n0_; have BK223 := n1_; have BK224 := n2_; have HO227 := n3_; have HO230 := n4_; have HO233 := n5_; have BK234 := n6_; have HB := n7_; clear n0_ n1_ n2_ n3_ n4_ n5_ n6_ n7_; clear hg hw hp_; have hcz45_0 : w44.cell? ⟨gb234, 0, none⟩ = some (.slice (some ⟨go23, 0, none⟩) t225.length co32) := (blk_cell BK234.out 0).trans rfl; have hcz45_1 : w44.cell? ⟨gb234, 1, none⟩ = some (.slice Ao37 t228.length co37) := (blk_cell BK234.out 1).trans rfl; have hcz45_2 : w44.cell? ⟨gb234, 2, none⟩ = some (.slice Ao38 t231.length co38) := (blk_cell BK234.out 2).trans rfl; have hfz45_0 := blk_frozen BK234.out 0; have hfz45_1 := blk_frozen BK234.out 1; have hfz45_2 := blk_frozen BK234.out 2; have hcz46_0 : w44.cell? ⟨gb224, 0, none⟩ = some (.slice none 0 0) := (blk_cell BK224.out 0).trans rfl; have hcz46_1 : w44.cell? ⟨gb224, 1, none⟩ = some (.slice none 0 0) := (blk_cell BK224.out 1).trans rfl; have hcz46_2 : w44.cell? ⟨gb224, 2, none⟩ = some (.slice none 0 0) := (blk_cell BK224.out 2).trans rfl; have hfz46_0 := blk_frozen BK224.out 0; have hfz46_1 := blk_frozen BK224.out 1; have hfz46_2 := blk_frozen BK224.out 2))
     refine bodyPost_ret (results_ct rfl _ _ gb224 53 #[.slice (some ⟨go23, 0, none⟩) t225.length co32, .slice Ao37 t228.length co37, .slice Ao38 t231.length co38] (0, 0) _ rfl (by (with_reducible repeat (first | refine blk_drewN ?_ _ | refine blk_drew ?_ | refine blk_alloc ?_ _)); refine blk_put (cs := #[.slice (some ⟨go23, 0, none⟩) t225.length co32, .slice Ao37 t228.length co37, .slice none 0 0]) ?_ 2 _ rfl; (with_reducible repeat (first | refine blk_drewN ?_ _ | refine blk_drew ?_ | refine blk_alloc ?_ _)); refine blk_put (cs := #[.slice (some ⟨go23, 0, none⟩) t225.length co32, .slice none 0 0, .slice none 0 0]) ?_ 1 _ rfl; (with_reducible repeat (first | refine blk_drewN ?_ _ | refine blk_drew ?_ | refine blk_alloc ?_ _)); refine blk_put (cs := #[.slice none 0 0, .slice none 0 0, .slice none 0 0]) ?_ 0 _ rfl; (with_reducible repeat (first | refine blk_drewN ?_ _ | refine blk_drew ?_ | refine blk_alloc ?_ _)); exact BK224.out) Try.underlying53 rfl (by kernel_rfl)) rfl ?_
     exact ⟨_, _, _, by first | rfl | (simp [errW_none, errW_some] <;> rfl) | (simp [*, errW_none, errW_some] <;> rfl), by (with_reducible repeat (first | apply Kd.R_alloc | apply Kd.R_drewN | apply Kd.R_drew)); exact Kd.R_mono (Kd.R_far (p := ⟨gb224, 2, none⟩) (Kd.R_far (p := ⟨gb224, 1, none⟩) (Kd.R_far (p := ⟨gb224, 0, none⟩) (Kd.R_types HO227.out BK224.out (by decide)) (fun _ hk => hk.2) (.slice (some ⟨go23, 0, none⟩) t225.length co32)) (fun _ hk => hk.2) (.slice Ao37 t228.length co37)) (fun _ hk => hk.2) (.slice Ao38 t231.length co38)) (fun _ hk => hk.1.1), by (with_reducible repeat (first | apply Kd.R_alloc | apply Kd.R_drewN | apply Kd.R_drew)); exact Kd.R_mono (Kd.R_far (p := ⟨gb224, 2, none⟩) (Kd.R_far (p := ⟨gb224, 1, none⟩) (Kd.R_far (p := ⟨gb224, 0, none⟩) (Kd.R_types HO230.out BK224.out (by decide)) (fun _ hk => hk.2) (.slice (some ⟨go23, 0, none⟩) t225.length co32)) (fun _ hk => hk.2) (.slice Ao37 t228.length co37)) (fun _ hk => hk.2) (.slice Ao38 t231.length co38)) (fun _ hk => hk.1.2), by (with_reducible repeat (first | apply Kd.R_alloc | apply Kd.R_drewN | apply Kd.R_drew)); exact Kd.R_mono (Kd.R_far (p := ⟨gb224, 2, none⟩) (Kd.R_far (p := ⟨gb224, 1, none⟩) (Kd.R_far (p := ⟨gb224, 0, none⟩) (Kd.R_types HO233.out BK224.out (by decide)) (fun _ hk => hk.2) (.slice (some ⟨go23, 0, none⟩) t225.length co32)) (fun _ hk => hk.2) (.slice Ao37 t228.length co37)) (fun _ hk => hk.2) (.slice Ao38 t231.length co38)) (fun _ hk => trivial), by repeat (first | (with_reducible first | exact HB.out | apply below_alloc | apply pw_below_drewN | apply below_drew1 | refine below_set ?_ GE222.out | refine below_set ?_ GE223.out | refine below_set ?_ GE224.out | refine below_set ?_ GE234.out) | exact HB.out)⟩
    ·rw [if_neg c22] at H
     exact absurd H (by simp)
   ·rw [if_neg c21] at H
    exact absurd H (by simp)

end Go.Proofs.Ytjknnifcbcdjiaa.PShapeMoves
