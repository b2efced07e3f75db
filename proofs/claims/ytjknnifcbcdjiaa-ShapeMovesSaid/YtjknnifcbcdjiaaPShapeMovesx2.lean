/- Printed by a program of this session (pr.py). -/
import Derived.Test.YtjknnifcbcdjiaaPShapeMovesx0
import Derived.Test.YtjknnifcbcdjiaaPShapeMovesx1
import Derived.Lib.SliceRun
import Derived.Test.YtjknnifcbcdjiaaAppendFull
import Derived.Test.YtjknnifcbcdjiaaLives17
import Derived.Test.YtjknnifcbcdjiaaWorldW
import Derived.Test.YtjknnifcbcdjiaaShort
namespace Go.Proofs.Ytjknnifcbcdjiaa.PShapeMoves
open Go.RowKit Go.Proofs.YtjknnifcbcdjiaaW.PrintWords Go.Proofs.YtjknnifcbcdjiaaW.PrintLast Go.Proofs.YtjknnifcbcdjiaaW.PrintMore Go.Proofs.Ytjknnifcbcdjiaa.Short
attribute [local go_sem] max2_int min2_int max_two min_two max_three min_three max_four min_four   -- for this text's walks alone
set_option linter.unusedVariables false
set_option linter.unusedSimpArgs false

attribute [local go_sem high] eqA56
/-! ### garderobelaw17_great: function 17 -/
def garderobelaw17_great.f (l0_0 : List (S56)) (l0_1 : List (S56)) (l0_2 : List Int) : Option (Bool) := if (l0_0.length : Int) > 300 then (some true) else (if (l0_1.length : Int) > 300 then (some true) else (some (decide ((l0_2.length : Int) > 20))))
set_option maxHeartbeats 8000000 in
set_option maxRecDepth 100000 in
theorem garderobelaw17_great.calls (A0_0 : Option Addr) (c0_0 : Nat) (l0_0 : List (S56)) (A0_1 : Option Addr) (c0_1 : Nat) (l0_1 : List (S56)) (A0_2 : Option Addr) (c0_2 : Nat) (l0_2 : List Int) (r : Bool) (w : World) (hr0_0 : Kd.C k56 w A0_0 l0_0.length l0_0) (hc0_0 : l0_0.length ≤ c0_0) (hr0_1 : Kd.C k56 w A0_1 l0_1.length l0_1) (hc0_1 : l0_1.length ≤ c0_1) (hr0_2 : Kd.C (Kd.int .i64) w A0_2 l0_2.length l0_2) (hc0_2 : l0_2.length ≤ c0_2) (h : garderobelaw17_great.f l0_0 l0_1 l0_2 = some r) :
  Calls Try.prog 17 #[.agg #[.slice A0_0 l0_0.length c0_0, .slice A0_1 l0_1.length c0_1, .slice A0_2 l0_2.length c0_2]] w fun e w' => e = .returned (.bool r) ∧ Below w.heap.size w w' := by
 have hu53 := Try.underlying53
 have HR0_0 := Aside0.mk hr0_0
 have HC0_0 := Aside0.mk hc0_0
 clear hr0_0 hc0_0
 have HR0_1 := Aside0.mk hr0_1
 have HC0_1 := Aside0.mk hc0_1
 clear hr0_1 hc0_1
 have HR0_2 := Aside0.mk hr0_2
 have HC0_2 := Aside0.mk hc0_2
 clear hr0_2 hc0_2
 have HB := Aside0.mk (Below.refl w.heap.size w)
 have H : (if (l0_0.length : Int) > 300 then (some true) else (if (l0_1.length : Int) > 300 then (some true) else (some (decide ((l0_2.length : Int) > 20))))) = some r := h
 clear h
 by_cases c2 : (l0_0.length : Int) > 300
 ·rw [if_pos c2] at H
  have c2b0 : decide (300 < (l0_0.length : Int)) = true := decide_eq_true c2
  have c2b1 : decide (300 < l0_0.length) = true := decide_eq_true (by omega)
  clear c2
  obtain rfl := Option.some.inj H
  go_enter Try.func17, Try.ntmps17
  go_wp2_with (first | ((with_reducible refine gate_dst (N := 1) rfl ?_); (try (refine gate_guard (by rfl) ?_; dsimp only)); refine box_event ?hg (N := 1) ?hd (cs := #[.slice A0_0 l0_0.length c0_0, .slice A0_1 l0_1.length c0_1, .slice A0_2 l0_2.length c0_2]) (t := 53) ?hr ?_; (case hd => rfl); (case hg => rfl); (case hr => first | (go_simp; done) | (go_simp; rfl)); intro gb101 hg w3 hbox hb; have n0_ := Aside0.mk (below_step (qW HB.out) hb); have n1_ := Aside0.mk (hbox); have n2_ := Aside0.mk ((by rw [hg]; exact (below_size (qW HB.out)) : w.heap.size ≤ gb101)); have n3_ := Aside0.mk ((by rw [hg]; exact (below_size (qW HB.out)) : w.heap.size ≤ gb101)); clear HB; have HB := n0_; have BK101 := n1_; have GW101 := n2_; have GE101 := n3_; clear n0_ n1_ n2_ n3_; clear hb hbox hg; have hcz4_0 : w3.cell? ⟨gb101, 0, none⟩ = some (.slice A0_0 l0_0.length c0_0) := (blk_cell BK101.out 0).trans rfl; have hcz4_1 : w3.cell? ⟨gb101, 1, none⟩ = some (.slice A0_1 l0_1.length c0_1) := (blk_cell BK101.out 1).trans rfl; have hcz4_2 : w3.cell? ⟨gb101, 2, none⟩ = some (.slice A0_2 l0_2.length c0_2) := (blk_cell BK101.out 2).trans rfl; have hfz4_0 := blk_frozen BK101.out 0; have hfz4_1 := blk_frozen BK101.out 1; have hfz4_2 := blk_frozen BK101.out 2))
  go_ret
  exact ⟨by first | rfl | (simp [errW_none, errW_some] <;> rfl) | (simp [*, errW_none, errW_some] <;> rfl), by repeat (first | (with_reducible first | exact HB.out | apply below_alloc | apply pw_below_drewN | apply below_drew1 | refine below_set ?_ GE101.out) | exact HB.out)⟩
 ·rw [if_neg c2] at H
  have c2b0 : decide (300 < (l0_0.length : Int)) = false := decide_eq_false c2
  have c2b1 : decide (300 < l0_0.length) = false := decide_eq_false (by omega)
  clear c2
  by_cases c5 : (l0_1.length : Int) > 300
  ·rw [if_pos c5] at H
   have c5b0 : decide (300 < (l0_1.length : Int)) = true := decide_eq_true c5
   have c5b1 : decide (300 < l0_1.length) = true := decide_eq_true (by omega)
   clear c5
   obtain rfl := Option.some.inj H
   go_enter Try.func17, Try.ntmps17
   go_wp2_with (first | ((with_reducible refine gate_dst (N := 1) rfl ?_); (try (refine gate_guard (by rfl) ?_; dsimp only)); refine box_event ?hg (N := 1) ?hd (cs := #[.slice A0_0 l0_0.length c0_0, .slice A0_1 l0_1.length c0_1, .slice A0_2 l0_2.length c0_2]) (t := 53) ?hr ?_; (case hd => rfl); (case hg => rfl); (case hr => first | (go_simp; done) | (go_simp; rfl)); intro gb101 hg w6 hbox hb; have n0_ := Aside0.mk (below_step (qW HB.out) hb); have n1_ := Aside0.mk (hbox); have n2_ := Aside0.mk ((by rw [hg]; exact (below_size (qW HB.out)) : w.heap.size ≤ gb101)); have n3_ := Aside0.mk ((by rw [hg]; exact (below_size (qW HB.out)) : w.heap.size ≤ gb101)); clear HB; have HB := n0_; have BK101 := n1_; have GW101 := n2_; have GE101 := n3_; clear n0_ n1_ n2_ n3_; clear hb hbox hg; have hcz7_0 : w6.cell? ⟨gb101, 0, none⟩ = some (.slice A0_0 l0_0.length c0_0) := (blk_cell BK101.out 0).trans rfl; have hcz7_1 : w6.cell? ⟨gb101, 1, none⟩ = some (.slice A0_1 l0_1.length c0_1) := (blk_cell BK101.out 1).trans rfl; have hcz7_2 : w6.cell? ⟨gb101, 2, none⟩ = some (.slice A0_2 l0_2.length c0_2) := (blk_cell BK101.out 2).trans rfl; have hfz7_0 := blk_frozen BK101.out 0; have hfz7_1 := blk_frozen BK101.out 1; have hfz7_2 := blk_frozen BK101.out 2))
   go_ret
   exact ⟨by first | rfl | (simp [errW_none, errW_some] <;> rfl) | (simp [*, errW_none, errW_some] <;> rfl), by repeat (first | (with_reducible first | exact HB.out | apply below_alloc | apply pw_below_drewN | apply below_drew1 | refine below_set ?_ GE101.out) | exact HB.out)⟩
  ·rw [if_neg c5] at H
   have c5b0 : decide (300 < (l0_1.length : Int)) = false := decide_eq_false c5
   have c5b1 : decide (300 < l0_1.length) = false := decide_eq_false (by omega)
   clear c5
   obtain rfl := Option.some.inj H
   go_enter Try.func17, Try.ntmps17
   go_wp2_with (first | ((with_reducible refine gate_dst (N := 1) rfl ?_); (try (refine gate_guard (by rfl) ?_; dsimp only)); refine box_event ?hg (N := 1) ?hd (cs := #[.slice A0_0 l0_0.length c0_0, .slice A0_1 l0_1.length c0_1, .slice A0_2 l0_2.length c0_2]) (t := 53) ?hr ?_; (case hd => rfl); (case hg => rfl); (case hr => first | (go_simp; done) | (go_simp; rfl)); intro gb101 hg w8 hbox hb; have n0_ := Aside0.mk (below_step (qW HB.out) hb); have n1_ := Aside0.mk (hbox); have n2_ := Aside0.mk ((by rw [hg]; exact (below_size (qW HB.out)) : w.heap.size ≤ gb101)); have n3_ := Aside0.mk ((by rw [hg]; exact (below_size (qW HB.out)) : w.heap.size ≤ gb101)); clear HB; have HB := n0_; have BK101 := n1_; have GW101 := n2_; have GE101 := n3_; clear n0_ n1_ n2_ n3_; clear hb hbox hg; have hcz9_0 : w8.cell? ⟨gb101, 0, none⟩ = some (.slice A0_0 l0_0.length c0_0) := (blk_cell BK101.out 0).trans rfl; have hcz9_1 : w8.cell? ⟨gb101, 1, none⟩ = some (.slice A0_1 l0_1.length c0_1) := (blk_cell BK101.out 1).trans rfl; have hcz9_2 : w8.cell? ⟨gb101, 2, none⟩ = some (.slice A0_2 l0_2.length c0_2) := (blk_cell BK101.out 2).trans rfl; have hfz9_0 := blk_frozen BK101.out 0; have hfz9_1 := blk_frozen BK101.out 1; have hfz9_2 := blk_frozen BK101.out 2))
   go_ret
   exact ⟨by first | rfl | (simp [errW_none, errW_some] <;> rfl) | (simp [*, errW_none, errW_some] <;> rfl), by repeat (first | (with_reducible first | exact HB.out | apply below_alloc | apply pw_below_drewN | apply below_drew1 | refine below_set ?_ GE101.out) | exact HB.out)⟩

/-! ### api_Val: function 61 -/
theorem Kd.C_none0 {α : Type} {d : Kd α} {w : World} {n : Nat} {xs : List α} (h : Kd.C d w none n xs) : n = 0 := by
 rcases Nat.eq_zero_or_pos n with h0 | h0
 ·exact h0
 ·obtain ⟨ad, he, _⟩ := h.2.2 h0
  cases he
def api_Val.f (l0 : List (S56)) : Option ((List (S56))) := if ([] : List (S56)).length + l0.length < 8796093022208 then (some (([] : List (S56)) ++ l0)) else (none)
set_option maxHeartbeats 8000000 in
set_option maxRecDepth 100000 in
theorem api_Val.calls (A0 : Option Addr) (c0 : Nat) (l0 : List (S56)) (r : List (S56)) (w : World) (hr0 : Kd.C k56 w A0 l0.length l0) (hc0 : l0.length ≤ c0) (h : api_Val.f l0 = some r) :
  Calls Try.prog 61 #[.slice A0 l0.length c0] w fun e w' => ∃ v0_ : Value, e = .returned (v0_) ∧ Kd.R k56 56 w' w.heap.size (fun _ => True) v0_ r ∧ Below w.heap.size w w' := by
 have HR0 := Aside0.mk hr0
 have HC0 := Aside0.mk hc0
 clear hr0 hc0
 have HB := Aside0.mk (Below.refl w.heap.size w)
 have H : (if ([] : List (S56)).length + l0.length < 8796093022208 then (some (([] : List (S56)) ++ l0)) else (none)) = some r := h
 clear h
 by_cases c2 : ([] : List (S56)).length + l0.length < 8796093022208
 ·rw [if_pos c2] at H
  have LMc2 := Aside0.mk c2
  clear c2
  obtain ⟨y102, hy102⟩ : ∃ y_ : List (S56), y_ = (([] : List (S56)) ++ l0) := ⟨_, rfl⟩
  replace H : (some y102) = some r := by first | (rw [hy102]; with_reducible exact H) | (have H2_ := (Option.bind_some _ _).symm.trans H; rw [hy102]; with_reducible exact H2_) | (have H2_ := (Option.bind_some _ _).symm.trans H; with_reducible exact H2_) | with_reducible exact H | (rw [hy102]; exact H) | exact H
  have Ny102 := Aside0.mk hy102
  clear hy102
  obtain rfl := Option.some.inj H
  cases A0 with
  | none =>
   obtain rfl : l0 = [] := List.eq_nil_of_length_eq_zero (Kd.C_none0 HR0.out)
   have hn := fun wx : World => Lib.run_eql_slice_nil (P := Try.prog) wx 50 56 none 0 c0 0 0 Try.underlying50
   go_enter Try.func61, Try.ntmps61
   go_wp2
   go_ret
   exact ⟨_, rfl, by rw [Ny102.out]; exact Kd.R_nil _ _ _ _ _, HB.out⟩
  | some a0 =>
   have HE : Aside0 (Kd.R k56 56 (w.alloc (.cells #[] 56)) w.heap.size (fun _ => True) (.slice (some ⟨w.heap.size, 0, none⟩) 0 0) []) := ⟨⟨fun _ _ => trivial, [], World.ownsRow_lit w #[] 0 (Nat.le_refl _) (by decide) rfl, Reps.none _ _⟩⟩
   have hn := fun wx : World => Lib.run_eql_slice_nil (P := Try.prog) wx 50 56 (some a0) l0.length c0 0 0 Try.underlying50
   go_enter Try.func61, Try.ntmps61
   go_wp2_with (first | ((with_reducible refine gate_builtin (b := .append) (xs := #[.tmp 5, .tmp 6]) rfl ?_); at_builtin; refine Kd.R_append_rows k56 (w0 := w) w.heap.size rfl (.tmp 5) (.tmp 6) 50 56 (.agg #[(.int .u8 0), (.int .u8 0), (.int .u16 0), (.int .i64 0)]) 16 rfl Try.underlying50 info56 rfl (by decide) (by omega) (.slice (some ⟨w.heap.size, 0, none⟩) 0 0) ([] : List (S56)) l0 _ _ _ (fun _ => True) (fun _ => False) rfl rfl ?aO ?aR (fun _ _ h => h) (fun _ h => h.elim) ?aF ?aB ?aS ?aL ?_; (case aR => exact Kd.C_alloc HR0.out _); (case aB => exact (qW HB.out)); (case aF => exact (fun _ _ => trivial)); (case aO => exact HE.out); (case aS => exact (below_size (qW HB.out))); (case aL => have := LMc2.out; omega); intro v103 w3 ho hb hg hat; rw [← Ny102.out] at ho; have n0_ := Aside0.mk (hb); have n1_ := Aside0.mk (ho); clear HB; have HB := n0_; have HO104 := n1_; clear n0_ n1_; clear ho hb hg hat))
   go_ret
   exact ⟨_, by first | rfl | (simp [errW_none, errW_some] <;> rfl) | (simp [*, errW_none, errW_some] <;> rfl), by (with_reducible repeat (first | apply Kd.R_alloc | apply Kd.R_drewN | apply Kd.R_drew)); exact HO104.out, by repeat (first | (with_reducible first | exact HB.out | apply below_alloc | apply pw_below_drewN | apply below_drew1) | exact HB.out)⟩
 ·rw [if_neg c2] at H
  exact absurd H (by simp)


/-! ### slices_Clone_int_int: function 64 -/
def slices_Clone_int_int.f (l0 : List Int) : Option (List Int) := if ([] : List Int).length + l0.length < 17592186044416 then (some (([] : List Int) ++ l0)) else (none)
set_option maxHeartbeats 8000000 in
set_option maxRecDepth 100000 in
theorem slices_Clone_int_int.calls (A0 : Option Addr) (c0 : Nat) (l0 : List Int) (r : List Int) (w : World) (hr0 : Kd.C (Kd.int .i64) w A0 l0.length l0) (hc0 : l0.length ≤ c0) (h : slices_Clone_int_int.f l0 = some r) :
  Calls Try.prog 64 #[.slice A0 l0.length c0] w fun e w' => ∃ v0_ : Value, e = .returned (v0_) ∧ Kd.R (Kd.int .i64) 3 w' w.heap.size (fun _ => True) v0_ r ∧ Below w.heap.size w w' := by
 have HR0 := Aside0.mk hr0
 have HC0 := Aside0.mk hc0
 clear hr0 hc0
 have HB := Aside0.mk (Below.refl w.heap.size w)
 have H : (if ([] : List Int).length + l0.length < 17592186044416 then (some (([] : List Int) ++ l0)) else (none)) = some r := h
 clear h
 by_cases c2 : ([] : List Int).length + l0.length < 17592186044416
 ·rw [if_pos c2] at H
  have LMc2 := Aside0.mk c2
  clear c2
  obtain ⟨y105, hy105⟩ : ∃ y_ : List Int, y_ = (([] : List Int) ++ l0) := ⟨_, rfl⟩
  replace H : (some y105) = some r := by first | (rw [hy105]; with_reducible exact H) | (have H2_ := (Option.bind_some _ _).symm.trans H; rw [hy105]; with_reducible exact H2_) | (have H2_ := (Option.bind_some _ _).symm.trans H; with_reducible exact H2_) | with_reducible exact H | (rw [hy105]; exact H) | exact H
  have Ny105 := Aside0.mk hy105
  clear hy105
  obtain rfl := Option.some.inj H
  cases A0 with
  | none =>
   obtain rfl : l0 = [] := List.eq_nil_of_length_eq_zero (Kd.C_none0 HR0.out)
   have hn := fun wx : World => Lib.run_eql_slice_nil (P := Try.prog) wx 51 3 none 0 c0 0 0 Try.underlying51
   go_enter Try.func64, Try.ntmps64
   go_wp2
   go_ret
   exact ⟨_, rfl, by rw [Ny105.out]; exact Kd.R_nil _ _ _ _ _, HB.out⟩
  | some a0 =>
   have HE : Aside0 (Kd.R (Kd.int .i64) 3 (w.alloc (.cells #[] 3)) w.heap.size (fun _ => True) (.slice (some ⟨w.heap.size, 0, none⟩) 0 0) []) := ⟨⟨fun _ _ => trivial, [], World.ownsRow_lit w #[] 0 (Nat.le_refl _) (by decide) rfl, Reps.none _ _⟩⟩
   have hn := fun wx : World => Lib.run_eql_slice_nil (P := Try.prog) wx 51 3 (some a0) l0.length c0 0 0 Try.underlying51
   go_enter Try.func64, Try.ntmps64
   go_wp2_with (first | ((with_reducible refine gate_builtin (b := .append) (xs := #[.tmp 5, .tmp 6]) rfl ?_); at_builtin; refine Kd.R_append_rows (Kd.int .i64) (w0 := w) w.heap.size rfl (.tmp 5) (.tmp 6) 51 3 (.int .i64 0) 8 rfl Try.underlying51 info3 rfl (by decide) (by omega) (.slice (some ⟨w.heap.size, 0, none⟩) 0 0) ([] : List Int) l0 _ _ _ (fun _ => True) (fun _ => False) rfl rfl ?aO ?aR (fun _ _ h => h) (fun _ h => h.elim) ?aF ?aB ?aS ?aL ?_; (case aR => exact Kd.C_alloc HR0.out _); (case aB => exact (qW HB.out)); (case aF => exact (fun _ _ => trivial)); (case aO => exact HE.out); (case aS => exact (below_size (qW HB.out))); (case aL => have := LMc2.out; omega); intro v106 w3 ho hb hg hat; rw [← Ny105.out] at ho; have n0_ := Aside0.mk (hb); have n1_ := Aside0.mk (ho); clear HB; have HB := n0_; have HO107 := n1_; clear n0_ n1_; clear ho hb hg hat))
   go_ret
   exact ⟨_, by first | rfl | (simp [errW_none, errW_some] <;> rfl) | (simp [*, errW_none, errW_some] <;> rfl), by (with_reducible repeat (first | apply Kd.R_alloc | apply Kd.R_drewN | apply Kd.R_drew)); exact HO107.out, by repeat (first | (with_reducible first | exact HB.out | apply below_alloc | apply pw_below_drewN | apply below_drew1) | exact HB.out)⟩
 ·rw [if_neg c2] at H
  exact absurd H (by simp)


/-! ### shape_copied: function 60 -/
def shape_copied.f (l0_0 : List (S56)) (l0_1 : List (S56)) (l0_2 : List Int) : Option ((List (S56)) × (List (S56)) × List Int) := (api_Val.f l0_0).bind fun t110 => ((api_Val.f l0_1).bind fun t113 => ((slices_Clone_int_int.f l0_2).bind fun t116 => (some (t110, t113, t116))))
def shape_copied.T1 : Bool × List (List Nat × List Nat) := (true, [([], []), ([0], [0]), ([1], [1]), ([], []), ([3], [3]), ([4, 2], [4]), ([], []), ([6], [6]), ([7, 5], [7]), ([2, 5, 8], [2, 5, 8]), ([9, 8, 0, 1, 2, 3, 4, 5, 6, 7, 8, 9], [9])])
def shape_copied.B1 : List Nat := [0, 1, 3, 0, 8, 31, 0, 64, 255, 511, 1023]
theorem shape_copied.tab1 : rtab .any (opsOf Try.f60 1) = shape_copied.T1 := by kernel_rfl
theorem shape_copied.bits1 : waitsOk shape_copied.T1.2 shape_copied.B1 = true := by kernel_rfl
set_option maxHeartbeats 8000000 in
set_option maxRecDepth 100000 in
theorem shape_copied.calls (A0_0 : Option Addr) (c0_0 : Nat) (l0_0 : List (S56)) (A0_1 : Option Addr) (c0_1 : Nat) (l0_1 : List (S56)) (A0_2 : Option Addr) (c0_2 : Nat) (l0_2 : List Int) (r1 : List (S56)) (r2 : List (S56)) (r3 : List Int) (w : World) (hr0_0 : Kd.C k56 w A0_0 l0_0.length l0_0) (hc0_0 : l0_0.length ≤ c0_0) (hr0_1 : Kd.C k56 w A0_1 l0_1.length l0_1) (hc0_1 : l0_1.length ≤ c0_1) (hr0_2 : Kd.C (Kd.int .i64) w A0_2 l0_2.length l0_2) (hc0_2 : l0_2.length ≤ c0_2) (h : shape_copied.f l0_0 l0_1 l0_2 = some (r1, r2, r3)) :
  Calls Try.prog 60 #[.agg #[.slice A0_0 l0_0.length c0_0, .slice A0_1 l0_1.length c0_1, .slice A0_2 l0_2.length c0_2]] w fun e w' => ∃ v0_ v1_ v2_ : Value, e = .returned (.agg #[v0_, v1_, v2_]) ∧ Kd.R k56 56 w' w.heap.size (fun k_ => some k_ ≠ (v1_ : Value).ownBlock) v0_ r1 ∧ Kd.R k56 56 w' w.heap.size (fun k_ => some k_ ≠ (v0_ : Value).ownBlock) v1_ r2 ∧ Kd.R (Kd.int .i64) 3 w' w.heap.size (fun _ => True) v2_ r3 ∧ Below w.heap.size w w' := by
 have hu53 := Try.underlying53
 have HR0_0 := Aside0.mk hr0_0
 have HC0_0 := Aside0.mk hc0_0
 clear hr0_0 hc0_0
 have HR0_1 := Aside0.mk hr0_1
 have HC0_1 := Aside0.mk hc0_1
 clear hr0_1 hc0_1
 have HR0_2 := Aside0.mk hr0_2
 have HC0_2 := Aside0.mk hc0_2
 clear hr0_2 hc0_2
 have HB := Aside0.mk (Below.refl w.heap.size w)
 have H : ((api_Val.f l0_0).bind fun t110 => ((api_Val.f l0_1).bind fun t113 => ((slices_Clone_int_int.f l0_2).bind fun t116 => (some (t110, t113, t116))))) = some (r1, r2, r3) := h
 clear h
 replace H := Option.bind_eq_some_iff.mp H
 obtain ⟨t110, A20, H⟩ := H
 replace H : ((api_Val.f l0_1).bind fun t113 => ((slices_Clone_int_int.f l0_2).bind fun t116 => (some (t110, t113, t116)))) = some (r1, r2, r3) := H
 have A2 := Aside0.mk A20
 clear A20
 replace H := Option.bind_eq_some_iff.mp H
 obtain ⟨t113, A30, H⟩ := H
 replace H : ((slices_Clone_int_int.f l0_2).bind fun t116 => (some (t110, t113, t116))) = some (r1, r2, r3) := H
 have A3 := Aside0.mk A30
 clear A30
 replace H := Option.bind_eq_some_iff.mp H
 obtain ⟨t116, A40, H⟩ := H
 replace H : (some (t110, t113, t116)) = some (r1, r2, r3) := H
 have A4 := Aside0.mk A40
 clear A40
 simp only [Option.some.injEq, Prod.mk.injEq] at H
 obtain ⟨rfl, rfl, rfl⟩ := H
 go_enter Try.func60, Try.ntmps60
 try go_wp2_with (first | ((with_reducible refine gate_dst (N := 1) rfl ?_); refine box_event ?hg (N := 1) ?hd (cs := #[.slice A0_0 l0_0.length c0_0, .slice A0_1 l0_1.length c0_1, .slice A0_2 l0_2.length c0_2]) (t := 53) ?hr ?_; (case hd => rfl); (case hg => rfl); (case hr => first | (go_simp; done) | (go_simp; rfl)); intro gb108 hg w5 hbox hb; have n0_ := Aside0.mk (below_step (qW HB.out) hb); have n1_ := Aside0.mk (hbox); have n2_ := Aside0.mk ((by rw [hg]; exact (below_size (qW HB.out)) : w.heap.size ≤ gb108)); have n3_ := Aside0.mk ((by rw [hg]; exact (below_size (qW HB.out)) : w.heap.size ≤ gb108)); clear HB; have HB := n0_; have BK108 := n1_; have GW108 := n2_; have GE108 := n3_; clear n0_ n1_ n2_ n3_; clear hb hbox hg) | ((with_reducible refine gate_dst (N := 2) rfl ?_); refine box_event ?hg (N := 2) ?hd (cs := #[.slice none 0 0, .slice none 0 0, .slice none 0 0]) (t := 53) ?hr ?_; (case hd => rfl); (case hg => rfl); (case hr => first | (go_simp; done) | (go_simp; rfl)); intro gb109 hg w6 hbox hb; have n0_ := Aside0.mk (blk_below (qb BK108.out) hb); have n1_ := Aside0.mk (below_step (qW HB.out) hb); have n2_ := Aside0.mk (hbox); have n3_ := Aside0.mk ((by rw [hg]; exact (below_size (qW HB.out)) : w.heap.size ≤ gb109)); have n4_ := Aside0.mk ((by rw [hg]; exact (below_size (qW HB.out)) : w.heap.size ≤ gb109)); have n5_ := Aside0.mk ((by rw [hg]; exact Nat.ne_of_lt (blk_lt (qb BK108.out)) : gb108 ≠ gb109)); have n6_ := Aside0.mk ((by rw [hg]; exact Nat.ne_of_gt (blk_lt (qb BK108.out)) : gb109 ≠ gb108)); clear BK108 HB; have BK108 := n0_; have HB := n1_; have BK109 := n2_; have GW109 := n3_; have GE109 := n4_; have NB108_109 := n5_; have NB109_108 := n6_; clear n0_ n1_ n2_ n3_ n4_ n5_ n6_; clear hb hbox hg))
 have n0_ := Aside0.mk (blk_drew BK108.out)
 have n1_ := Aside0.mk (blk_drew BK109.out)
 have n2_ := Aside0.mk (below_drew1 HB.out)
 clear BK108
 clear BK109
 clear HB
 have BK108 := n0_
 have BK109 := n1_
 have HB := n2_
 clear n0_ n1_ n2_
 refine start_ (n := 11) (S := fun w' => w'.cell? ⟨gb108, 0, none⟩ = some (.slice A0_0 l0_0.length c0_0) ∧ w'.cell? ⟨gb108, 1, none⟩ = some (.slice A0_1 l0_1.length c0_1) ∧ w'.cell? ⟨gb108, 2, none⟩ = some (.slice A0_2 l0_2.length c0_2)) (ds := []) #[false, false, false, false, false, false, false, false, false, false, false] (by kernel_rfl) rfl rfl ⟨(blk_cell BK108.out 0).trans rfl, (blk_cell BK108.out 1).trans rfl, (blk_cell BK108.out 2).trans rfl⟩ (fun hHeld => ?_); refine with_tabW shape_copied.tab1 shape_copied.bits1 (fun HT_ HW_ => ?_)
 generalize w6.drew = w7 at BK108 BK109 HB hHeld ⊢
 refine pure_ (i := 0) (N := some 3) (v := ?_) (a' := ?_) #[true, false, false, false, false, false, false, false, false, false, false] rfl rfl (any_of HT_.out (by kernel_rfl)) (fun _ _ _ h => h) (Or.inl ⟨by rfl, ?_⟩) ?_ ?_
 rotate_left
 ·intro w'
  go_simp
  with_reducible rfl
 rotate_left
 ·simp only [Act.put, List.setIfInBounds_toArray, List.set_cons_zero, List.set_cons_succ, i64_w, i32_w]
  rfl
 refine pure_ (i := 3) (N := some 6) (v := ?_) (a' := ?_) #[true, false, false, true, false, false, false, false, false, false, false] rfl rfl (any_of HT_.out (by kernel_rfl)) (fun _ _ _ h => h) (Or.inl ⟨by rfl, ?_⟩) ?_ ?_
 rotate_left
 ·intro w'
  go_simp
  with_reducible rfl
 rotate_left
 ·simp only [Act.put, List.setIfInBounds_toArray, List.set_cons_zero, List.set_cons_succ, i64_w, i32_w]
  rfl
 refine pure_ (i := 6) (N := some 9) (v := ?_) (a' := ?_) #[true, false, false, true, false, false, true, false, false, false, false] rfl rfl (any_of HT_.out (by kernel_rfl)) (fun _ _ _ h => h) (Or.inl ⟨by rfl, ?_⟩) ?_ ?_
 rotate_left
 ·intro w'
  go_simp
  with_reducible rfl
 rotate_left
 ·simp only [Act.put, List.setIfInBounds_toArray, List.set_cons_zero, List.set_cons_succ, i64_w, i32_w]
  rfl
 refine take_ (i := 1) (N := some 4) (v := ?_) (a' := ?_) #[true, true, false, true, false, false, true, false, false, false, false] rfl rfl (take_ofW HT_.out HW_.out (by kernel_rfl)) (fun _ _ _ h => h) (Or.inl ⟨by rfl, ?_⟩) hHeld ?_ ?_
 rotate_left
 ·rintro w' ⟨s0, s1, s2⟩
  go_simp
  with_reducible rfl
 rotate_left
 ·simp only [Act.put, List.setIfInBounds_toArray, List.set_cons_zero, List.set_cons_succ, i64_w, i32_w]
  rfl
 refine take_ (i := 4) (N := some 7) (v := ?_) (a' := ?_) #[true, true, false, true, true, false, true, false, false, false, false] rfl rfl (take_ofW HT_.out HW_.out (by kernel_rfl)) (fun _ _ _ h => h) (Or.inl ⟨by rfl, ?_⟩) hHeld ?_ ?_
 rotate_left
 ·rintro w' ⟨s0, s1, s2⟩
  go_simp
  with_reducible rfl
 rotate_left
 ·simp only [Act.put, List.setIfInBounds_toArray, List.set_cons_zero, List.set_cons_succ, i64_w, i32_w]
  rfl
 refine take_ (i := 7) (N := some 10) (v := ?_) (a' := ?_) #[true, true, false, true, true, false, true, true, false, false, false] rfl rfl (take_ofW HT_.out HW_.out (by kernel_rfl)) (fun _ _ _ h => h) (Or.inl ⟨by rfl, ?_⟩) hHeld ?_ ?_
 rotate_left
 ·rintro w' ⟨s0, s1, s2⟩
  go_simp
  with_reducible rfl
 rotate_left
 ·simp only [Act.put, List.setIfInBounds_toArray, List.set_cons_zero, List.set_cons_succ, i64_w, i32_w]
  rfl
 refine one_ (i := 2) (N := some 5) #[true, true, true, true, true, false, true, true, false, false, false] rfl rfl (one_of HT_.out (by kernel_rfl)) (by decide) (fun K hK => ?_)
 refine goes_ Try.func61 (by kernel_rfl) rfl #[.slice A0_0 l0_0.length c0_0] (by rfl) rfl rfl (by (try simp only [List.map_toArray, List.map_cons, List.map_nil]); first | done | rfl | (simp only [List.length_drop, List.length_take]; rfl)) ?_
 with_reducible refine (api_Val.calls _ _ l0_0 t110 _ ?side1 ?side2 A2.out).mono ?_
 (case side1 => exact qC (Kd.C_below HR0_0.out HB.out))
 (case side2 => exact HC0_0.out)
 rintro e w8 ⟨v111, rfl, ho0, hb⟩
 refine ⟨_, rfl, ?_⟩
 have n0_ := Aside0.mk (Kd.R_lower ho0 (below_size (qW HB.out)))
 have n1_ := Aside0.mk (blk_below (qb BK108.out) hb)
 have n2_ := Aside0.mk (blk_below (qb BK109.out) hb)
 have n3_ := Aside0.mk (below_step (qW HB.out) hb)
 clear BK108
 clear BK109
 clear HB
 have HO112 := n0_
 have BK108 := n1_
 have BK109 := n2_
 have HB := n3_
 clear n0_ n1_ n2_ n3_
 (try clear hb)
 (try clear hb2)
 (try clear hk)
 (try clear hi)
 (try clear ho0)
 refine hK.out _ _ ⟨(blk_cell BK108.out 0).trans rfl, (blk_cell BK108.out 1).trans rfl, (blk_cell BK108.out 2).trans rfl⟩ (fun hHeld => ?_)
 clear hK K
 refine norm_ (a' := ?_) ?_ ?_
 rotate_left
 ·show Act.put _ (some 5) _ = _
  simp only [Act.put, List.setIfInBounds_toArray, List.set_cons_zero, List.set_cons_succ, i64_w, i32_w]
  rfl
 refine one_ (i := 5) (N := some 8) #[true, true, true, true, true, true, true, true, false, false, false] rfl rfl (one_of HT_.out (by kernel_rfl)) (by decide) (fun K hK => ?_)
 refine goes_ Try.func61 (by kernel_rfl) rfl #[.slice A0_1 l0_1.length c0_1] (by rfl) rfl rfl (by (try simp only [List.map_toArray, List.map_cons, List.map_nil]); first | done | rfl | (simp only [List.length_drop, List.length_take]; rfl)) ?_
 with_reducible refine (api_Val.calls _ _ l0_1 t113 _ ?side1 ?side2 A3.out).mono ?_
 (case side1 => exact qC (Kd.C_below HR0_1.out HB.out))
 (case side2 => exact HC0_1.out)
 rintro e w9 ⟨v114, rfl, ho0, hb⟩
 refine ⟨_, rfl, ?_⟩
 have n0_ := Aside0.mk (Kd.R_elder' (qR HO112.out) (Kd.R_base ho0) hb)
 have n1_ := Aside0.mk (Kd.R_lower (Kd.R_new' ho0 (Kd.R_lt (qR HO112.out))) (below_size (qW HB.out)))
 have n2_ := Aside0.mk (blk_below (qb BK108.out) hb)
 have n3_ := Aside0.mk (blk_below (qb BK109.out) hb)
 have n4_ := Aside0.mk (below_step (qW HB.out) hb)
 clear HO112
 clear BK108
 clear BK109
 clear HB
 have HO112 := n0_
 have HO115 := n1_
 have BK108 := n2_
 have BK109 := n3_
 have HB := n4_
 clear n0_ n1_ n2_ n3_ n4_
 (try clear hb)
 (try clear hb2)
 (try clear hk)
 (try clear hi)
 (try clear ho0)
 refine hK.out _ _ ⟨(blk_cell BK108.out 0).trans rfl, (blk_cell BK108.out 1).trans rfl, (blk_cell BK108.out 2).trans rfl⟩ (fun hHeld => ?_)
 clear hK K
 refine norm_ (a' := ?_) ?_ ?_
 rotate_left
 ·show Act.put _ (some 8) _ = _
  simp only [Act.put, List.setIfInBounds_toArray, List.set_cons_zero, List.set_cons_succ, i64_w, i32_w]
  rfl
 refine one_ (i := 8) (N := some 11) #[true, true, true, true, true, true, true, true, true, false, false] rfl rfl (one_of HT_.out (by kernel_rfl)) (by decide) (fun K hK => ?_)
 refine goes_ Try.func64 (by kernel_rfl) rfl #[.slice A0_2 l0_2.length c0_2] (by rfl) rfl rfl (by (try simp only [List.map_toArray, List.map_cons, List.map_nil]); first | done | rfl | (simp only [List.length_drop, List.length_take]; rfl)) ?_
 with_reducible refine (slices_Clone_int_int.calls _ _ l0_2 t116 _ ?side1 ?side2 A4.out).mono ?_
 (case side1 => exact qC (Kd.C_below HR0_2.out HB.out))
 (case side2 => exact HC0_2.out)
 rintro e w10 ⟨v117, rfl, ho0, hb⟩
 refine ⟨_, rfl, ?_⟩
 have n0_ := Aside0.mk (Kd.R_below (qR HO112.out) hb)
 have n1_ := Aside0.mk (Kd.R_below (qR HO115.out) hb)
 have n2_ := Aside0.mk (Kd.R_lower ho0 (below_size (qW HB.out)))
 have n3_ := Aside0.mk (blk_below (qb BK108.out) hb)
 have n4_ := Aside0.mk (blk_below (qb BK109.out) hb)
 have n5_ := Aside0.mk (below_step (qW HB.out) hb)
 clear HO112
 clear HO115
 clear BK108
 clear BK109
 clear HB
 have HO112 := n0_
 have HO115 := n1_
 have HO118 := n2_
 have BK108 := n3_
 have BK109 := n4_
 have HB := n5_
 clear n0_ n1_ n2_ n3_ n4_ n5_
 (try clear hb)
 (try clear hb2)
 (try clear hk)
 (try clear hi)
 (try clear ho0)
 obtain ⟨Ao11, co11, eo11⟩ := Kd.R_slice HO118.out
 (first | subst eo11 | (injection eo11 with f1_ f2_ f3_; have f4_ := f1_.symm; have f5_ := f3_.symm; clear f1_ f2_ f3_; subst f4_; subst f5_))
 obtain ⟨Ao12, co12, eo12⟩ := Kd.R_slice HO115.out
 (first | subst eo12 | (injection eo12 with f1_ f2_ f3_; have f4_ := f1_.symm; have f5_ := f3_.symm; clear f1_ f2_ f3_; subst f4_; subst f5_))
 obtain ⟨Ao13, co13, eo13⟩ := Kd.R_slice HO112.out
 (first | subst eo13 | (injection eo13 with f1_ f2_ f3_; have f4_ := f1_.symm; have f5_ := f3_.symm; clear f1_ f2_ f3_; subst f4_; subst f5_))
 refine hK.out _ _ ⟨(blk_cell BK108.out 0).trans rfl, (blk_cell BK108.out 1).trans rfl, (blk_cell BK108.out 2).trans rfl⟩ (fun hHeld => ?_)
 clear hK K
 refine norm_ (a' := ?_) ?_ ?_
 rotate_left
 ·show Act.put _ (some 11) _ = _
  simp only [Act.put, List.setIfInBounds_toArray, List.set_cons_zero, List.set_cons_succ, i64_w, i32_w]
  rfl
 refine pure_ (i := 9) (N := some 12) (v := ?_) (a' := ?_) #[true, true, true, true, true, true, true, true, true, true, false] rfl rfl (any_of HT_.out (by kernel_rfl)) (fun _ _ _ h => h) (Or.inl ⟨by rfl, ?_⟩) ?_ ?_
 rotate_left
 ·intro w'
  go_simp
  with_reducible rfl
 rotate_left
 ·simp only [Act.put, List.setIfInBounds_toArray, List.set_cons_zero, List.set_cons_succ, i64_w, i32_w]
  rfl
 refine one_ (i := 10) (N := none) #[true, true, true, true, true, true, true, true, true, true, true] rfl rfl (one_of HT_.out (by kernel_rfl)) (by decide) (fun K hK => ?_)
 have hs14 : w10.cell? ⟨gb109, 0, none⟩ = some (.slice none 0 0) := (blk_cell BK109.out 0).trans rfl
 have hfs14 := blk_frozen BK109.out 0
 have hns14_0 := NB108_109.out
 have hms14_0 := NB109_108.out
 have hs15 : w10.cell? ⟨gb109, 1, none⟩ = some (.slice none 0 0) := (blk_cell BK109.out 1).trans rfl
 have hfs15 := blk_frozen BK109.out 1
 have hns15_0 := NB108_109.out
 have hms15_0 := NB109_108.out
 have hs16 : w10.cell? ⟨gb109, 2, none⟩ = some (.slice none 0 0) := (blk_cell BK109.out 2).trans rfl
 have hfs16 := blk_frozen BK109.out 2
 have hns16_0 := NB108_109.out
 have hms16_0 := NB109_108.out
 refine skip_ (w1 := ?_) (by rfl) rfl ?_ ?_
 rotate_left
 ·go_simp
  rfl
 refine hK.out _ _ ⟨((cell_far (p := ⟨gb109, _, none⟩) NB108_109.out _).trans (((cell_far (p := ⟨gb109, _, none⟩) NB108_109.out _).trans (((cell_far (p := ⟨gb109, _, none⟩) NB108_109.out _).trans (hHeld.1)))))), ((cell_far (p := ⟨gb109, _, none⟩) NB108_109.out _).trans (((cell_far (p := ⟨gb109, _, none⟩) NB108_109.out _).trans (((cell_far (p := ⟨gb109, _, none⟩) NB108_109.out _).trans (hHeld.2.1)))))), ((cell_far (p := ⟨gb109, _, none⟩) NB108_109.out _).trans (((cell_far (p := ⟨gb109, _, none⟩) NB108_109.out _).trans (((cell_far (p := ⟨gb109, _, none⟩) NB108_109.out _).trans (hHeld.2.2))))))⟩ (fun hHeld => ?_)
 clear hK K
 refine done_ (done_of HT_.out (by kernel_rfl)) ?_
 try go_wp2
 refine bodyPost_ret (results_cell_row rfl _ _ gb109 53 #[.slice Ao13 t110.length co13, .slice Ao12 t113.length co12, .slice Ao11 t116.length co11] (0, 0) _ rfl (by (with_reducible repeat (first | refine blk_drewN ?_ _ | refine blk_drew ?_ | refine blk_alloc ?_ _)); refine blk_put (cs := #[.slice Ao13 t110.length co13, .slice Ao12 t113.length co12, .slice none 0 0]) ?_ 2 _ rfl; (with_reducible repeat (first | refine blk_drewN ?_ _ | refine blk_drew ?_ | refine blk_alloc ?_ _)); refine blk_put (cs := #[.slice Ao13 t110.length co13, .slice none 0 0, .slice none 0 0]) ?_ 1 _ rfl; (with_reducible repeat (first | refine blk_drewN ?_ _ | refine blk_drew ?_ | refine blk_alloc ?_ _)); refine blk_put (cs := #[.slice none 0 0, .slice none 0 0, .slice none 0 0]) ?_ 0 _ rfl; (with_reducible repeat (first | refine blk_drewN ?_ _ | refine blk_drew ?_ | refine blk_alloc ?_ _)); exact BK109.out) Try.underlying53 rfl (by kernel_rfl)) rfl ?_
 exact ⟨_, _, _, by first | rfl | (simp [errW_none, errW_some] <;> rfl) | (simp [*, errW_none, errW_some] <;> rfl), by (with_reducible repeat (first | apply Kd.R_alloc | apply Kd.R_drewN | apply Kd.R_drew)); exact Kd.R_mono (Kd.R_far (p := ⟨gb109, 2, none⟩) (Kd.R_far (p := ⟨gb109, 1, none⟩) (Kd.R_far (p := ⟨gb109, 0, none⟩) (Kd.R_types HO112.out BK109.out (by decide)) (fun _ hk => hk.2) (.slice Ao13 t110.length co13)) (fun _ hk => hk.2) (.slice Ao12 t113.length co12)) (fun _ hk => hk.2) (.slice Ao11 t116.length co11)) (fun _ hk => hk.1.2), by (with_reducible repeat (first | apply Kd.R_alloc | apply Kd.R_drewN | apply Kd.R_drew)); exact Kd.R_mono (Kd.R_far (p := ⟨gb109, 2, none⟩) (Kd.R_far (p := ⟨gb109, 1, none⟩) (Kd.R_far (p := ⟨gb109, 0, none⟩) (Kd.R_types HO115.out BK109.out (by decide)) (fun _ hk => hk.2) (.slice Ao13 t110.length co13)) (fun _ hk => hk.2) (.slice Ao12 t113.length co12)) (fun _ hk => hk.2) (.slice Ao11 t116.length co11)) (fun _ hk => hk.1.2), by (with_reducible repeat (first | apply Kd.R_alloc | apply Kd.R_drewN | apply Kd.R_drew)); exact Kd.R_mono (Kd.R_far (p := ⟨gb109, 2, none⟩) (Kd.R_far (p := ⟨gb109, 1, none⟩) (Kd.R_far (p := ⟨gb109, 0, none⟩) (Kd.R_types HO118.out BK109.out (by decide)) (fun _ hk => hk.2) (.slice Ao13 t110.length co13)) (fun _ hk => hk.2) (.slice Ao12 t113.length co12)) (fun _ hk => hk.2) (.slice Ao11 t116.length co11)) (fun _ hk => trivial), by repeat (first | (with_reducible first | exact HB.out | apply below_alloc | apply pw_below_drewN | apply below_drew1 | refine below_set ?_ GE108.out | refine below_set ?_ GE109.out) | exact HB.out)⟩

/-! ### shape_Push: function 20 -/
theorem v_cap {α : Type} {d : Kd α} {e : Nat} {W : World} {base base' : Nat} {ok : Nat → Prop} {A : Option Addr} {n c c' : Nat} {xs : List α} (h : Kd.R d e W base ok (.slice A n c) xs) (hc : n ≤ c') : Kd.V d e W base' ok (.slice A n c') xs := by
 obtain ⟨h1, _, h3⟩ := Kd.V_at (Kd.R_V (base' := 0) h)
 subst h1
 exact Kd.V_mk hc h3
theorem k56_KM {w w' : World} {base : Nat} {ok : Nat → Prop} {x : S56} {cs : List Value} (h : k56.K w x cs) : k56.M w' base ok x cs := by
 obtain rfl := k56_open h
 exact k56_mkM _ _ _ x
set_option maxHeartbeats 8000000 in
set_option maxRecDepth 100000 in
theorem push_ok (A0_0 : Option Addr) (c0_0 : Nat) (l0_0 : List (S56)) (A0_1 : Option Addr) (c0_1 : Nat) (l0_1 : List (S56)) (A0_2 : Option Addr) (c0_2 : Nat) (l0_2 : List Int) (a1 : Int) (A2 : Option Addr) (c2 : Nat) (l2 : List (S56)) (r1 : List (S56)) (r2 : List (S56)) (r3 : List Int) (w : World) (hr0_0 : Kd.C k56 w A0_0 l0_0.length l0_0) (hc0_0 : l0_0.length ≤ c0_0) (hr0_1 : Kd.C k56 w A0_1 l0_1.length l0_1) (hc0_1 : l0_1.length ≤ c0_1) (hr0_2 : Kd.C (Kd.int .i64) w A0_2 l0_2.length l0_2) (hc0_2 : l0_2.length ≤ c0_2) (hr2 : Kd.C k56 w A2 l2.length l2)
  (b1 : decide (a1 < (l0_1.length : Int)) = false) (b2 : decide ((wrap64 (a1 - (l0_1.length : Int))) < (l2.length : Int)) = false) (A16 : shape_copied.f l0_0 l0_1 l0_2 = some (r1, r2, r3)) (hl : r2.length + l2.length < 8796093022208) :
  Calls Try.prog 20 #[.agg #[.slice A0_0 l0_0.length c0_0, .slice A0_1 l0_1.length c0_1, .slice A0_2 l0_2.length c0_2], .int .i64 a1, .slice A2 l2.length c2] w fun e w' => ∃ v0_ v1_ v2_ : Value, e = .returned (.tuple #[.agg #[v0_, v1_, v2_], .int .i64 0]) ∧ Kd.R k56 56 w' w.heap.size (fun k_ => (w.heap.size ≤ k_)) v0_ r1 ∧ Kd.V k56 56 w' w.heap.size (fun k_ => (w.heap.size ≤ k_) ∧ some k_ ≠ (v0_ : Value).ownBlock ∧ some k_ ≠ (v2_ : Value).ownBlock) v1_ (r2 ++ l2) ∧ Kd.R (Kd.int .i64) 3 w' w.heap.size (fun k_ => (w.heap.size ≤ k_)) v2_ r3 ∧ Below w.heap.size w w' := by
 have H1 := Aside0.mk hr0_0
 have H2 := Aside0.mk hr0_1
 have H3 := Aside0.mk hr0_2
 have H4 := Aside0.mk hr2
 have G1 := Aside0.mk hc0_0
 have G2 := Aside0.mk hc0_1
 have G3 := Aside0.mk hc0_2
 have A17 := Aside0.mk A16
 have L1 := Aside0.mk hl
 clear hr0_0 hr0_1 hr0_2 hr2 hc0_0 hc0_1 hc0_2 A16 hl
 go_enter Try.func20, Try.ntmps20
 go_wp2_with (fail)
 refine (shape_copied.calls _ _ l0_0 _ _ l0_1 _ _ l0_2 r1 r2 r3 _ (Kd.C_alloc (Kd.C_alloc H1.out _) _) G1.out (Kd.C_alloc (Kd.C_alloc H2.out _) _) G2.out (Kd.C_alloc (Kd.C_alloc H3.out _) _) G3.out A17.out).mono ?_
 rintro e w3 ⟨v0, v1, v2, rfl, ho0, ho1, ho2, hb⟩
 obtain ⟨B0, d0, rfl⟩ := Kd.R_slice ho0
 obtain ⟨B1, d1, rfl⟩ := Kd.R_slice ho1
 obtain ⟨B2, d2, rfl⟩ := Kd.R_slice ho2
 have hd1 := (Kd.R_reads' ho1).2.1
 have hz := hb.size
 simp at hz
 have bs : w3.heap[w.heap.size]? = some (.cells #[.slice A0_0 l0_0.length c0_0, .slice A0_1 l0_1.length c0_1, .slice A0_2 l0_2.length c0_2] 53 (0, 0)) := blk_below (blk_alloc (blk_new _ _) _) hb
 have br : w3.heap[w.heap.size + 1]? = some (.cells #[.slice none 0 0, .slice none 0 0, .slice none 0 0] 53 (0, 0)) := blk_below (by have := blk_new (w.alloc (.cells #[.slice A0_0 l0_0.length c0_0, .slice A0_1 l0_1.length c0_1, .slice A0_2 l0_2.length c0_2] 53)) (.cells #[.slice none 0 0, .slice none 0 0, .slice none 0 0] 53 (0, 0)); simpa using this) hb
 have BR := Aside0.mk br
 have V1 : Aside0 (Kd.V k56 56 w3 w.heap.size (fun k_ => ((w.heap.size ≤ k_) ∧ some k_ ≠ (.slice B0 r1.length d0 : Value).ownBlock ∧ some k_ ≠ (.slice B2 r3.length d2 : Value).ownBlock) ∧ k_ ≠ w.heap.size + 1 ∧ k_ ≠ w3.heap.size) (.slice B1 r2.length r2.length) r2) :=
  ⟨v_cap (Kd.R_mono (Kd.R_bound (Kd.R_types (Kd.R_apartR ho1 ho2 (by decide)) br (by decide))) (fun k hk => ⟨⟨by have := hk.2.1; simp at this; omega, hk.1.1.1, hk.1.1.2⟩, hk.1.2, by have := hk.2.2.1; omega⟩)) (Nat.le_refl _)⟩
 have HO0 := Aside0.mk (Kd.R_mono (Kd.R_bound (Kd.R_types ho0 br (by decide))) (ok' := fun k => w.heap.size ≤ k ∧ k ≠ w.heap.size + 1 ∧ k ≠ w3.heap.size) (fun k hk => ⟨by have := hk.2.1; simp at this; omega, hk.1.2, by have := hk.2.2.1; omega⟩))
 have HO2 := Aside0.mk (Kd.R_mono (Kd.R_bound (Kd.R_types ho2 br (by decide))) (ok' := fun k => w.heap.size ≤ k ∧ k ≠ w.heap.size + 1 ∧ k ≠ w3.heap.size) (fun k hk => ⟨by have := hk.2.1; simp at this; omega, hk.1.2, by have := hk.2.2.1; omega⟩))
 have F0 := Aside0.mk (Kd.R_lt ho0)
 have F2 := Aside0.mk (Kd.R_lt ho2)
 have HT : Aside0 (Below w.heap.size w w3) := ⟨((((Below.refl _ _).alloc (Nat.le_refl _) _).alloc (by simp) _).trans (hb.mono (by simp; omega)))⟩
 have s0 : w3.cell? ⟨w.heap.size, 0, none⟩ = some (.slice A0_0 l0_0.length c0_0) := (blk_cell bs 0).trans rfl
 have s1 : w3.cell? ⟨w.heap.size, 1, none⟩ = some (.slice A0_1 l0_1.length c0_1) := (blk_cell bs 1).trans rfl
 have s2 : w3.cell? ⟨w.heap.size, 2, none⟩ = some (.slice A0_2 l0_2.length c0_2) := (blk_cell bs 2).trans rfl
 clear bs br
 clear ho0 ho1 ho2 hb
 have HZ := Aside0.mk hz
 go_wp2_with (first | (at_builtin; refine Full.append_full k56 k56_KM (w0 := w) w.heap.size rfl (.tmp 35) (.tmp 36) 50 56 (.agg #[(.int .u8 0), (.int .u8 0), (.int .u16 0), (.int .i64 0)]) 16 rfl Try.underlying50 info56 rfl (by decide) (by decide) B1 A2 r2.length l2.length c2 r2 l2 (fun k_ => ((w.heap.size ≤ k_) ∧ some k_ ≠ (.slice B0 r1.length d0 : Value).ownBlock ∧ some k_ ≠ (.slice B2 r3.length d2 : Value).ownBlock) ∧ k_ ≠ w.heap.size + 1 ∧ k_ ≠ w3.heap.size) rfl rfl ?hV ?hR ?hF ?hB ?hS ?hL ?_; (case hV => exact Kd.V_alloc V1.out _); (case hR => exact Kd.C_below H4.out (HT.out.alloc (by have := HZ.out; omega) _)); (case hB => exact HT.out.alloc (by have := HZ.out; omega) _); (case hS => simp; have := HZ.out; omega); (case hL => have := L1.out; omega); (case hF => intro k hk; simp at hk; have := HZ.out; exact ⟨⟨by omega, fun e => by have := F0.out k e.symm; omega, fun e => by have := F2.out k e.symm; omega⟩, by omega, by omega⟩)) | fail)
 intro v1 w5 hv1 hb5 hg5
 have hz := HZ.out
 obtain ⟨A5, c5, rfl⟩ := Kd.V_slice hv1
 have hne : w.heap.size + 1 ≠ w3.heap.size := by omega
 have br := blk_grown (blk_alloc BR.out _) hg5 (by simp)
 have bn := blk_grown (blk_new _ _) hg5 (by simp)
 have HN := Aside0.mk hne
 have HO0' := Aside0.mk (Kd.R_grown (Kd.R_alloc HO0.out _) hg5 (fun k _ => by simp))
 have HO2' := Aside0.mk (Kd.R_grown (Kd.R_alloc HO2.out _) hg5 (fun k _ => by simp))
 have n0 : w5.cell? ⟨w3.heap.size, 0, none⟩ = some (.slice B0 r1.length d0) := (blk_cell bn 0).trans rfl
 have n1 : w5.cell? ⟨w3.heap.size, 1, none⟩ = some (.slice B1 r2.length d1) := (blk_cell bn 1).trans rfl
 have n2 : w5.cell? ⟨w3.heap.size, 2, none⟩ = some (.slice B2 r3.length d2) := (blk_cell bn 2).trans rfl
 have n3 := blk_frozen bn 1
 have m0 : w5.cell? ⟨w.heap.size + 1, 0, none⟩ = some (.slice none 0 0) := (blk_cell br 0).trans rfl
 have m1 : w5.cell? ⟨w.heap.size + 1, 1, none⟩ = some (.slice none 0 0) := (blk_cell br 1).trans rfl
 have m2 : w5.cell? ⟨w.heap.size + 1, 2, none⟩ = some (.slice none 0 0) := (blk_cell br 2).trans rfl
 have o0 := blk_frozen br 0
 have o1 := blk_frozen br 1
 have o2 := blk_frozen br 2
 have BR5 := Aside0.mk br
 have HV1 := Aside0.mk hv1
 have HB5 := Aside0.mk hb5
 clear hg5 br bn hv1 hb5
 go_wp2_with (fail)
 have hlen : (r2 ++ l2).length = r2.length + l2.length := List.length_append
 have hv := HV1.out
 rw [hlen] at hv
 have b0 := blk_far (p := ⟨w3.heap.size, 1, none⟩) BR5.out HN.out (.slice A5 (r2.length + l2.length) c5)
 have b1 := blk_put b0 0 (.slice B0 r1.length d0) rfl
 have b2 := blk_put b1 1 (.slice A5 (r2.length + l2.length) c5) rfl
 have b3 := blk_put b2 2 (.slice B2 r3.length d2) rfl
 have e0 := blk_cell b3 0
 have e1 := blk_cell b3 1
 have e2 := blk_cell b3 2
 have f0 := Kd.R_far (p := ⟨w.heap.size + 1, 2, none⟩) (Kd.R_far (p := ⟨w.heap.size + 1, 1, none⟩) (Kd.R_far (p := ⟨w.heap.size + 1, 0, none⟩) (Kd.R_far (p := ⟨w3.heap.size, 1, none⟩) HO0'.out (fun _ hk => hk.2.2) (.slice A5 (r2.length + l2.length) c5)) (fun _ hk => hk.2.1) (.slice B0 r1.length d0)) (fun _ hk => hk.2.1) (.slice A5 (r2.length + l2.length) c5)) (fun _ hk => hk.2.1) (.slice B2 r3.length d2)
 have f2 := Kd.R_far (p := ⟨w.heap.size + 1, 2, none⟩) (Kd.R_far (p := ⟨w.heap.size + 1, 1, none⟩) (Kd.R_far (p := ⟨w.heap.size + 1, 0, none⟩) (Kd.R_far (p := ⟨w3.heap.size, 1, none⟩) HO2'.out (fun _ hk => hk.2.2) (.slice A5 (r2.length + l2.length) c5)) (fun _ hk => hk.2.1) (.slice B0 r1.length d0)) (fun _ hk => hk.2.1) (.slice A5 (r2.length + l2.length) c5)) (fun _ hk => hk.2.1) (.slice B2 r3.length d2)
 have f1 := Kd.V_far (p := ⟨w.heap.size + 1, 2, none⟩) (Kd.V_far (p := ⟨w.heap.size + 1, 1, none⟩) (Kd.V_far (p := ⟨w.heap.size + 1, 0, none⟩) (Kd.V_far (p := ⟨w3.heap.size, 1, none⟩) hv (fun _ hk => hk.2.2) (.slice A5 (r2.length + l2.length) c5)) (fun _ hk => hk.2.1) (.slice B0 r1.length d0)) (fun _ hk => hk.2.1) (.slice A5 (r2.length + l2.length) c5)) (fun _ hk => hk.2.1) (.slice B2 r3.length d2)
 have hz := HZ.out
 refine bodyPost_ret (v := .tuple #[.agg #[.slice B0 r1.length d0, (.slice A5 (r2.length + l2.length) c5), .slice B2 r3.length d2], .int .i64 0]) (by simp at e0 e1 e2; simp [results, Try.results20, go_sem, e0, e1, e2]) rfl ⟨_, _, _, rfl, Kd.R_lower (Kd.R_mono f0 (fun _ hk => hk.1)) (by simp; omega), Kd.V_mono f1 (fun _ hk => hk.1), Kd.R_lower (Kd.R_mono f2 (fun _ hk => hk.1)) (by simp; omega), ?_⟩
 exact (((HB5.out.setCell (by simp; omega) _).setCell (by simp) _).setCell (by simp) _).setCell (by simp) _
def shape_Push.f (l0_0 : List (S56)) (l0_1 : List (S56)) (l0_2 : List Int) (a1 : Int) (l2 : List (S56)) : Option ((List (S56)) × (List (S56)) × List Int × Int) := if (l0_1.length : Int) > a1 then (some (([] : List (S56)), ([] : List (S56)), ([] : List Int), 9)) else (if (l2.length : Int) > (wrap64 (a1 - (l0_1.length : Int))) then (some (([] : List (S56)), ([] : List (S56)), ([] : List Int), 9)) else ((shape_copied.f l0_0 l0_1 l0_2).bind fun bt121 => (if 0 ≤ (bt121.2.1.length : Int) then (if (bt121.2.1.length : Int) ≤ (bt121.2.1.length : Int) then ((some (bt121.2.1.take ((bt121.2.1.length : Int) : Int).toNat : List (S56))).bind fun y131 => (if y131.length + l2.length < 8796093022208 then (some (bt121.1, (y131 ++ l2), bt121.2.2, 0)) else (none))) else (none)) else (none))))
set_option maxHeartbeats 8000000 in
set_option maxRecDepth 100000 in
theorem shape_Push.calls (A0_0 : Option Addr) (c0_0 : Nat) (l0_0 : List (S56)) (A0_1 : Option Addr) (c0_1 : Nat) (l0_1 : List (S56)) (A0_2 : Option Addr) (c0_2 : Nat) (l0_2 : List Int) (a1 : Int) (A2 : Option Addr) (c2 : Nat) (l2 : List (S56)) (r1 : List (S56)) (r2 : List (S56)) (r3 : List Int) (r4 : Int) (w : World) (hr0_0 : Kd.C k56 w A0_0 l0_0.length l0_0) (hc0_0 : l0_0.length ≤ c0_0) (hr0_1 : Kd.C k56 w A0_1 l0_1.length l0_1) (hc0_1 : l0_1.length ≤ c0_1) (hr0_2 : Kd.C (Kd.int .i64) w A0_2 l0_2.length l0_2) (hc0_2 : l0_2.length ≤ c0_2) (hr2 : Kd.C k56 w A2 l2.length l2) (hc2 : l2.length ≤ c2) (h : shape_Push.f l0_0 l0_1 l0_2 a1 l2 = some (r1, r2, r3, r4)) :
  Calls Try.prog 20 #[.agg #[.slice A0_0 l0_0.length c0_0, .slice A0_1 l0_1.length c0_1, .slice A0_2 l0_2.length c0_2], .int .i64 a1, .slice A2 l2.length c2] w fun e w' => ∃ v0_ v1_ v2_ : Value, e = .returned (.tuple #[.agg #[v0_, v1_, v2_], .int .i64 r4]) ∧ Kd.R k56 56 w' w.heap.size (fun k_ => (w.heap.size ≤ k_)) v0_ r1 ∧ Kd.V k56 56 w' w.heap.size (fun k_ => (w.heap.size ≤ k_) ∧ some k_ ≠ (v0_ : Value).ownBlock ∧ some k_ ≠ (v2_ : Value).ownBlock) v1_ r2 ∧ Kd.R (Kd.int .i64) 3 w' w.heap.size (fun k_ => (w.heap.size ≤ k_)) v2_ r3 ∧ Below w.heap.size w w' := by
 have hu53 := Try.underlying53
 have HR0_0 := Aside0.mk hr0_0
 have HC0_0 := Aside0.mk hc0_0
 clear hr0_0 hc0_0
 have HR0_1 := Aside0.mk hr0_1
 have HC0_1 := Aside0.mk hc0_1
 clear hr0_1 hc0_1
 have HR0_2 := Aside0.mk hr0_2
 have HC0_2 := Aside0.mk hc0_2
 clear hr0_2 hc0_2
 have HR2 := Aside0.mk hr2
 have HC2 := Aside0.mk hc2
 clear hr2 hc2
 have HB := Aside0.mk (Below.refl w.heap.size w)
 have H : (if (l0_1.length : Int) > a1 then (some (([] : List (S56)), ([] : List (S56)), ([] : List Int), 9)) else (if (l2.length : Int) > (wrap64 (a1 - (l0_1.length : Int))) then (some (([] : List (S56)), ([] : List (S56)), ([] : List Int), 9)) else ((shape_copied.f l0_0 l0_1 l0_2).bind fun bt121 => (if 0 ≤ (bt121.2.1.length : Int) then (if (bt121.2.1.length : Int) ≤ (bt121.2.1.length : Int) then ((some (bt121.2.1.take ((bt121.2.1.length : Int) : Int).toNat : List (S56))).bind fun y131 => (if y131.length + l2.length < 8796093022208 then (some (bt121.1, (y131 ++ l2), bt121.2.2, 0)) else (none))) else (none)) else (none))))) = some (r1, r2, r3, r4) := h
 clear h
 by_cases c4 : (l0_1.length : Int) > a1
 ·rw [if_pos c4] at H
  have c4b0 : decide (a1 < (l0_1.length : Int)) = true := decide_eq_true c4
  clear c4
  simp only [Option.some.injEq, Prod.mk.injEq] at H
  obtain ⟨rfl, rfl, rfl, rfl⟩ := H
  go_enter Try.func20, Try.ntmps20
  go_wp2_with (first | ((with_reducible refine gate_dst (N := 3) rfl ?_); (try (refine gate_guard (by rfl) ?_; dsimp only)); refine box_event ?hg (N := 3) ?hd (cs := #[.slice A0_0 l0_0.length c0_0, .slice A0_1 l0_1.length c0_1, .slice A0_2 l0_2.length c0_2]) (t := 53) ?hr ?_; (case hd => rfl); (case hg => rfl); (case hr => first | (go_simp; done) | (go_simp; rfl)); intro gb119 hg w5 hbox hb; have n0_ := Aside0.mk (below_step (qW HB.out) hb); have n1_ := Aside0.mk (hbox); have n2_ := Aside0.mk ((by rw [hg]; exact (below_size (qW HB.out)) : w.heap.size ≤ gb119)); have n3_ := Aside0.mk ((by rw [hg]; exact (below_size (qW HB.out)) : w.heap.size ≤ gb119)); clear HB; have HB := n0_; have BK119 := n1_; have GW119 := n2_; have GE119 := n3_; clear n0_ n1_ n2_ n3_; clear hb hbox hg) | ((with_reducible refine gate_dst (N := 6) rfl ?_); (try (refine gate_guard (by rfl) ?_; dsimp only)); refine box_event ?hg (N := 6) ?hd (cs := #[.slice none 0 0, .slice none 0 0, .slice none 0 0]) (t := 53) ?hr ?_; (case hd => rfl); (case hg => rfl); (case hr => first | (go_simp; done) | (go_simp; rfl)); intro gb120 hg w6 hbox hb; have n0_ := Aside0.mk (blk_below (qb BK119.out) hb); have n1_ := Aside0.mk (below_step (qW HB.out) hb); have n2_ := Aside0.mk (hbox); have n3_ := Aside0.mk ((by rw [hg]; exact (below_size (qW HB.out)) : w.heap.size ≤ gb120)); have n4_ := Aside0.mk ((by rw [hg]; exact (below_size (qW HB.out)) : w.heap.size ≤ gb120)); have n5_ := Aside0.mk ((by rw [hg]; exact Nat.ne_of_lt (blk_lt (qb BK119.out)) : gb119 ≠ gb120)); have n6_ := Aside0.mk ((by rw [hg]; exact Nat.ne_of_gt (blk_lt (qb BK119.out)) : gb120 ≠ gb119)); clear BK119 HB; have BK119 := n0_; have HB := n1_; have BK120 := n2_; have GW120 := n3_; have GE120 := n4_; have NB119_120 := n5_; have NB120_119 := n6_; clear n0_ n1_ n2_ n3_ n4_ n5_ n6_; clear hb hbox hg; have hnb7 := NB119_120.out; have hnc7 := NB120_119.out; have hcz8_0 : w6.cell? ⟨gb119, 0, none⟩ = some (.slice A0_0 l0_0.length c0_0) := (blk_cell BK119.out 0).trans rfl; have hcz8_1 : w6.cell? ⟨gb119, 1, none⟩ = some (.slice A0_1 l0_1.length c0_1) := (blk_cell BK119.out 1).trans rfl; have hcz8_2 : w6.cell? ⟨gb119, 2, none⟩ = some (.slice A0_2 l0_2.length c0_2) := (blk_cell BK119.out 2).trans rfl; have hfz8_0 := blk_frozen BK119.out 0; have hfz8_1 := blk_frozen BK119.out 1; have hfz8_2 := blk_frozen BK119.out 2; have hcz9_0 : w6.cell? ⟨gb120, 0, none⟩ = some (.slice none 0 0) := (blk_cell BK120.out 0).trans rfl; have hcz9_1 : w6.cell? ⟨gb120, 1, none⟩ = some (.slice none 0 0) := (blk_cell BK120.out 1).trans rfl; have hcz9_2 : w6.cell? ⟨gb120, 2, none⟩ = some (.slice none 0 0) := (blk_cell BK120.out 2).trans rfl; have hfz9_0 := blk_frozen BK120.out 0; have hfz9_1 := blk_frozen BK120.out 1; have hfz9_2 := blk_frozen BK120.out 2))
  refine bodyPost_ret (results_ct rfl _ _ gb120 53 #[.slice none 0 0, .slice none 0 0, .slice none 0 0] (0, 0) _ rfl (by (with_reducible repeat (first | refine blk_drewN ?_ _ | refine blk_drew ?_ | refine blk_alloc ?_ _)); refine blk_put (cs := #[.slice none 0 0, .slice none 0 0, .slice none 0 0]) ?_ 2 _ rfl; (with_reducible repeat (first | refine blk_drewN ?_ _ | refine blk_drew ?_ | refine blk_alloc ?_ _)); refine blk_put (cs := #[.slice none 0 0, .slice none 0 0, .slice none 0 0]) ?_ 1 _ rfl; (with_reducible repeat (first | refine blk_drewN ?_ _ | refine blk_drew ?_ | refine blk_alloc ?_ _)); refine blk_put (cs := #[.slice none 0 0, .slice none 0 0, .slice none 0 0]) ?_ 0 _ rfl; (with_reducible repeat (first | refine blk_drewN ?_ _ | refine blk_drew ?_ | refine blk_alloc ?_ _)); exact BK120.out) Try.underlying53 rfl (by kernel_rfl)) rfl ?_
  exact ⟨_, _, _, by first | rfl | (simp [errW_none, errW_some] <;> rfl) | (simp [*, errW_none, errW_some] <;> rfl), by first | exact Kd.R_nil _ _ _ _ _ | exact Kd.N_nil _ _ _ _ _ | exact Kd.V_nil _ _ _ _ _ | exact Kd.Q_nil _ _ _ _ _ | exact Kd.S_nil _ _ _ _ _, Kd.V_nil _ _ _ _ _, by first | exact Kd.R_nil _ _ _ _ _ | exact Kd.N_nil _ _ _ _ _ | exact Kd.V_nil _ _ _ _ _ | exact Kd.Q_nil _ _ _ _ _ | exact Kd.S_nil _ _ _ _ _, by repeat (first | (with_reducible first | exact HB.out | apply below_alloc | apply pw_below_drewN | apply below_drew1 | refine below_set ?_ GE119.out | refine below_set ?_ GE120.out) | exact HB.out)⟩
 ·rw [if_neg c4] at H
  have c4b0 : decide (a1 < (l0_1.length : Int)) = false := decide_eq_false c4
  clear c4
  by_cases c10 : (l2.length : Int) > (wrap64 (a1 - (l0_1.length : Int)))
  ·rw [if_pos c10] at H
   have c10b0 : decide ((wrap64 (a1 - (l0_1.length : Int))) < (l2.length : Int)) = true := decide_eq_true c10
   clear c10
   simp only [Option.some.injEq, Prod.mk.injEq] at H
   obtain ⟨rfl, rfl, rfl, rfl⟩ := H
   go_enter Try.func20, Try.ntmps20
   go_wp2_with (first | ((with_reducible refine gate_dst (N := 3) rfl ?_); (try (refine gate_guard (by rfl) ?_; dsimp only)); refine box_event ?hg (N := 3) ?hd (cs := #[.slice A0_0 l0_0.length c0_0, .slice A0_1 l0_1.length c0_1, .slice A0_2 l0_2.length c0_2]) (t := 53) ?hr ?_; (case hd => rfl); (case hg => rfl); (case hr => first | (go_simp; done) | (go_simp; rfl)); intro gb119 hg w11 hbox hb; have n0_ := Aside0.mk (below_step (qW HB.out) hb); have n1_ := Aside0.mk (hbox); have n2_ := Aside0.mk ((by rw [hg]; exact (below_size (qW HB.out)) : w.heap.size ≤ gb119)); have n3_ := Aside0.mk ((by rw [hg]; exact (below_size (qW HB.out)) : w.heap.size ≤ gb119)); clear HB; have HB := n0_; have BK119 := n1_; have GW119 := n2_; have GE119 := n3_; clear n0_ n1_ n2_ n3_; clear hb hbox hg) | ((with_reducible refine gate_dst (N := 6) rfl ?_); (try (refine gate_guard (by rfl) ?_; dsimp only)); refine box_event ?hg (N := 6) ?hd (cs := #[.slice none 0 0, .slice none 0 0, .slice none 0 0]) (t := 53) ?hr ?_; (case hd => rfl); (case hg => rfl); (case hr => first | (go_simp; done) | (go_simp; rfl)); intro gb120 hg w12 hbox hb; have n0_ := Aside0.mk (blk_below (qb BK119.out) hb); have n1_ := Aside0.mk (below_step (qW HB.out) hb); have n2_ := Aside0.mk (hbox); have n3_ := Aside0.mk ((by rw [hg]; exact (below_size (qW HB.out)) : w.heap.size ≤ gb120)); have n4_ := Aside0.mk ((by rw [hg]; exact (below_size (qW HB.out)) : w.heap.size ≤ gb120)); have n5_ := Aside0.mk ((by rw [hg]; exact Nat.ne_of_lt (blk_lt (qb BK119.out)) : gb119 ≠ gb120)); have n6_ := Aside0.mk ((by rw [hg]; exact Nat.ne_of_gt (blk_lt (qb BK119.out)) : gb120 ≠ gb119)); clear BK119 HB; have BK119 := n0_; have HB := n1_; have BK120 := n2_; have GW120 := n3_; have GE120 := n4_; have NB119_120 := n5_; have NB120_119 := n6_; clear n0_ n1_ n2_ n3_ n4_ n5_ n6_; clear hb hbox hg; have hnb13 := NB119_120.out; have hnc13 := NB120_119.out; have hcz14_0 : w12.cell? ⟨gb119, 0, none⟩ = some (.slice A0_0 l0_0.length c0_0) := (blk_cell BK119.out 0).trans rfl; have hcz14_1 : w12.cell? ⟨gb119, 1, none⟩ = some (.slice A0_1 l0_1.length c0_1) := (blk_cell BK119.out 1).trans rfl; have hcz14_2 : w12.cell? ⟨gb119, 2, none⟩ = some (.slice A0_2 l0_2.length c0_2) := (blk_cell BK119.out 2).trans rfl; have hfz14_0 := blk_frozen BK119.out 0; have hfz14_1 := blk_frozen BK119.out 1; have hfz14_2 := blk_frozen BK119.out 2; have hcz15_0 : w12.cell? ⟨gb120, 0, none⟩ = some (.slice none 0 0) := (blk_cell BK120.out 0).trans rfl; have hcz15_1 : w12.cell? ⟨gb120, 1, none⟩ = some (.slice none 0 0) := (blk_cell BK120.out 1).trans rfl; have hcz15_2 : w12.cell? ⟨gb120, 2, none⟩ = some (.slice none 0 0) := (blk_cell BK120.out 2).trans rfl; have hfz15_0 := blk_frozen BK120.out 0; have hfz15_1 := blk_frozen BK120.out 1; have hfz15_2 := blk_frozen BK120.out 2))
   refine bodyPost_ret (results_ct rfl _ _ gb120 53 #[.slice none 0 0, .slice none 0 0, .slice none 0 0] (0, 0) _ rfl (by (with_reducible repeat (first | refine blk_drewN ?_ _ | refine blk_drew ?_ | refine blk_alloc ?_ _)); refine blk_put (cs := #[.slice none 0 0, .slice none 0 0, .slice none 0 0]) ?_ 2 _ rfl; (with_reducible repeat (first | refine blk_drewN ?_ _ | refine blk_drew ?_ | refine blk_alloc ?_ _)); refine blk_put (cs := #[.slice none 0 0, .slice none 0 0, .slice none 0 0]) ?_ 1 _ rfl; (with_reducible repeat (first | refine blk_drewN ?_ _ | refine blk_drew ?_ | refine blk_alloc ?_ _)); refine blk_put (cs := #[.slice none 0 0, .slice none 0 0, .slice none 0 0]) ?_ 0 _ rfl; (with_reducible repeat (first | refine blk_drewN ?_ _ | refine blk_drew ?_ | refine blk_alloc ?_ _)); exact BK120.out) Try.underlying53 rfl (by kernel_rfl)) rfl ?_
   exact ⟨_, _, _, by first | rfl | (simp [errW_none, errW_some] <;> rfl) | (simp [*, errW_none, errW_some] <;> rfl), by first | exact Kd.R_nil _ _ _ _ _ | exact Kd.N_nil _ _ _ _ _ | exact Kd.V_nil _ _ _ _ _ | exact Kd.Q_nil _ _ _ _ _ | exact Kd.S_nil _ _ _ _ _, Kd.V_nil _ _ _ _ _, by first | exact Kd.R_nil _ _ _ _ _ | exact Kd.N_nil _ _ _ _ _ | exact Kd.V_nil _ _ _ _ _ | exact Kd.Q_nil _ _ _ _ _ | exact Kd.S_nil _ _ _ _ _, by repeat (first | (with_reducible first | exact HB.out | apply below_alloc | apply pw_below_drewN | apply below_drew1 | refine below_set ?_ GE119.out | refine below_set ?_ GE120.out) | exact HB.out)⟩
  ·rw [if_neg c10] at H
   have c10b0 : decide ((wrap64 (a1 - (l0_1.length : Int))) < (l2.length : Int)) = false := decide_eq_false c10
   clear c10
   replace H := Option.bind_eq_some_iff.mp H
   obtain ⟨⟨t121, t124, t127⟩, A160, H⟩ := H
   replace H : (if 0 ≤ (t124.length : Int) then (if (t124.length : Int) ≤ (t124.length : Int) then ((some (t124.take ((t124.length : Int) : Int).toNat : List (S56))).bind fun y131 => (if y131.length + l2.length < 8796093022208 then (some (t121, (y131 ++ l2), t127, 0)) else (none))) else (none)) else (none)) = some (r1, r2, r3, r4) := H
   have A16 := Aside0.mk A160
   clear A160
   by_cases c17 : 0 ≤ (t124.length : Int)
   ·rw [if_pos c17] at H
    have c17b0 := eq_true c17
    have c17b1 : decide (0 ≤ (t124.length : Int)) = true := decide_eq_true c17
    clear c17
    by_cases c18 : (t124.length : Int) ≤ (t124.length : Int)
    ·rw [if_pos c18] at H
     have c18b0 := eq_true c18
     have c18b1 : decide ((t124.length : Int) ≤ (t124.length : Int)) = true := decide_eq_true c18
     clear c18
     obtain ⟨y131, hy131⟩ : ∃ y_ : List (S56), y_ = (t124.take ((t124.length : Int) : Int).toNat) := ⟨_, rfl⟩
     replace H : (if y131.length + l2.length < 8796093022208 then (some (t121, (y131 ++ l2), t127, 0)) else (none)) = some (r1, r2, r3, r4) := by first | (rw [hy131]; with_reducible exact H) | (have H2_ := (Option.bind_some _ _).symm.trans H; rw [hy131]; with_reducible exact H2_) | (have H2_ := (Option.bind_some _ _).symm.trans H; with_reducible exact H2_) | with_reducible exact H | (rw [hy131]; exact H) | exact H
     have Ny131 := Aside0.mk hy131
     clear hy131
     by_cases c19 : y131.length + l2.length < 8796093022208
     ·rw [if_pos c19] at H
      have LMc19 := Aside0.mk c19
      clear c19
      obtain ⟨y134, hy134⟩ : ∃ y_ : List (S56), y_ = (y131 ++ l2) := ⟨_, rfl⟩
      replace H : (some (t121, y134, t127, 0)) = some (r1, r2, r3, r4) := by first | (rw [hy134]; with_reducible exact H) | (have H2_ := (Option.bind_some _ _).symm.trans H; rw [hy134]; with_reducible exact H2_) | (have H2_ := (Option.bind_some _ _).symm.trans H; with_reducible exact H2_) | with_reducible exact H | (rw [hy134]; exact H) | exact H
      have Ny134 := Aside0.mk hy134
      clear hy134
      simp only [Option.some.injEq, Prod.mk.injEq] at H
      obtain ⟨rfl, rfl, rfl, rfl⟩ := H
      have e131 : y131 = t124 := by rw [Ny131.out, Int.toNat_natCast, List.take_length]
      rw [Ny134.out, e131]
      exact push_ok _ _ _ _ _ _ _ _ _ _ _ _ _ _ _ _ _ HR0_0.out HC0_0.out HR0_1.out HC0_1.out HR0_2.out HC0_2.out HR2.out c4b0 c10b0 A16.out (by have := LMc19.out; rw [e131] at this; exact this)
     ·rw [if_neg c19] at H
      exact absurd H (by simp)
    ·rw [if_neg c18] at H
     exact absurd H (by simp)
   ·rw [if_neg c17] at H
    exact absurd H (by simp)


/-! ### shape_Get: function 26 -/
def shape_Get.f (l0_0 : List (S56)) (l0_1 : List (S56)) (l0_2 : List Int) (a1 : Int) : Option (Int × Int × Int × Int × Int) := if a1 < 0 then (some (0, 0, 0, 0, 9)) else (if a1 ≥ (l0_0.length : Int) then (some (0, 0, 0, 0, 9)) else (if 0 ≤ a1 then (if a1 < (l0_0.length : Int) then (some ((rd_T56 l0_0 a1).f0, (rd_T56 l0_0 a1).f1.f0, (rd_T56 l0_0 a1).f1.f1, (rd_T56 l0_0 a1).f2, 0)) else (none)) else (none)))
set_option maxHeartbeats 8000000 in
set_option maxRecDepth 100000 in
theorem shape_Get.calls (A0_0 : Option Addr) (c0_0 : Nat) (l0_0 : List (S56)) (A0_1 : Option Addr) (c0_1 : Nat) (l0_1 : List (S56)) (A0_2 : Option Addr) (c0_2 : Nat) (l0_2 : List Int) (a1 : Int) (r1 : Int) (r2 : Int) (r3 : Int) (r4 : Int) (r5 : Int) (w : World) (hr0_0 : Kd.C k56 w A0_0 l0_0.length l0_0) (hc0_0 : l0_0.length ≤ c0_0) (hr0_1 : Kd.C k56 w A0_1 l0_1.length l0_1) (hc0_1 : l0_1.length ≤ c0_1) (hr0_2 : Kd.C (Kd.int .i64) w A0_2 l0_2.length l0_2) (hc0_2 : l0_2.length ≤ c0_2) (h : shape_Get.f l0_0 l0_1 l0_2 a1 = some (r1, r2, r3, r4, r5)) :
  Calls Try.prog 26 #[.agg #[.slice A0_0 l0_0.length c0_0, .slice A0_1 l0_1.length c0_1, .slice A0_2 l0_2.length c0_2], .int .i64 a1] w fun e w' => e = .returned (.tuple #[.agg #[.int .u8 r1, .int .u8 r2, .int .u16 r3, .int .i64 r4], .int .i64 r5]) ∧ Below w.heap.size w w' := by
 have hu53 := Try.underlying53
 have hu56 := Try.underlying56
 have HR0_0 := Aside0.mk hr0_0
 have HC0_0 := Aside0.mk hc0_0
 clear hr0_0 hc0_0
 have HR0_1 := Aside0.mk hr0_1
 have HC0_1 := Aside0.mk hc0_1
 clear hr0_1 hc0_1
 have HR0_2 := Aside0.mk hr0_2
 have HC0_2 := Aside0.mk hc0_2
 clear hr0_2 hc0_2
 have HB := Aside0.mk (Below.refl w.heap.size w)
 have H : (if a1 < 0 then (some (0, 0, 0, 0, 9)) else (if a1 ≥ (l0_0.length : Int) then (some (0, 0, 0, 0, 9)) else (if 0 ≤ a1 then (if a1 < (l0_0.length : Int) then (some ((rd_T56 l0_0 a1).f0, (rd_T56 l0_0 a1).f1.f0, (rd_T56 l0_0 a1).f1.f1, (rd_T56 l0_0 a1).f2, 0)) else (none)) else (none)))) = some (r1, r2, r3, r4, r5) := h
 clear h
 by_cases c3 : a1 < 0
 ·rw [if_pos c3] at H
  have c3b0 : decide (a1 < 0) = true := decide_eq_true c3
  clear c3
  simp only [Option.some.injEq, Prod.mk.injEq] at H
  obtain ⟨rfl, rfl, rfl, rfl, rfl⟩ := H
  go_enter Try.func26, Try.ntmps26
  go_wp2_with (first | ((with_reducible refine gate_dst (N := 2) rfl ?_); (try (refine gate_guard (by rfl) ?_; dsimp only)); refine box_event ?hg (N := 2) ?hd (cs := #[.slice A0_0 l0_0.length c0_0, .slice A0_1 l0_1.length c0_1, .slice A0_2 l0_2.length c0_2]) (t := 53) ?hr ?_; (case hd => rfl); (case hg => rfl); (case hr => first | (go_simp; done) | (go_simp; rfl)); intro gb137 hg w4 hbox hb; have n0_ := Aside0.mk (below_step (qW HB.out) hb); have n1_ := Aside0.mk (hbox); have n2_ := Aside0.mk ((by rw [hg]; exact (below_size (qW HB.out)) : w.heap.size ≤ gb137)); have n3_ := Aside0.mk ((by rw [hg]; exact (below_size (qW HB.out)) : w.heap.size ≤ gb137)); clear HB; have HB := n0_; have BK137 := n1_; have GW137 := n2_; have GE137 := n3_; clear n0_ n1_ n2_ n3_; clear hb hbox hg) | ((with_reducible refine gate_dst (N := 4) rfl ?_); (try (refine gate_guard (by rfl) ?_; dsimp only)); refine box_event ?hg (N := 4) ?hd (cs := #[.int .u8 0, .int .u8 0, .int .u16 0, .int .i64 0]) (t := 56) ?hr ?_; (case hd => rfl); (case hg => rfl); (case hr => first | (go_simp; done) | (go_simp; rfl)); intro gb138 hg w5 hbox hb; have n0_ := Aside0.mk (blk_below (qb BK137.out) hb); have n1_ := Aside0.mk (below_step (qW HB.out) hb); have n2_ := Aside0.mk (hbox); have n3_ := Aside0.mk ((by rw [hg]; exact (below_size (qW HB.out)) : w.heap.size ≤ gb138)); have n4_ := Aside0.mk ((by rw [hg]; exact (below_size (qW HB.out)) : w.heap.size ≤ gb138)); have n5_ := Aside0.mk ((by rw [hg]; exact Nat.ne_of_lt (blk_lt (qb BK137.out)) : gb137 ≠ gb138)); have n6_ := Aside0.mk ((by rw [hg]; exact Nat.ne_of_gt (blk_lt (qb BK137.out)) : gb138 ≠ gb137)); clear BK137 HB; have BK137 := n0_; have HB := n1_; have BK138 := n2_; have GW138 := n3_; have GE138 := n4_; have NB137_138 := n5_; have NB138_137 := n6_; clear n0_ n1_ n2_ n3_ n4_ n5_ n6_; clear hb hbox hg; have hnb6 := NB138_137.out; have hnc6 := NB137_138.out; have hcz7_0 : w5.cell? ⟨gb138, 0, none⟩ = some (.int .u8 0) := (blk_cell BK138.out 0).trans rfl; have hcz7_1 : w5.cell? ⟨gb138, 1, none⟩ = some (.int .u8 0) := (blk_cell BK138.out 1).trans rfl; have hcz7_2 : w5.cell? ⟨gb138, 2, none⟩ = some (.int .u16 0) := (blk_cell BK138.out 2).trans rfl; have hcz7_3 : w5.cell? ⟨gb138, 3, none⟩ = some (.int .i64 0) := (blk_cell BK138.out 3).trans rfl; have hfz7_0 := blk_frozen BK138.out 0; have hfz7_1 := blk_frozen BK138.out 1; have hfz7_2 := blk_frozen BK138.out 2; have hfz7_3 := blk_frozen BK138.out 3))
  refine bodyPost_ret (results_ct rfl _ _ gb138 56 #[.int .u8 0, .int .u8 0, .int .u16 0, .int .i64 0] (0, 0) _ rfl (by (with_reducible repeat (first | refine blk_drewN ?_ _ | refine blk_drew ?_ | refine blk_alloc ?_ _)); refine blk_put (cs := #[.int .u8 0, .int .u8 0, .int .u16 0, .int .i64 0]) ?_ 3 _ rfl; (with_reducible repeat (first | refine blk_drewN ?_ _ | refine blk_drew ?_ | refine blk_alloc ?_ _)); refine blk_put (cs := #[.int .u8 0, .int .u8 0, .int .u16 0, .int .i64 0]) ?_ 2 _ rfl; (with_reducible repeat (first | refine blk_drewN ?_ _ | refine blk_drew ?_ | refine blk_alloc ?_ _)); refine blk_put (cs := #[.int .u8 0, .int .u8 0, .int .u16 0, .int .i64 0]) ?_ 1 _ rfl; (with_reducible repeat (first | refine blk_drewN ?_ _ | refine blk_drew ?_ | refine blk_alloc ?_ _)); refine blk_put (cs := #[.int .u8 0, .int .u8 0, .int .u16 0, .int .i64 0]) ?_ 0 _ rfl; (with_reducible repeat (first | refine blk_drewN ?_ _ | refine blk_drew ?_ | refine blk_alloc ?_ _)); exact BK138.out) Try.underlying56 rfl (by kernel_rfl)) rfl ?_
  exact ⟨by first | rfl | (simp [errW_none, errW_some] <;> rfl) | (simp [*, errW_none, errW_some] <;> rfl), by repeat (first | (with_reducible first | exact HB.out | apply below_alloc | apply pw_below_drewN | apply below_drew1 | refine below_set ?_ GE137.out | refine below_set ?_ GE138.out) | exact HB.out)⟩
 ·rw [if_neg c3] at H
  have c3b0 : decide (a1 < 0) = false := decide_eq_false c3
  clear c3
  by_cases c8 : a1 ≥ (l0_0.length : Int)
  ·rw [if_pos c8] at H
   have c8b0 : decide ((l0_0.length : Int) ≤ a1) = true := decide_eq_true c8
   clear c8
   simp only [Option.some.injEq, Prod.mk.injEq] at H
   obtain ⟨rfl, rfl, rfl, rfl, rfl⟩ := H
   go_enter Try.func26, Try.ntmps26
   go_wp2_with (first | ((with_reducible refine gate_dst (N := 2) rfl ?_); (try (refine gate_guard (by rfl) ?_; dsimp only)); refine box_event ?hg (N := 2) ?hd (cs := #[.slice A0_0 l0_0.length c0_0, .slice A0_1 l0_1.length c0_1, .slice A0_2 l0_2.length c0_2]) (t := 53) ?hr ?_; (case hd => rfl); (case hg => rfl); (case hr => first | (go_simp; done) | (go_simp; rfl)); intro gb137 hg w9 hbox hb; have n0_ := Aside0.mk (below_step (qW HB.out) hb); have n1_ := Aside0.mk (hbox); have n2_ := Aside0.mk ((by rw [hg]; exact (below_size (qW HB.out)) : w.heap.size ≤ gb137)); have n3_ := Aside0.mk ((by rw [hg]; exact (below_size (qW HB.out)) : w.heap.size ≤ gb137)); clear HB; have HB := n0_; have BK137 := n1_; have GW137 := n2_; have GE137 := n3_; clear n0_ n1_ n2_ n3_; clear hb hbox hg) | ((with_reducible refine gate_dst (N := 4) rfl ?_); (try (refine gate_guard (by rfl) ?_; dsimp only)); refine box_event ?hg (N := 4) ?hd (cs := #[.int .u8 0, .int .u8 0, .int .u16 0, .int .i64 0]) (t := 56) ?hr ?_; (case hd => rfl); (case hg => rfl); (case hr => first | (go_simp; done) | (go_simp; rfl)); intro gb138 hg w10 hbox hb; have n0_ := Aside0.mk (blk_below (qb BK137.out) hb); have n1_ := Aside0.mk (below_step (qW HB.out) hb); have n2_ := Aside0.mk (hbox); have n3_ := Aside0.mk ((by rw [hg]; exact (below_size (qW HB.out)) : w.heap.size ≤ gb138)); have n4_ := Aside0.mk ((by rw [hg]; exact (below_size (qW HB.out)) : w.heap.size ≤ gb138)); have n5_ := Aside0.mk ((by rw [hg]; exact Nat.ne_of_lt (blk_lt (qb BK137.out)) : gb137 ≠ gb138)); have n6_ := Aside0.mk ((by rw [hg]; exact Nat.ne_of_gt (blk_lt (qb BK137.out)) : gb138 ≠ gb137)); clear BK137 HB; have BK137 := n0_; have HB := n1_; have BK138 := n2_; have GW138 := n3_; have GE138 := n4_; have NB137_138 := n5_; have NB138_137 := n6_; clear n0_ n1_ n2_ n3_ n4_ n5_ n6_; clear hb hbox hg; have hnb11 := NB137_138.out; have hnc11 := NB138_137.out; have hcz12_0 : w10.cell? ⟨gb137, 0, none⟩ = some (.slice A0_0 l0_0.length c0_0) := (blk_cell BK137.out 0).trans rfl; have hcz12_1 : w10.cell? ⟨gb137, 1, none⟩ = some (.slice A0_1 l0_1.length c0_1) := (blk_cell BK137.out 1).trans rfl; have hcz12_2 : w10.cell? ⟨gb137, 2, none⟩ = some (.slice A0_2 l0_2.length c0_2) := (blk_cell BK137.out 2).trans rfl; have hfz12_0 := blk_frozen BK137.out 0; have hfz12_1 := blk_frozen BK137.out 1; have hfz12_2 := blk_frozen BK137.out 2; have hcz13_0 : w10.cell? ⟨gb138, 0, none⟩ = some (.int .u8 0) := (blk_cell BK138.out 0).trans rfl; have hcz13_1 : w10.cell? ⟨gb138, 1, none⟩ = some (.int .u8 0) := (blk_cell BK138.out 1).trans rfl; have hcz13_2 : w10.cell? ⟨gb138, 2, none⟩ = some (.int .u16 0) := (blk_cell BK138.out 2).trans rfl; have hcz13_3 : w10.cell? ⟨gb138, 3, none⟩ = some (.int .i64 0) := (blk_cell BK138.out 3).trans rfl; have hfz13_0 := blk_frozen BK138.out 0; have hfz13_1 := blk_frozen BK138.out 1; have hfz13_2 := blk_frozen BK138.out 2; have hfz13_3 := blk_frozen BK138.out 3))
   refine bodyPost_ret (results_ct rfl _ _ gb138 56 #[.int .u8 0, .int .u8 0, .int .u16 0, .int .i64 0] (0, 0) _ rfl (by (with_reducible repeat (first | refine blk_drewN ?_ _ | refine blk_drew ?_ | refine blk_alloc ?_ _)); refine blk_put (cs := #[.int .u8 0, .int .u8 0, .int .u16 0, .int .i64 0]) ?_ 3 _ rfl; (with_reducible repeat (first | refine blk_drewN ?_ _ | refine blk_drew ?_ | refine blk_alloc ?_ _)); refine blk_put (cs := #[.int .u8 0, .int .u8 0, .int .u16 0, .int .i64 0]) ?_ 2 _ rfl; (with_reducible repeat (first | refine blk_drewN ?_ _ | refine blk_drew ?_ | refine blk_alloc ?_ _)); refine blk_put (cs := #[.int .u8 0, .int .u8 0, .int .u16 0, .int .i64 0]) ?_ 1 _ rfl; (with_reducible repeat (first | refine blk_drewN ?_ _ | refine blk_drew ?_ | refine blk_alloc ?_ _)); refine blk_put (cs := #[.int .u8 0, .int .u8 0, .int .u16 0, .int .i64 0]) ?_ 0 _ rfl; (with_reducible repeat (first | refine blk_drewN ?_ _ | refine blk_drew ?_ | refine blk_alloc ?_ _)); exact BK138.out) Try.underlying56 rfl (by kernel_rfl)) rfl ?_
   exact ⟨by first | rfl | (simp [errW_none, errW_some] <;> rfl) | (simp [*, errW_none, errW_some] <;> rfl), by repeat (first | (with_reducible first | exact HB.out | apply below_alloc | apply pw_below_drewN | apply below_drew1 | refine below_set ?_ GE137.out | refine below_set ?_ GE138.out) | exact HB.out)⟩
  ·rw [if_neg c8] at H
   have c8b0 : decide ((l0_0.length : Int) ≤ a1) = false := decide_eq_false c8
   clear c8
   by_cases c14 : 0 ≤ a1
   ·rw [if_pos c14] at H
    have c14b0 : decide (0 ≤ a1) = true := decide_eq_true c14
    clear c14
    by_cases c15 : a1 < (l0_0.length : Int)
    ·rw [if_pos c15] at H
     have c15b0 : decide (a1 < (l0_0.length : Int)) = true := decide_eq_true c15
     clear c15
     simp only [Option.some.injEq, Prod.mk.injEq] at H
     obtain ⟨rfl, rfl, rfl, rfl, rfl⟩ := H
     go_enter Try.func26, Try.ntmps26
     go_wp2_with (first | ((with_reducible refine gate_dst (N := 2) rfl ?_); (try (refine gate_guard (by rfl) ?_; dsimp only)); refine box_event ?hg (N := 2) ?hd (cs := #[.slice A0_0 l0_0.length c0_0, .slice A0_1 l0_1.length c0_1, .slice A0_2 l0_2.length c0_2]) (t := 53) ?hr ?_; (case hd => rfl); (case hg => rfl); (case hr => first | (go_simp; done) | (go_simp; rfl)); intro gb137 hg w16 hbox hb; have n0_ := Aside0.mk (below_step (qW HB.out) hb); have n1_ := Aside0.mk (hbox); have n2_ := Aside0.mk ((by rw [hg]; exact (below_size (qW HB.out)) : w.heap.size ≤ gb137)); have n3_ := Aside0.mk ((by rw [hg]; exact (below_size (qW HB.out)) : w.heap.size ≤ gb137)); clear HB; have HB := n0_; have BK137 := n1_; have GW137 := n2_; have GE137 := n3_; clear n0_ n1_ n2_ n3_; clear hb hbox hg) | ((with_reducible refine gate_dst (N := 4) rfl ?_); (try (refine gate_guard (by rfl) ?_; dsimp only)); refine box_event ?hg (N := 4) ?hd (cs := #[.int .u8 0, .int .u8 0, .int .u16 0, .int .i64 0]) (t := 56) ?hr ?_; (case hd => rfl); (case hg => rfl); (case hr => first | (go_simp; done) | (go_simp; rfl)); intro gb138 hg w17 hbox hb; have n0_ := Aside0.mk (blk_below (qb BK137.out) hb); have n1_ := Aside0.mk (below_step (qW HB.out) hb); have n2_ := Aside0.mk (hbox); have n3_ := Aside0.mk ((by rw [hg]; exact (below_size (qW HB.out)) : w.heap.size ≤ gb138)); have n4_ := Aside0.mk ((by rw [hg]; exact (below_size (qW HB.out)) : w.heap.size ≤ gb138)); have n5_ := Aside0.mk ((by rw [hg]; exact Nat.ne_of_lt (blk_lt (qb BK137.out)) : gb137 ≠ gb138)); have n6_ := Aside0.mk ((by rw [hg]; exact Nat.ne_of_gt (blk_lt (qb BK137.out)) : gb138 ≠ gb137)); clear BK137 HB; have BK137 := n0_; have HB := n1_; have BK138 := n2_; have GW138 := n3_; have GE138 := n4_; have NB137_138 := n5_; have NB138_137 := n6_; clear n0_ n1_ n2_ n3_ n4_ n5_ n6_; clear hb hbox hg; have hnb18 := NB137_138.out; have hnc18 := NB138_137.out; have hcz19_0 : w17.cell? ⟨gb137, 0, none⟩ = some (.slice A0_0 l0_0.length c0_0) := (blk_cell BK137.out 0).trans rfl; have hcz19_1 : w17.cell? ⟨gb137, 1, none⟩ = some (.slice A0_1 l0_1.length c0_1) := (blk_cell BK137.out 1).trans rfl; have hcz19_2 : w17.cell? ⟨gb137, 2, none⟩ = some (.slice A0_2 l0_2.length c0_2) := (blk_cell BK137.out 2).trans rfl; have hfz19_0 := blk_frozen BK137.out 0; have hfz19_1 := blk_frozen BK137.out 1; have hfz19_2 := blk_frozen BK137.out 2; have p139 : 0 ≤ (a1 : Int) := of_decide_eq_true (by first | (with_reducible assumption) | assumption); have q139 : a1 < (l0_0.length : Int) := of_decide_eq_true (by first | (with_reducible assumption) | assumption); obtain ⟨ad139, e139, hx139_0, hx139_1, hx139_2, hx139_3⟩ := at_T56 HR0_0.out a1 p139 q139; cases e139; replace hx139_0 := (HB.out.cell (World.block_lt_of_cell? w _ hx139_0)).trans hx139_0; replace hx139_1 := (HB.out.cell (World.block_lt_of_cell? w _ hx139_1)).trans hx139_1; replace hx139_2 := (HB.out.cell (World.block_lt_of_cell? w _ hx139_2)).trans hx139_2; replace hx139_3 := (HB.out.cell (World.block_lt_of_cell? w _ hx139_3)).trans hx139_3; replace p139 := eq_true p139; replace q139 := eq_true q139; have hcz20_0 : w17.cell? ⟨gb138, 0, none⟩ = some (.int .u8 0) := (blk_cell BK138.out 0).trans rfl; have hcz20_1 : w17.cell? ⟨gb138, 1, none⟩ = some (.int .u8 0) := (blk_cell BK138.out 1).trans rfl; have hcz20_2 : w17.cell? ⟨gb138, 2, none⟩ = some (.int .u16 0) := (blk_cell BK138.out 2).trans rfl; have hcz20_3 : w17.cell? ⟨gb138, 3, none⟩ = some (.int .i64 0) := (blk_cell BK138.out 3).trans rfl; have hfz20_0 := blk_frozen BK138.out 0; have hfz20_1 := blk_frozen BK138.out 1; have hfz20_2 := blk_frozen BK138.out 2; have hfz20_3 := blk_frozen BK138.out 3))
     refine bodyPost_ret (results_ct rfl _ _ gb138 56 #[.int .u8 ((rd_T56 l0_0 a1).f0), .int .u8 ((rd_T56 l0_0 a1).f1.f0), .int .u16 ((rd_T56 l0_0 a1).f1.f1), .int .i64 ((rd_T56 l0_0 a1).f2)] (0, 0) _ rfl (by (with_reducible repeat (first | refine blk_drewN ?_ _ | refine blk_drew ?_ | refine blk_alloc ?_ _)); refine blk_put (cs := #[.int .u8 ((rd_T56 l0_0 a1).f0), .int .u8 ((rd_T56 l0_0 a1).f1.f0), .int .u16 ((rd_T56 l0_0 a1).f1.f1), .int .i64 0]) ?_ 3 _ rfl; (with_reducible repeat (first | refine blk_drewN ?_ _ | refine blk_drew ?_ | refine blk_alloc ?_ _)); refine blk_put (cs := #[.int .u8 ((rd_T56 l0_0 a1).f0), .int .u8 ((rd_T56 l0_0 a1).f1.f0), .int .u16 0, .int .i64 0]) ?_ 2 _ rfl; (with_reducible repeat (first | refine blk_drewN ?_ _ | refine blk_drew ?_ | refine blk_alloc ?_ _)); refine blk_put (cs := #[.int .u8 ((rd_T56 l0_0 a1).f0), .int .u8 0, .int .u16 0, .int .i64 0]) ?_ 1 _ rfl; (with_reducible repeat (first | refine blk_drewN ?_ _ | refine blk_drew ?_ | refine blk_alloc ?_ _)); refine blk_put (cs := #[.int .u8 0, .int .u8 0, .int .u16 0, .int .i64 0]) ?_ 0 _ rfl; (with_reducible repeat (first | refine blk_drewN ?_ _ | refine blk_drew ?_ | refine blk_alloc ?_ _)); exact BK138.out) Try.underlying56 rfl (by kernel_rfl)) rfl ?_
     exact ⟨by first | rfl | (simp [errW_none, errW_some] <;> rfl) | (simp [*, errW_none, errW_some] <;> rfl), by repeat (first | (with_reducible first | exact HB.out | apply below_alloc | apply pw_below_drewN | apply below_drew1 | refine below_set ?_ GE137.out | refine below_set ?_ GE138.out) | exact HB.out)⟩
    ·rw [if_neg c15] at H
     exact absurd H (by simp)
   ·rw [if_neg c14] at H
    exact absurd H (by simp)

/-! ### garderoberef16_None: function 32 -/
def garderoberef16_None.f  : Option (Int × Int × Int × Int) := some (1, 0, 0, 0)
set_option maxHeartbeats 8000000 in
set_option maxRecDepth 100000 in
theorem garderoberef16_None.calls  (r1 : Int) (r2 : Int) (r3 : Int) (r4 : Int) (w : World) (h : garderoberef16_None.f  = some (r1, r2, r3, r4)) :
  Calls Try.prog 32 #[] w fun e w' => e = .returned (.agg #[.int .u8 r1, .int .u8 r2, .int .u16 r3, .int .i64 r4]) ∧ Below w.heap.size w w' := by
 have hu56 := Try.underlying56
 have HB := Aside0.mk (Below.refl w.heap.size w)
 have H : (some (1, 0, 0, 0)) = some (r1, r2, r3, r4) := h
 clear h
 simp only [Option.some.injEq, Prod.mk.injEq] at H
 obtain ⟨rfl, rfl, rfl, rfl⟩ := H
 go_enter Try.func32, Try.ntmps32
 go_wp2_with (first | ((with_reducible refine gate_dst (N := 0) rfl ?_); refine box_event ?hg (N := 0) ?hd (cs := #[.int .u8 0, .int .u8 0, .int .u16 0, .int .i64 0]) (t := 56) ?hr ?_; (case hd => rfl); (case hg => rfl); (case hr => first | (go_simp; done) | (go_simp; rfl)); intro gb140 hg w1 hbox hb; have n0_ := Aside0.mk (below_step (qW HB.out) hb); have n1_ := Aside0.mk (hbox); have n2_ := Aside0.mk ((by rw [hg]; exact (below_size (qW HB.out)) : w.heap.size ≤ gb140)); have n3_ := Aside0.mk ((by rw [hg]; exact (below_size (qW HB.out)) : w.heap.size ≤ gb140)); clear HB; have HB := n0_; have BK140 := n1_; have GW140 := n2_; have GE140 := n3_; clear n0_ n1_ n2_ n3_; clear hb hbox hg; have hcz2_0 : w1.cell? ⟨gb140, 0, none⟩ = some (.int .u8 0) := (blk_cell BK140.out 0).trans rfl; have hcz2_1 : w1.cell? ⟨gb140, 1, none⟩ = some (.int .u8 0) := (blk_cell BK140.out 1).trans rfl; have hcz2_2 : w1.cell? ⟨gb140, 2, none⟩ = some (.int .u16 0) := (blk_cell BK140.out 2).trans rfl; have hcz2_3 : w1.cell? ⟨gb140, 3, none⟩ = some (.int .i64 0) := (blk_cell BK140.out 3).trans rfl; have hfz2_0 := blk_frozen BK140.out 0; have hfz2_1 := blk_frozen BK140.out 1; have hfz2_2 := blk_frozen BK140.out 2; have hfz2_3 := blk_frozen BK140.out 3))
 refine bodyPost_ret (results_cell_row rfl _ _ gb140 56 #[.int .u8 1, .int .u8 0, .int .u16 0, .int .i64 0] (0, 0) _ rfl (by (with_reducible repeat (first | refine blk_drewN ?_ _ | refine blk_drew ?_ | refine blk_alloc ?_ _)); refine blk_put (cs := #[.int .u8 1, .int .u8 0, .int .u16 0, .int .i64 0]) ?_ 3 _ rfl; (with_reducible repeat (first | refine blk_drewN ?_ _ | refine blk_drew ?_ | refine blk_alloc ?_ _)); refine blk_put (cs := #[.int .u8 1, .int .u8 0, .int .u16 0, .int .i64 0]) ?_ 2 _ rfl; (with_reducible repeat (first | refine blk_drewN ?_ _ | refine blk_drew ?_ | refine blk_alloc ?_ _)); refine blk_put (cs := #[.int .u8 1, .int .u8 0, .int .u16 0, .int .i64 0]) ?_ 1 _ rfl; (with_reducible repeat (first | refine blk_drewN ?_ _ | refine blk_drew ?_ | refine blk_alloc ?_ _)); refine blk_put (cs := #[.int .u8 0, .int .u8 0, .int .u16 0, .int .i64 0]) ?_ 0 _ rfl; (with_reducible repeat (first | refine blk_drewN ?_ _ | refine blk_drew ?_ | refine blk_alloc ?_ _)); exact BK140.out) Try.underlying56 rfl (by kernel_rfl)) rfl ?_
 exact ⟨by first | rfl | (simp [errW_none, errW_some] <;> rfl) | (simp [*, errW_none, errW_some] <;> rfl), by repeat (first | (with_reducible first | exact HB.out | apply below_alloc | apply pw_below_drewN | apply below_drew1 | refine below_set ?_ GE140.out) | exact HB.out)⟩

/-! ### garderoberef16_Num: function 59 -/
def garderoberef16_Num.f  : Option (Int × Int × Int × Int) := some (2, 0, 0, 0)
set_option maxHeartbeats 8000000 in
set_option maxRecDepth 100000 in
theorem garderoberef16_Num.calls  (r1 : Int) (r2 : Int) (r3 : Int) (r4 : Int) (w : World) (h : garderoberef16_Num.f  = some (r1, r2, r3, r4)) :
  Calls Try.prog 59 #[] w fun e w' => e = .returned (.agg #[.int .u8 r1, .int .u8 r2, .int .u16 r3, .int .i64 r4]) ∧ Below w.heap.size w w' := by
 have hu56 := Try.underlying56
 have HB := Aside0.mk (Below.refl w.heap.size w)
 have H : (some (2, 0, 0, 0)) = some (r1, r2, r3, r4) := h
 clear h
 simp only [Option.some.injEq, Prod.mk.injEq] at H
 obtain ⟨rfl, rfl, rfl, rfl⟩ := H
 go_enter Try.func59, Try.ntmps59
 go_wp2_with (first | ((with_reducible refine gate_dst (N := 0) rfl ?_); refine box_event ?hg (N := 0) ?hd (cs := #[.int .u8 0, .int .u8 0, .int .u16 0, .int .i64 0]) (t := 56) ?hr ?_; (case hd => rfl); (case hg => rfl); (case hr => first | (go_simp; done) | (go_simp; rfl)); intro gb141 hg w1 hbox hb; have n0_ := Aside0.mk (below_step (qW HB.out) hb); have n1_ := Aside0.mk (hbox); have n2_ := Aside0.mk ((by rw [hg]; exact (below_size (qW HB.out)) : w.heap.size ≤ gb141)); have n3_ := Aside0.mk ((by rw [hg]; exact (below_size (qW HB.out)) : w.heap.size ≤ gb141)); clear HB; have HB := n0_; have BK141 := n1_; have GW141 := n2_; have GE141 := n3_; clear n0_ n1_ n2_ n3_; clear hb hbox hg; have hcz2_0 : w1.cell? ⟨gb141, 0, none⟩ = some (.int .u8 0) := (blk_cell BK141.out 0).trans rfl; have hcz2_1 : w1.cell? ⟨gb141, 1, none⟩ = some (.int .u8 0) := (blk_cell BK141.out 1).trans rfl; have hcz2_2 : w1.cell? ⟨gb141, 2, none⟩ = some (.int .u16 0) := (blk_cell BK141.out 2).trans rfl; have hcz2_3 : w1.cell? ⟨gb141, 3, none⟩ = some (.int .i64 0) := (blk_cell BK141.out 3).trans rfl; have hfz2_0 := blk_frozen BK141.out 0; have hfz2_1 := blk_frozen BK141.out 1; have hfz2_2 := blk_frozen BK141.out 2; have hfz2_3 := blk_frozen BK141.out 3))
 refine bodyPost_ret (results_cell_row rfl _ _ gb141 56 #[.int .u8 2, .int .u8 0, .int .u16 0, .int .i64 0] (0, 0) _ rfl (by (with_reducible repeat (first | refine blk_drewN ?_ _ | refine blk_drew ?_ | refine blk_alloc ?_ _)); refine blk_put (cs := #[.int .u8 2, .int .u8 0, .int .u16 0, .int .i64 0]) ?_ 3 _ rfl; (with_reducible repeat (first | refine blk_drewN ?_ _ | refine blk_drew ?_ | refine blk_alloc ?_ _)); refine blk_put (cs := #[.int .u8 2, .int .u8 0, .int .u16 0, .int .i64 0]) ?_ 2 _ rfl; (with_reducible repeat (first | refine blk_drewN ?_ _ | refine blk_drew ?_ | refine blk_alloc ?_ _)); refine blk_put (cs := #[.int .u8 2, .int .u8 0, .int .u16 0, .int .i64 0]) ?_ 1 _ rfl; (with_reducible repeat (first | refine blk_drewN ?_ _ | refine blk_drew ?_ | refine blk_alloc ?_ _)); refine blk_put (cs := #[.int .u8 0, .int .u8 0, .int .u16 0, .int .i64 0]) ?_ 0 _ rfl; (with_reducible repeat (first | refine blk_drewN ?_ _ | refine blk_drew ?_ | refine blk_alloc ?_ _)); exact BK141.out) Try.underlying56 rfl (by kernel_rfl)) rfl ?_
 exact ⟨by first | rfl | (simp [errW_none, errW_some] <;> rfl) | (simp [*, errW_none, errW_some] <;> rfl), by repeat (first | (with_reducible first | exact HB.out | apply below_alloc | apply pw_below_drewN | apply below_drew1 | refine below_set ?_ GE141.out) | exact HB.out)⟩

/-! ### garderobelaw17_lives: function 18 -/
def nV : S56 := ⟨2, ⟨0, 0⟩, 0⟩
def oV : S56 := ⟨1, ⟨0, 0⟩, 0⟩
theorem num_C {w : World} {base g n cap : Nat} {xs : List S56} {cs : List Value} (h : w.ownsRow base 56 4 (.slice (some ⟨g, 0, none⟩) n cap) n cs) (hn : xs.length = n) (hr : Reps (fun x c => k56.K w x c) 4 xs cs) : Kd.C k56 w (some ⟨g, 0, none⟩) n xs ∧ n ≤ cap := by
 subst hn
 have hR : Kd.R k56 56 w base (fun _ => True) (.slice (some ⟨g, 0, none⟩) xs.length cap) xs := ⟨fun _ _ => trivial, cs, h, hr.imp_ (fun _ _ hk => k56_KM hk)⟩
 have := Kd.R_reads' hR
 exact ⟨this.2.2, this.2.1⟩
theorem two_C {w : World} {base g cap : Nat} (h : w.ownsRow base 56 4 (.slice (some ⟨g, 0, none⟩) 2 cap) 2 [.int .u8 2, .int .u8 0, .int .u16 0, .int .i64 0, .int .u8 1, .int .u8 0, .int .u16 0, .int .i64 0]) : Kd.C k56 w (some ⟨g, 0, none⟩) 2 [nV, oV] ∧ 2 ≤ cap :=
 num_C h rfl (((Reps.none _ _).snoc (p := nV) (c := [.int .u8 2, .int .u8 0, .int .u16 0, .int .i64 0]) (k56_mk w nV) rfl).snoc (p := oV) (c := [.int .u8 1, .int .u8 0, .int .u16 0, .int .i64 0]) (k56_mk w oV) rfl)
theorem two_F {w : World} {base g cap : Nat} (h : w.ownsRow base 56 4 (.slice (some ⟨g, 0, none⟩) 2 cap) 2 [.int .u8 2, .int .u8 0, .int .u16 0, .int .i64 0, .int .u8 1, .int .u8 0, .int .u16 0, .int .i64 0]) : Kd.F k56 w (fun k => k < w.heap.size) (some ⟨g, 0, none⟩) 2 [nV, oV] := by
 have hR : Kd.R k56 56 w base (fun _ => True) (.slice (some ⟨g, 0, none⟩) 2 cap) [nV, oV] := ⟨fun _ _ => trivial, _, h, (((Reps.none _ _).snoc (p := nV) (c := [.int .u8 2, .int .u8 0, .int .u16 0, .int .i64 0]) (k56_mkM _ _ _ nV) rfl).snoc (p := oV) (c := [.int .u8 1, .int .u8 0, .int .u16 0, .int .i64 0]) (k56_mkM _ _ _ oV) rfl)⟩
 exact Kd.V_F (Kd.R_V (base' := 0) (Kd.R_mono (Kd.R_bound hR) (fun k hk => hk.2.2.1)))
theorem one_C {w : World} {B : Nat} (h : w.heap[B]? = some (.cells #[.int .u8 2, .int .u8 0, .int .u16 0, .int .i64 0] 56 (0, 0))) : Kd.C k56 w (some ⟨B, 0, none⟩) 1 [nV] :=
 (num_C (w := w) (base := 0) (cap := 1) (n := 1) (cs := [.int .u8 2, .int .u8 0, .int .u16 0, .int .i64 0]) ⟨rfl, .inr ⟨B, 1, _, rfl, Nat.zero_le _, h, Nat.le_refl _, by decide, rfl, rfl⟩⟩ rfl ((Reps.none _ _).snoc (p := nV) (c := [.int .u8 2, .int .u8 0, .int .u16 0, .int .i64 0]) (k56_mk w nV) rfl)).1
theorem push_no (w : World) (g cap B : Nat) (h1 : Kd.C k56 w (some ⟨g, 0, none⟩) 2 [nV, oV]) (h2 : 2 ≤ cap) (h3 : Kd.C k56 w (some ⟨B, 0, none⟩) 1 [nV]) :
  Calls Try.prog 20 #[.agg #[.slice (some ⟨g, 0, none⟩) 2 cap, .slice none 0 0, .slice none 0 0], .int .i64 0, .slice (some ⟨B, 0, none⟩) 1 1] w fun e w' => ∃ B0 d0 B1 d1 B2 d2, e = .returned (.tuple #[.agg #[.slice B0 0 d0, .slice B1 0 d1, .slice B2 0 d2], .int .i64 9]) ∧ Below w.heap.size w w' := by
 refine (shape_Push.calls (some ⟨g, 0, none⟩) cap [nV, oV] none 0 [] none 0 [] 0 (some ⟨B, 0, none⟩) 1 [nV] [] [] [] 9 w h1 h2 (Kd.C_nil _ _) (Nat.le_refl _) (Kd.C_nil _ _) (Nat.le_refl _) h3 (Nat.le_refl _) (by kernel_rfl)).mono ?_
 rintro e w' ⟨v0, v1, v2, rfl, ho0, ho1, ho2, hb⟩
 obtain ⟨B0, d0, rfl⟩ := Kd.R_slice ho0
 obtain ⟨B1, d1, rfl⟩ := Kd.V_slice ho1
 obtain ⟨B2, d2, rfl⟩ := Kd.R_slice ho2
 exact ⟨B0, d0, B1, d1, B2, d2, rfl, hb⟩
theorem get_1 (w : World) (B0 B1 B2 : Option Addr) (d0 d1 d2 : Nat) (h1 : Kd.C k56 w B0 2 [nV, oV]) (h2 : 2 ≤ d0) (h3 : Kd.C k56 w B1 1 [nV]) (h4 : 1 ≤ d1) (h5 : Kd.C (Kd.int .i64) w B2 0 []) :
  Calls Try.prog 26 #[.agg #[.slice B0 2 d0, .slice B1 1 d1, .slice B2 0 d2], .int .i64 1] w fun e w' => e = .returned (.tuple #[.agg #[.int .u8 1, .int .u8 0, .int .u16 0, .int .i64 0], .int .i64 0]) ∧ Below w.heap.size w w' :=
 shape_Get.calls B0 d0 [nV, oV] B1 d1 [nV] B2 d2 [] 1 1 0 0 0 0 w h1 h2 h3 h4 h5 (Nat.zero_le _) (by kernel_rfl)
theorem get_2 (w : World) (B0 B1 B2 : Option Addr) (d0 d1 d2 : Nat) (h1 : Kd.C k56 w B0 2 [nV, oV]) (h2 : 2 ≤ d0) (h3 : Kd.C k56 w B1 1 [nV]) (h4 : 1 ≤ d1) (h5 : Kd.C (Kd.int .i64) w B2 0 []) :
  Calls Try.prog 26 #[.agg #[.slice B0 2 d0, .slice B1 1 d1, .slice B2 0 d2], .int .i64 2] w fun e w' => e = .returned (.tuple #[.agg #[.int .u8 0, .int .u8 0, .int .u16 0, .int .i64 0], .int .i64 9]) ∧ Below w.heap.size w w' :=
 shape_Get.calls B0 d0 [nV, oV] B1 d1 [nV] B2 d2 [] 2 0 0 0 0 9 w h1 h2 h3 h4 h5 (Nat.zero_le _) (by kernel_rfl)
/-- What lives knows of its shape. -/
structure Ls (w : World) (S g cap : Nat) (wl : World) : Prop where
 b : Below w.heap.size w wl
 z : w.heap.size ≤ S
 s : wl.heap[S]? = some (.cells #[.slice (some ⟨g, 0, none⟩) 2 cap, .slice none 0 0, .slice none 0 0] 53 (0, 0))
 f : Kd.F k56 wl (fun k => k < S) (some ⟨g, 0, none⟩) 2 [nV, oV]
theorem Ls.below {w wl w' : World} {S g cap : Nat} (h : Ls w S g cap wl) (hb : Below wl.heap.size wl w') : Ls w S g cap w' := ⟨h.b.trans (hb.mono h.b.size), h.z, blk_below h.s hb, Kd.F_below h.f hb⟩
theorem Ls.al {w wl : World} {S g cap : Nat} (h : Ls w S g cap wl) (o : Obj) : Ls w S g cap (wl.alloc o) := h.below (below_alloc (Below.refl _ _) _)
theorem Ls.set {w wl : World} {S g cap Z j : Nat} (h : Ls w S g cap wl) (hZ : S < Z) (u : Value) : Ls w S g cap (wl.setCell ⟨Z, j, none⟩ u) :=
 ⟨h.b.setCell (Nat.le_of_lt (Nat.lt_of_le_of_lt h.z hZ)) _, h.z, blk_far h.s (Nat.ne_of_lt hZ) _, Kd.F_far h.f (fun k hk => by show k ≠ Z; have : k < S := hk; omega) _⟩
theorem Ls.c {w wl : World} {S g cap : Nat} (h : Ls w S g cap wl) : Kd.C k56 wl (some ⟨g, 0, none⟩) 2 [nV, oV] := Kd.F_now h.f
structure Lx (X : Nat) (B0 B1 B2 : Option Addr) (d0 d1 d2 : Nat) (wl : World) : Prop where
 x : wl.heap[X]? = some (.cells #[.slice B0 2 d0, .slice B1 1 d1, .slice B2 0 d2] 53 (0, 0))
 c0 : Kd.C k56 wl B0 2 [nV, oV]
 l0 : 2 ≤ d0
 c1 : Kd.C k56 wl B1 1 [nV]
 l1 : 1 ≤ d1
 c2 : Kd.C (Kd.int .i64) wl B2 0 []
theorem Lx.below {wl w' : World} {X : Nat} {B0 B1 B2 : Option Addr} {d0 d1 d2 : Nat} (h : Lx X B0 B1 B2 d0 d1 d2 wl) (hb : Below wl.heap.size wl w') : Lx X B0 B1 B2 d0 d1 d2 w' := ⟨blk_below h.x hb, Kd.C_below h.c0 hb, h.l0, Kd.C_below h.c1 hb, h.l1, Kd.C_below h.c2 hb⟩
structure Lv (Q : Nat) (B0 B1 B2 : Option Addr) (d0 d1 d2 : Nat) (wl : World) : Prop where
 c0 : Kd.V k56 56 wl 0 (fun k => Q ≤ k) (.slice B0 2 d0) [nV, oV]
 c1 : Kd.V k56 56 wl 0 (fun k => Q ≤ k) (.slice B1 1 d1) [nV]
 c2 : Kd.V (Kd.int .i64) 3 wl 0 (fun k => Q ≤ k) (.slice B2 0 d2) []
theorem Lv.new {Q : Nat} {B0 B1 B2 : Option Addr} {d0 d1 d2 : Nat} {wl : World} (h : Lv Q B0 B1 B2 d0 d1 d2 wl) : Lx wl.heap.size B0 B1 B2 d0 d1 d2 (wl.alloc (.cells #[.slice B0 2 d0, .slice B1 1 d1, .slice B2 0 d2] 53)) :=
 ⟨blk_new _ _, Kd.C_alloc (Kd.V_reads' h.c0).2.2 _, (Kd.V_reads' h.c0).2.1, Kd.C_alloc (Kd.V_reads' h.c1).2.2 _, (Kd.V_reads' h.c1).2.1, Kd.C_alloc (Kd.V_reads' h.c2).2.2 _⟩
theorem Lv.set {Q Z j : Nat} {B0 B1 B2 : Option Addr} {d0 d1 d2 : Nat} {wl : World} (h : Lv Q B0 B1 B2 d0 d1 d2 wl) (hZ : Z < Q) (u : Value) : Lv Q B0 B1 B2 d0 d1 d2 (wl.setCell ⟨Z, j, none⟩ u) :=
 have hk : ∀ k, Q ≤ k → k ≠ Z := fun k hk => by omega
 ⟨Kd.V_far (p := ⟨Z, j, none⟩) h.c0 hk u, Kd.V_far (p := ⟨Z, j, none⟩) h.c1 hk u, Kd.V_far (p := ⟨Z, j, none⟩) h.c2 hk u⟩
theorem Lv.put {Q Z : Nat} {B0 B1 B2 : Option Addr} {d0 d1 d2 : Nat} {wl : World} (h : Lv Q B0 B1 B2 d0 d1 d2 wl) (hZ : Z < Q) (hb : wl.heap[Z]? = some (.cells #[.slice none 0 0, .slice none 0 0, .slice none 0 0] 53 (0, 0))) :
  Lx Z B0 B1 B2 d0 d1 d2 (((wl.setCell ⟨Z, 0, none⟩ (.slice B0 2 d0)).setCell ⟨Z, 1, none⟩ (.slice B1 1 d1)).setCell ⟨Z, 2, none⟩ (.slice B2 0 d2)) :=
 have h3 := ((h.set hZ (j := 0) (.slice B0 2 d0)).set hZ (j := 1) (.slice B1 1 d1)).set hZ (j := 2) (.slice B2 0 d2)
 ⟨blk_put (blk_put (blk_put hb 0 (.slice B0 2 d0) rfl) 1 (.slice B1 1 d1) rfl) 2 (.slice B2 0 d2) rfl, (Kd.V_reads' h3.c0).2.2, (Kd.V_reads' h3.c0).2.1, (Kd.V_reads' h3.c1).2.2, (Kd.V_reads' h3.c1).2.1, (Kd.V_reads' h3.c2).2.2⟩
theorem push_yes (w : World) (g cap B : Nat) (h1 : Kd.C k56 w (some ⟨g, 0, none⟩) 2 [nV, oV]) (h2 : 2 ≤ cap) (h3 : Kd.C k56 w (some ⟨B, 0, none⟩) 1 [nV]) :
  Calls Try.prog 20 #[.agg #[.slice (some ⟨g, 0, none⟩) 2 cap, .slice none 0 0, .slice none 0 0], .int .i64 1, .slice (some ⟨B, 0, none⟩) 1 1] w fun e w' => ∃ B0 d0 B1 d1 B2 d2, e = .returned (.tuple #[.agg #[.slice B0 2 d0, .slice B1 1 d1, .slice B2 0 d2], .int .i64 0]) ∧ Lv w.heap.size B0 B1 B2 d0 d1 d2 w' ∧ Below w.heap.size w w' := by
 refine (shape_Push.calls (some ⟨g, 0, none⟩) cap [nV, oV] none 0 [] none 0 [] 1 (some ⟨B, 0, none⟩) 1 [nV] [nV, oV] [nV] [] 0 w h1 h2 (Kd.C_nil _ _) (Nat.le_refl _) (Kd.C_nil _ _) (Nat.le_refl _) h3 (Nat.le_refl _) (by kernel_rfl)).mono ?_
 rintro e w' ⟨v0, v1, v2, rfl, ho0, ho1, ho2, hb⟩
 obtain ⟨B0, d0, rfl⟩ := Kd.R_slice ho0
 obtain ⟨B1, d1, rfl⟩ := Kd.V_slice ho1
 obtain ⟨B2, d2, rfl⟩ := Kd.R_slice ho2
 exact ⟨B0, d0, B1, d1, B2, d2, rfl, ⟨Kd.R_V ho0, Kd.V_lower (Kd.V_mono ho1 (fun _ hk => hk.1)) (Nat.zero_le _), Kd.R_V ho2⟩, hb⟩
set_option maxHeartbeats 8000000 in
set_option maxRecDepth 100000 in
theorem lives_any (w : World) : Calls Try.prog 18 #[] w fun e w' => e = .returned (.bool true) ∧ Below w.heap.size w w' := by
 go_enter Try.func18, Try.ntmps18
 go_wp2_with (fail)
 refine (Tab.world_any w).mono ?_
 rintro e w1 ⟨v, rfl, ⟨v1, v2, v3, v4, N, rfl, ⟨xc, oc, _⟩, ⟨xm, om, _⟩, _, _, _, op⟩, ch⟩
 obtain ⟨A1, c1, rfl⟩ := Tab.own_len oc
 obtain ⟨A2, c2, rfl⟩ := Tab.own_len om
 obtain ⟨A4, c4, rfl⟩ := Tab.own_len op
 have HB1 := Aside0.mk (ch.below (fun _ h => h.elim) (Nat.le_refl _))
 clear oc om op ch
 go_wp2_with (fail)
 have bp := blk_alloc (blk_new (w1.alloc (.cells #[.slice A1 (Tab.wst 17).1.length c1, .slice A2 (Tab.wst 17).2.1.length c2, .slice none 0 0, .slice A4 1 c4] 27)) (.cells #[.int .u8 3, .int .u16 0] 32 (0, 0))) (.cells #[.int .i64 0, .int .u8 1, .int .i64 0, .slice (some ⟨w1.heap.size + 1, 0, none⟩) 1 1, .int .u8 0, .int .u16 0, .int .i64 0, .int .i64 1, .slice none 0 0, .slice none 0 0, .int .i64 0] 38 (0, 0))
 rw [World.size_alloc] at bp
 refine (Lives17.shape_of _ _ _ _ _ rfl rfl rfl rfl _ bp).mono ?_
 rintro e w2 ⟨g, cap, rfl, ho, hb2⟩
 have hcap := (two_C ho).2
 have hc2 := two_F ho
 have HB2 : Aside0 (Below w.heap.size w w2) := ⟨(((HB1.out.alloc HB1.out.size _).alloc (by simp; have := HB1.out.size; omega) _).alloc (by simp; have := HB1.out.size; omega) _).trans (hb2.mono (by simp; have := HB1.out.size; omega))⟩
 have HC2 := Aside0.mk hc2
 have HCAP := Aside0.mk hcap
 clear bp ho hb2 hc2 hcap HB1
 go_wp2_with (fail)
 have hL : Ls w w2.heap.size g cap (w2.alloc (.cells #[.slice (some ⟨g, 0, none⟩) 2 cap, .slice none 0 0, .slice none 0 0] 53)) := ⟨HB2.out.alloc HB2.out.size _, HB2.out.size, blk_new _ _, Kd.F_alloc HC2.out _⟩
 generalize w2.alloc (.cells #[.slice (some ⟨g, 0, none⟩) 2 cap, .slice none 0 0, .slice none 0 0] 53) = w3 at *
 generalize w2.heap.size = S at *
 clear HB2 HC2
 have HL := Aside0.mk hL
 clear hL
 go_cut [4, 5] (fun v4 v5 wc => v5 = .int .i64 9 ∧ Aside0 (Ls w S g cap wc))
 case first =>
  have hLd := HL.out.below (below_drew (Below.refl _ w3))
  have s0 : w3.cell? ⟨S, 0, none⟩ = some (.slice (some ⟨g, 0, none⟩) 2 cap) := (blk_cell HL.out.s 0).trans rfl
  have s1 : w3.cell? ⟨S, 1, none⟩ = some (.slice none 0 0) := (blk_cell HL.out.s 1).trans rfl
  have s2 : w3.cell? ⟨S, 2, none⟩ = some (.slice none 0 0) := (blk_cell HL.out.s 2).trans rfl
  have hS3 : S < w3.heap.size := blk_lt HL.out.s
  clear HL
  go_region_law (first | (go_simp; go_at_call 20; refine (push_no _ _ _ _ (Ls.c (w := w) (S := S) (g := g) (cap := cap) (by repeat (first | exact hL5 | refine Ls.al ?_ _))) HCAP.out (one_C (by first | exact hB | exact blk_alloc hB _ | (have := hB2; simpa using this)))).mono ?_; rintro e w7 ⟨B0, d0, B1, d1, B2, d2, rfl, hb7⟩; have hL7 : Ls w S g cap w7 := Ls.below (by repeat (first | exact hL5 | refine Ls.al ?_ _)) hb7; obtain ⟨hc7, hf7⟩ := Lives17.bcell hb7) |
   (go_simp; go_at_call 59; refine (garderoberef16_Num.calls 2 0 0 0 _ rfl).mono ?_; rintro e w5 ⟨rfl, hb5⟩; have hL5 : Ls w S g cap w5 := (by first | exact hLd.below hb5 | exact (hLd.below (below_alloc (Below.refl _ _) _)).below hb5); have t0 : w5.cell? ⟨S, 0, none⟩ = some (.slice (some ⟨g, 0, none⟩) 2 cap) := (blk_cell hL5.s 0).trans rfl; have t1 : w5.cell? ⟨S, 1, none⟩ = some (.slice none 0 0) := (blk_cell hL5.s 1).trans rfl; have t2 : w5.cell? ⟨S, 2, none⟩ = some (.slice none 0 0) := (blk_cell hL5.s 2).trans rfl; have hS5 : S < w5.heap.size := blk_lt hL5.s; (try have hz5 : w3.heap.size < w5.heap.size := (by have := hb5.size; simp at this; omega)); obtain ⟨hc5, hf5⟩ := Lives17.bcell hb5; have hB := blk_new w5 (.cells #[.int .u8 2, .int .u8 0, .int .u16 0, .int .i64 0] 56 (0, 0)); have hB2 := blk_new (w5.alloc (.cells #[.slice none 0 0, .slice none 0 0, .slice none 0 0] 53)) (.cells #[.int .u8 2, .int .u8 0, .int .u16 0, .int .i64 0] 56 (0, 0)))) 
  all_goals (go_wp2_with (fail); go_meet)
  all_goals exact ⟨rfl, ⟨by repeat (first | exact hL7 | refine Ls.al ?_ _ | refine Ls.set ?_ (by first | omega | (simp; omega)) _)⟩⟩
 case rest =>
  clear HL
  obtain ⟨rfl, HL⟩ := hcut
  generalize wc = w4 at *
  go_upto_region 5 with (fail)
  go_cut [6, 7] (fun v6 v7 wc => ∃ X B0 B1 B2 d0 d1 d2, v6 = .pointer (some ⟨X, 0, none⟩) ∧ v7 = .int .i64 0 ∧ Aside0 (Ls w S g cap wc) ∧ Aside0 (Lx X B0 B1 B2 d0 d1 d2 wc))
  case first =>
   have hLd := HL.out.below (below_drew (Below.refl _ w4))
   have s0 : w4.cell? ⟨S, 0, none⟩ = some (.slice (some ⟨g, 0, none⟩) 2 cap) := (blk_cell HL.out.s 0).trans rfl
   have s1 : w4.cell? ⟨S, 1, none⟩ = some (.slice none 0 0) := (blk_cell HL.out.s 1).trans rfl
   have s2 : w4.cell? ⟨S, 2, none⟩ = some (.slice none 0 0) := (blk_cell HL.out.s 2).trans rfl
   have hS3 : S < w4.heap.size := blk_lt HL.out.s
   clear HL
   go_region_law (first | (go_simp; go_at_call 20; refine (push_yes _ _ _ _ (Ls.c (w := w) (S := S) (g := g) (cap := cap) (by repeat (first | exact hL5 | refine Ls.al ?_ _))) HCAP.out (one_C (by first | exact hB | exact blk_alloc hB _ | (have := hB2; simpa using this)))).mono ?_; rintro e w7 ⟨B0, d0, B1, d1, B2, d2, rfl, hv7, hb7⟩; have hL7 : Ls w S g cap w7 := Ls.below (by repeat (first | exact hL5 | refine Ls.al ?_ _)) hb7; obtain ⟨hc7, hf7⟩ := Lives17.bcell hb7) |
    (go_simp; go_at_call 59; refine (garderoberef16_Num.calls 2 0 0 0 _ rfl).mono ?_; rintro e w5 ⟨rfl, hb5⟩; have hL5 : Ls w S g cap w5 := (by first | exact hLd.below hb5 | exact (hLd.below (below_alloc (Below.refl _ _) _)).below hb5); have t0 : w5.cell? ⟨S, 0, none⟩ = some (.slice (some ⟨g, 0, none⟩) 2 cap) := (blk_cell hL5.s 0).trans rfl; have t1 : w5.cell? ⟨S, 1, none⟩ = some (.slice none 0 0) := (blk_cell hL5.s 1).trans rfl; have t2 : w5.cell? ⟨S, 2, none⟩ = some (.slice none 0 0) := (blk_cell hL5.s 2).trans rfl; have hS5 : S < w5.heap.size := blk_lt hL5.s; (try have hz5 : w4.heap.size < w5.heap.size := (by have := hb5.size; simp at this; omega)); obtain ⟨hc5, hf5⟩ := Lives17.bcell hb5; have hB := blk_new w5 (.cells #[.int .u8 2, .int .u8 0, .int .u16 0, .int .i64 0] 56 (0, 0)); have hB2 := blk_new (w5.alloc (.cells #[.slice none 0 0, .slice none 0 0, .slice none 0 0] 53)) (.cells #[.int .u8 2, .int .u8 0, .int .u16 0, .int .i64 0] 56 (0, 0)))) 
   all_goals (go_wp2_with (fail); go_meet)
   all_goals (refine ⟨_, B0, B1, B2, d0, d1, d2, rfl, rfl, ⟨by repeat (first | exact hL7 | refine Ls.al ?_ _ | refine Ls.set ?_ (by first | omega | (simp; omega)) _)⟩, ⟨?_⟩⟩)
   all_goals first | exact hv7.new | exact hv7.put (by first | (simp; done) | (simp; omega)) (blk_below (blk_new _ _) hb7) | exact hv7.put (by first | (simp; done) | (simp; omega)) (blk_below (by have := blk_new (w5.alloc (.cells #[.int .u8 2, .int .u8 0, .int .u16 0, .int .i64 0] 56)) (.cells #[.slice none 0 0, .slice none 0 0, .slice none 0 0] 53 (0, 0)); simpa using this) hb7) | exact hv7.put (by first | (simp; done) | (simp; omega)) (blk_below (blk_alloc (blk_new w5 (.cells #[.slice none 0 0, .slice none 0 0, .slice none 0 0] 53 (0, 0))) _) hb7) | exact hv7.put (by first | (simp; done) | (simp; omega)) (blk_below (blk_alloc (blk_below (w := (w4.alloc (.cells #[.slice none 0 0, .slice none 0 0, .slice none 0 0] 53)).drew) (blk_new w4 (.cells #[.slice none 0 0, .slice none 0 0, .slice none 0 0] 53 (0, 0))) hb5) _) hb7)
  case rest =>
   clear HL
   obtain ⟨X, B0, B1, B2, d0, d1, d2, rfl, rfl, HL, HX⟩ := hcut
   generalize wc = w8 at *
   have x0 : w8.cell? ⟨X, 0, none⟩ = some (.slice B0 2 d0) := (blk_cell HX.out.x 0).trans rfl
   have x1 : w8.cell? ⟨X, 1, none⟩ = some (.slice B1 1 d1) := (blk_cell HX.out.x 1).trans rfl
   have x2 : w8.cell? ⟨X, 2, none⟩ = some (.slice B2 0 d2) := (blk_cell HX.out.x 2).trans rfl
   go_wp2_with (fail)
   refine (get_1 _ _ _ _ _ _ _ HX.out.c0 HX.out.l0 HX.out.c1 HX.out.l1 HX.out.c2).mono ?_
   rintro e w9 ⟨rfl, hb9⟩
   have HX9 := Aside0.mk (HX.out.below hb9)
   have HL9 := Aside0.mk (HL.out.below hb9)
   clear x0 x1 x2 hb9 HX HL
   have x0 : w9.cell? ⟨X, 0, none⟩ = some (.slice B0 2 d0) := (blk_cell HX9.out.x 0).trans rfl
   have x1 : w9.cell? ⟨X, 1, none⟩ = some (.slice B1 1 d1) := (blk_cell HX9.out.x 1).trans rfl
   have x2 : w9.cell? ⟨X, 2, none⟩ = some (.slice B2 0 d2) := (blk_cell HX9.out.x 2).trans rfl
   have xl : X < w9.heap.size := blk_lt HX9.out.x
   go_wp2_with (fail)
   have HX10 := HX9.out.below (below_alloc (Below.refl _ _) (.cells #[.int .u8 1, .int .u8 0, .int .u16 0, .int .i64 0] 56 (0, 0)))
   refine (get_2 _ _ _ _ _ _ _ HX10.c0 HX10.l0 HX10.c1 HX10.l1 HX10.c2).mono ?_
   rintro e w10 ⟨rfl, hb10⟩
   have HX11 := HX10.below hb10
   have HL11 := (HL9.out.al (.cells #[.int .u8 1, .int .u8 0, .int .u16 0, .int .i64 0] 56 (0, 0))).below hb10
   have bv := blk_below (blk_new w9 (.cells #[.int .u8 1, .int .u8 0, .int .u16 0, .int .i64 0] 56 (0, 0))) hb10
   generalize w9.heap.size = V at *
   clear x0 x1 x2 xl hb10 HX9 HL9 HX10
   have x1 : w10.cell? ⟨X, 1, none⟩ = some (.slice B1 1 d1) := (blk_cell HX11.x 1).trans rfl
   have s0 : w10.cell? ⟨S, 0, none⟩ = some (.slice (some ⟨g, 0, none⟩) 2 cap) := (blk_cell HL11.s 0).trans rfl
   have t0 : w10.cell? ⟨V, 0, none⟩ = some (.int .u8 1) := (blk_cell bv 0).trans rfl
   have t1 : w10.cell? ⟨V, 1, none⟩ = some (.int .u8 0) := (blk_cell bv 1).trans rfl
   have t2 : w10.cell? ⟨V, 2, none⟩ = some (.int .u16 0) := (blk_cell bv 2).trans rfl
   have t3 : w10.cell? ⟨V, 3, none⟩ = some (.int .i64 0) := (blk_cell bv 3).trans rfl
   have xl : X < w10.heap.size := blk_lt HX11.x
   have sl : S < w10.heap.size := blk_lt HL11.s
   have vl : V < w10.heap.size := blk_lt bv
   have HB := Aside0.mk HL11.b
   have hu56 := Try.underlying56
   clear HX11 HL11 bv
   go_wp2_with (fail)
   have HBa := Aside0.mk (HB.out.alloc HB.out.size (.cells #[.int .u8 0, .int .u8 0, .int .u16 0, .int .i64 0] 56))
   generalize hw11 : w10.alloc (.cells #[.int .u8 0, .int .u8 0, .int .u16 0, .int .i64 0] 56) = w11 at *
   have y0 : w11.cell? ⟨S, 0, none⟩ = some (.slice (some ⟨g, 0, none⟩) 2 cap) := by rw [← hw11]; simp [World.cell?_alloc_past, sl, s0]
   have y1 : w11.cell? ⟨X, 1, none⟩ = some (.slice B1 1 d1) := by rw [← hw11]; simp [World.cell?_alloc_past, xl, x1]
   have y2 : w11.cell? ⟨V, 0, none⟩ = some (.int .u8 1) := by rw [← hw11]; simp [World.cell?_alloc_past, vl, t0]
   have y3 : w11.cell? ⟨V, 1, none⟩ = some (.int .u8 0) := by rw [← hw11]; simp [World.cell?_alloc_past, vl, t1]
   have y4 : w11.cell? ⟨V, 2, none⟩ = some (.int .u16 0) := by rw [← hw11]; simp [World.cell?_alloc_past, vl, t2]
   have y5 : w11.cell? ⟨V, 3, none⟩ = some (.int .i64 0) := by rw [← hw11]; simp [World.cell?_alloc_past, vl, t3]
   have hz11 : S < w11.heap.size ∧ X < w11.heap.size ∧ V < w11.heap.size := by rw [← hw11]; simp; omega
   have hk := Lib.hid (fun (wy : World) (c : Below w11.heap.size w11 wy) => show wy.cell? ⟨S, 0, none⟩ = some (.slice (some ⟨g, 0, none⟩) 2 cap) ∧ wy.cell? ⟨X, 1, none⟩ = some (.slice B1 1 d1) ∧ wy.cell? ⟨V, 0, none⟩ = some (.int .u8 1) ∧ wy.cell? ⟨V, 1, none⟩ = some (.int .u8 0) ∧ wy.cell? ⟨V, 2, none⟩ = some (.int .u16 0) ∧ wy.cell? ⟨V, 3, none⟩ = some (.int .i64 0) from
    ⟨(c.cell (p := ⟨S, 0, none⟩) hz11.1).trans y0, (c.cell (p := ⟨X, 1, none⟩) hz11.2.1).trans y1, (c.cell (p := ⟨V, 0, none⟩) hz11.2.2).trans y2, (c.cell (p := ⟨V, 1, none⟩) hz11.2.2).trans y3, (c.cell (p := ⟨V, 2, none⟩) hz11.2.2).trans y4, (c.cell (p := ⟨V, 3, none⟩) hz11.2.2).trans y5⟩)
   clear hw11 x1 s0 t0 t1 t2 t3 xl sl vl hz11 HB
   go_region_held3 (fun w' => w'.cell? ⟨S, 0, none⟩ = some (.slice (some ⟨g, 0, none⟩) 2 cap) ∧ w'.cell? ⟨X, 1, none⟩ = some (.slice B1 1 d1) ∧ w'.cell? ⟨V, 0, none⟩ = some (.int .u8 1) ∧ w'.cell? ⟨V, 1, none⟩ = some (.int .u8 0) ∧ w'.cell? ⟨V, 2, none⟩ = some (.int .u16 0) ∧ w'.cell? ⟨V, 3, none⟩ = some (.int .i64 0)) (first | exact ⟨y0, y1, y2, y3, y4, y5⟩ | exact hk.out _ ((below_drew (Below.refl _ w11)).trans hb12) | exact hk.out _ hb12) (first | (go_at_call 32; refine (garderoberef16_None.calls 1 0 0 0 _ rfl).mono ?_; rintro e w12 ⟨rfl, hb12⟩))
   all_goals (go_wp2_with (fail); go_ret; exact ⟨rfl, (below_drew HBa.out).trans (hb12.mono HBa.out.size)⟩)
def garderobelaw17_lives.f  : Option (Bool) := some true
set_option maxHeartbeats 8000000 in
set_option maxRecDepth 100000 in
theorem garderobelaw17_lives.calls  (r : Bool) (w : World) (h : garderobelaw17_lives.f  = some r) :
  Calls Try.prog 18 #[] w fun e w' => e = .returned (.bool r) ∧ Below w.heap.size w w' := by
 obtain rfl : true = r := Option.some.inj h
 exact lives_any w

/-! ### garderoberef17_Copy: function 19 -/
def garderoberef17_Copy.f (l0_0 : List (S56)) (l0_1 : List (S56)) (l0_2 : List Int) : Option ((List (S56)) × (List (S56)) × List Int) := if ([] : List (S56)).length + l0_0.length < 8796093022208 then (if ([] : List (S56)).length + l0_1.length < 8796093022208 then (if ([] : List Int).length + l0_2.length < 17592186044416 then (some ((([] : List (S56)) ++ l0_0), (([] : List (S56)) ++ l0_1), (([] : List Int) ++ l0_2))) else (none)) else (none)) else (none)
set_option maxHeartbeats 8000000 in
set_option maxRecDepth 100000 in
theorem garderoberef17_Copy.calls (A0_0 : Option Addr) (c0_0 : Nat) (l0_0 : List (S56)) (A0_1 : Option Addr) (c0_1 : Nat) (l0_1 : List (S56)) (A0_2 : Option Addr) (c0_2 : Nat) (l0_2 : List Int) (r1 : List (S56)) (r2 : List (S56)) (r3 : List Int) (w : World) (hr0_0 : Kd.C k56 w A0_0 l0_0.length l0_0) (hc0_0 : l0_0.length ≤ c0_0) (hr0_1 : Kd.C k56 w A0_1 l0_1.length l0_1) (hc0_1 : l0_1.length ≤ c0_1) (hr0_2 : Kd.C (Kd.int .i64) w A0_2 l0_2.length l0_2) (hc0_2 : l0_2.length ≤ c0_2) (h : garderoberef17_Copy.f l0_0 l0_1 l0_2 = some (r1, r2, r3)) :
  Calls Try.prog 19 #[.agg #[.slice A0_0 l0_0.length c0_0, .slice A0_1 l0_1.length c0_1, .slice A0_2 l0_2.length c0_2]] w fun e w' => ∃ v0_ v1_ v2_ : Value, e = .returned (.agg #[v0_, v1_, v2_]) ∧ Kd.R k56 56 w' w.heap.size (fun k_ => some k_ ≠ (v1_ : Value).ownBlock) v0_ r1 ∧ Kd.R k56 56 w' w.heap.size (fun k_ => some k_ ≠ (v0_ : Value).ownBlock) v1_ r2 ∧ Kd.R (Kd.int .i64) 3 w' w.heap.size (fun _ => True) v2_ r3 ∧ Below w.heap.size w w' := by
 have hu53 := Try.underlying53
 have HR0_0 := Aside0.mk hr0_0
 have HC0_0 := Aside0.mk hc0_0
 clear hr0_0 hc0_0
 have HR0_1 := Aside0.mk hr0_1
 have HC0_1 := Aside0.mk hc0_1
 clear hr0_1 hc0_1
 have HR0_2 := Aside0.mk hr0_2
 have HC0_2 := Aside0.mk hc0_2
 clear hr0_2 hc0_2
 have HB := Aside0.mk (Below.refl w.heap.size w)
 have H : (if ([] : List (S56)).length + l0_0.length < 8796093022208 then (if ([] : List (S56)).length + l0_1.length < 8796093022208 then (if ([] : List Int).length + l0_2.length < 17592186044416 then (some ((([] : List (S56)) ++ l0_0), (([] : List (S56)) ++ l0_1), (([] : List Int) ++ l0_2))) else (none)) else (none)) else (none)) = some (r1, r2, r3) := h
 clear h
 by_cases c2 : ([] : List (S56)).length + l0_0.length < 8796093022208
 ·rw [if_pos c2] at H
  have LMc2 := Aside0.mk c2
  clear c2
  obtain ⟨y146, hy146⟩ : ∃ y_ : List (S56), y_ = (([] : List (S56)) ++ l0_0) := ⟨_, rfl⟩
  replace H : (if ([] : List (S56)).length + l0_1.length < 8796093022208 then (if ([] : List Int).length + l0_2.length < 17592186044416 then (some (y146, (([] : List (S56)) ++ l0_1), (([] : List Int) ++ l0_2))) else (none)) else (none)) = some (r1, r2, r3) := by first | (rw [hy146]; with_reducible exact H) | (have H2_ := (Option.bind_some _ _).symm.trans H; rw [hy146]; with_reducible exact H2_) | (have H2_ := (Option.bind_some _ _).symm.trans H; with_reducible exact H2_) | with_reducible exact H | (rw [hy146]; exact H) | exact H
  have Ny146 := Aside0.mk hy146
  clear hy146
  by_cases c3 : ([] : List (S56)).length + l0_1.length < 8796093022208
  ·rw [if_pos c3] at H
   have LMc3 := Aside0.mk c3
   clear c3
   obtain ⟨y149, hy149⟩ : ∃ y_ : List (S56), y_ = (([] : List (S56)) ++ l0_1) := ⟨_, rfl⟩
   replace H : (if ([] : List Int).length + l0_2.length < 17592186044416 then (some (y146, y149, (([] : List Int) ++ l0_2))) else (none)) = some (r1, r2, r3) := by first | (rw [hy149]; with_reducible exact H) | (have H2_ := (Option.bind_some _ _).symm.trans H; rw [hy149]; with_reducible exact H2_) | (have H2_ := (Option.bind_some _ _).symm.trans H; with_reducible exact H2_) | with_reducible exact H | (rw [hy149]; exact H) | exact H
   have Ny149 := Aside0.mk hy149
   clear hy149
   by_cases c4 : ([] : List Int).length + l0_2.length < 17592186044416
   ·rw [if_pos c4] at H
    have LMc4 := Aside0.mk c4
    clear c4
    obtain ⟨y152, hy152⟩ : ∃ y_ : List Int, y_ = (([] : List Int) ++ l0_2) := ⟨_, rfl⟩
    replace H : (some (y146, y149, y152)) = some (r1, r2, r3) := by first | (rw [hy152]; with_reducible exact H) | (have H2_ := (Option.bind_some _ _).symm.trans H; rw [hy152]; with_reducible exact H2_) | (have H2_ := (Option.bind_some _ _).symm.trans H; with_reducible exact H2_) | with_reducible exact H | (rw [hy152]; exact H) | exact H
    have Ny152 := Aside0.mk hy152
    clear hy152
    simp only [Option.some.injEq, Prod.mk.injEq] at H
    obtain ⟨rfl, rfl, rfl⟩ := H
    go_enter Try.func19, Try.ntmps19
    go_wp2_with (first | ((with_reducible refine gate_dst (N := 1) rfl ?_); refine box_event ?hg (N := 1) ?hd (cs := #[.slice A0_0 l0_0.length c0_0, .slice A0_1 l0_1.length c0_1, .slice A0_2 l0_2.length c0_2]) (t := 53) ?hr ?_; (case hd => rfl); (case hg => rfl); (case hr => first | (go_simp; done) | (go_simp; rfl)); intro gb143 hg w5 hbox hb; have n0_ := Aside0.mk (below_step (qW HB.out) hb); have n1_ := Aside0.mk (hbox); have n2_ := Aside0.mk ((by rw [hg]; exact (below_size (qW HB.out)) : w.heap.size ≤ gb143)); have n3_ := Aside0.mk ((by rw [hg]; exact (below_size (qW HB.out)) : w.heap.size ≤ gb143)); clear HB; have HB := n0_; have BK143 := n1_; have GW143 := n2_; have GE143 := n3_; clear n0_ n1_ n2_ n3_; clear hb hbox hg) | ((with_reducible refine gate_dst (N := 2) rfl ?_); refine box_event ?hg (N := 2) ?hd (cs := #[.slice none 0 0, .slice none 0 0, .slice none 0 0]) (t := 53) ?hr ?_; (case hd => rfl); (case hg => rfl); (case hr => first | (go_simp; done) | (go_simp; rfl)); intro gb144 hg w6 hbox hb; have n0_ := Aside0.mk (blk_below (qb BK143.out) hb); have n1_ := Aside0.mk (below_step (qW HB.out) hb); have n2_ := Aside0.mk (hbox); have n3_ := Aside0.mk ((by rw [hg]; exact (below_size (qW HB.out)) : w.heap.size ≤ gb144)); have n4_ := Aside0.mk ((by rw [hg]; exact (below_size (qW HB.out)) : w.heap.size ≤ gb144)); have n5_ := Aside0.mk ((by rw [hg]; exact Nat.ne_of_lt (blk_lt (qb BK143.out)) : gb143 ≠ gb144)); have n6_ := Aside0.mk ((by rw [hg]; exact Nat.ne_of_gt (blk_lt (qb BK143.out)) : gb144 ≠ gb143)); clear BK143 HB; have BK143 := n0_; have HB := n1_; have BK144 := n2_; have GW144 := n3_; have GE144 := n4_; have NB143_144 := n5_; have NB144_143 := n6_; clear n0_ n1_ n2_ n3_ n4_ n5_ n6_; clear hb hbox hg) | ((with_reducible refine gate_dst (N := 3) rfl ?_); refine box_event ?hg (N := 3) ?hd (cs := #[.slice none 0 0, .slice none 0 0, .slice none 0 0]) (t := 53) ?hr ?_; (case hd => rfl); (case hg => rfl); (case hr => first | (go_simp; done) | (go_simp; rfl)); intro gb145 hg w7 hbox hb; have n0_ := Aside0.mk (blk_below (qb BK143.out) hb); have n1_ := Aside0.mk (blk_below (qb BK144.out) hb); have n2_ := Aside0.mk (below_step (qW HB.out) hb); have n3_ := Aside0.mk (hbox); have n4_ := Aside0.mk ((by rw [hg]; exact (below_size (qW HB.out)) : w.heap.size ≤ gb145)); have n5_ := Aside0.mk ((by rw [hg]; exact (below_size (qW HB.out)) : w.heap.size ≤ gb145)); have n6_ := Aside0.mk ((by rw [hg]; exact Nat.ne_of_lt (blk_lt (qb BK143.out)) : gb143 ≠ gb145)); have n7_ := Aside0.mk ((by rw [hg]; exact Nat.ne_of_gt (blk_lt (qb BK143.out)) : gb145 ≠ gb143)); have n8_ := Aside0.mk ((by rw [hg]; exact Nat.ne_of_lt (blk_lt (qb BK144.out)) : gb144 ≠ gb145)); have n9_ := Aside0.mk ((by rw [hg]; exact Nat.ne_of_gt (blk_lt (qb BK144.out)) : gb145 ≠ gb144)); clear BK143 BK144 HB; have BK143 := n0_; have BK144 := n1_; have HB := n2_; have BK145 := n3_; have GW145 := n4_; have GE145 := n5_; have NB143_145 := n6_; have NB145_143 := n7_; have NB144_145 := n8_; have NB145_144 := n9_; clear n0_ n1_ n2_ n3_ n4_ n5_ n6_ n7_ n8_ n9_; clear hb hbox hg; have hnb8 := NB145_143.out; have hnc8 := NB143_145.out; have hnb9 := NB145_144.out; have hnc9 := NB144_145.out; have hcz10_0 : w7.cell? ⟨gb145, 0, none⟩ = some (.slice none 0 0) := (blk_cell BK145.out 0).trans rfl; have hcz10_1 : w7.cell? ⟨gb145, 1, none⟩ = some (.slice none 0 0) := (blk_cell BK145.out 1).trans rfl; have hcz10_2 : w7.cell? ⟨gb145, 2, none⟩ = some (.slice none 0 0) := (blk_cell BK145.out 2).trans rfl; have hfz10_0 := blk_frozen BK145.out 0; have hfz10_1 := blk_frozen BK145.out 1; have hfz10_2 := blk_frozen BK145.out 2; have hnb11 := NB143_144.out; have hnc11 := NB144_143.out; have hcz12_0 : w7.cell? ⟨gb143, 0, none⟩ = some (.slice A0_0 l0_0.length c0_0) := (blk_cell BK143.out 0).trans rfl; have hcz12_1 : w7.cell? ⟨gb143, 1, none⟩ = some (.slice A0_1 l0_1.length c0_1) := (blk_cell BK143.out 1).trans rfl; have hcz12_2 : w7.cell? ⟨gb143, 2, none⟩ = some (.slice A0_2 l0_2.length c0_2) := (blk_cell BK143.out 2).trans rfl; have hfz12_0 := blk_frozen BK143.out 0; have hfz12_1 := blk_frozen BK143.out 1; have hfz12_2 := blk_frozen BK143.out 2) | ((with_reducible refine gate_builtin (b := .append) (xs := #[.tmp 5, .tmp 7]) rfl ?_); at_builtin; refine Kd.R_append_rows k56 (w0 := w) w.heap.size rfl (.tmp 5) (.tmp 7) 50 56 (.agg #[(.int .u8 0), (.int .u8 0), (.int .u16 0), (.int .i64 0)]) 16 rfl Try.underlying50 info56 rfl (by decide) (by omega) (.slice none 0 0) ([] : List (S56)) l0_0 _ _ _ (fun _ => True) (fun _ => False) rfl rfl ?aO ?aR (fun _ _ h => h) (fun _ h => h.elim) ?aF ?aB ?aS ?aL ?_; (case aR => exact qC (Kd.C_below HR0_0.out HB.out)); (case aB => exact (qW HB.out)); (case aF => exact (fun _ _ => trivial)); (case aO => exact ((Kd.R_nil _ _ _ _ (fun _ => True)))); (case aS => exact (below_size (qW HB.out))); (case aL => have := LMc2.out; omega); intro v147 w13 ho hb hg hat; rw [← Ny146.out] at ho; have n0_ := Aside0.mk (blk_grown (qb BK143.out) hg (by simp [Value.ownBlock])); have n1_ := Aside0.mk (blk_grown (qb BK144.out) hg (by simp [Value.ownBlock])); have n2_ := Aside0.mk (blk_grown (qb BK145.out) hg (by simp [Value.ownBlock])); have n3_ := Aside0.mk (hb); have n4_ := Aside0.mk (ho); clear BK143 BK144 BK145 HB; have BK143 := n0_; have BK144 := n1_; have BK145 := n2_; have HB := n3_; have HO148 := n4_; clear n0_ n1_ n2_ n3_ n4_; clear ho hb hg hat; obtain ⟨Ao14, co14, eo14⟩ := Kd.R_slice HO148.out; subst eo14; have hcz15_0 : w13.cell? ⟨gb145, 0, none⟩ = some (.slice none 0 0) := (blk_cell BK145.out 0).trans rfl; have hcz15_1 : w13.cell? ⟨gb145, 1, none⟩ = some (.slice none 0 0) := (blk_cell BK145.out 1).trans rfl; have hcz15_2 : w13.cell? ⟨gb145, 2, none⟩ = some (.slice none 0 0) := (blk_cell BK145.out 2).trans rfl; have hfz15_0 := blk_frozen BK145.out 0; have hfz15_1 := blk_frozen BK145.out 1; have hfz15_2 := blk_frozen BK145.out 2; have hcz16_0 : w13.cell? ⟨gb143, 0, none⟩ = some (.slice A0_0 l0_0.length c0_0) := (blk_cell BK143.out 0).trans rfl; have hcz16_1 : w13.cell? ⟨gb143, 1, none⟩ = some (.slice A0_1 l0_1.length c0_1) := (blk_cell BK143.out 1).trans rfl; have hcz16_2 : w13.cell? ⟨gb143, 2, none⟩ = some (.slice A0_2 l0_2.length c0_2) := (blk_cell BK143.out 2).trans rfl; have hfz16_0 := blk_frozen BK143.out 0; have hfz16_1 := blk_frozen BK143.out 1; have hfz16_2 := blk_frozen BK143.out 2) | ((with_reducible refine gate_builtin (b := .append) (xs := #[.tmp 11, .tmp 13]) rfl ?_); at_builtin; refine Kd.R_append_rows k56 (w0 := w) w.heap.size rfl (.tmp 11) (.tmp 13) 50 56 (.agg #[(.int .u8 0), (.int .u8 0), (.int .u16 0), (.int .i64 0)]) 16 rfl Try.underlying50 info56 rfl (by decide) (by omega) (.slice none 0 0) ([] : List (S56)) l0_1 _ _ _ (fun k_ => some k_ ≠ (.slice Ao14 y146.length co14 : Value).ownBlock) (fun _ => False) rfl rfl ?aO ?aR (fun _ _ h => h) (fun _ h => h.elim) ?aF ?aB ?aS ?aL ?_; (case aR => exact Kd.C_below HR0_1.out (qW HB.out)); (case aB => exact (qW HB.out)); (case aF => exact (fun k_ hk => Kd.fresh' (Kd.R_lt (qR (Kd.R_mono (Kd.R_far (p := ⟨gb145, 0, none⟩) (Kd.R_types HO148.out BK145.out (by decide)) (fun _ hk => hk.2) (.slice Ao14 y146.length co14)) (fun _ h_ => h_.1)))) k_ hk)); (case aO => exact ((Kd.R_nil _ _ _ _ (fun k_ => some k_ ≠ (.slice Ao14 y146.length co14 : Value).ownBlock)))); (case aS => exact (below_size (qW HB.out))); (case aL => have := LMc3.out; omega); intro v150 w17 ho hb hg hat; rw [← Ny149.out] at ho; have n0_ := Aside0.mk (blk_grown (qf BK143.out) hg (by simp [Value.ownBlock])); have n1_ := Aside0.mk (blk_grown (qf BK144.out) hg (by simp [Value.ownBlock])); have n2_ := Aside0.mk (blk_grown (g := gb145) (o := .cells #[.slice Ao14 y146.length co14, .slice none 0 0, .slice none 0 0] 53 (0, 0)) (by (with_reducible repeat (first | refine blk_drewN ?_ _ | refine blk_drew ?_ | refine blk_alloc ?_ _)); refine blk_put (cs := #[.slice none 0 0, .slice none 0 0, .slice none 0 0]) ?_ 0 _ rfl; (with_reducible repeat (first | refine blk_drewN ?_ _ | refine blk_drew ?_ | refine blk_alloc ?_ _)); exact BK145.out) hg (by simp [Value.ownBlock])); have n3_ := Aside0.mk (Kd.R_after (Kd.R_apart_nil (qR (Kd.R_mono (Kd.R_far (p := ⟨gb145, 0, none⟩) (Kd.R_types HO148.out BK145.out (by decide)) (fun _ hk => hk.2) (.slice Ao14 y146.length co14)) (fun _ h_ => h_.1)))) hg hat); have n4_ := Aside0.mk (hb); have n5_ := Aside0.mk (ho); clear BK143 BK144 BK145 HO148 HB; have BK143 := n0_; have BK144 := n1_; have BK145 := n2_; have HO148 := n3_; have HB := n4_; have HO151 := n5_; clear n0_ n1_ n2_ n3_ n4_ n5_; clear ho hb hg hat; obtain ⟨Ao18, co18, eo18⟩ := Kd.R_slice HO151.out; subst eo18; have hcz19_0 : w17.cell? ⟨gb145, 0, none⟩ = some (.slice Ao14 y146.length co14) := (blk_cell BK145.out 0).trans rfl; have hcz19_1 : w17.cell? ⟨gb145, 1, none⟩ = some (.slice none 0 0) := (blk_cell BK145.out 1).trans rfl; have hcz19_2 : w17.cell? ⟨gb145, 2, none⟩ = some (.slice none 0 0) := (blk_cell BK145.out 2).trans rfl; have hfz19_0 := blk_frozen BK145.out 0; have hfz19_1 := blk_frozen BK145.out 1; have hfz19_2 := blk_frozen BK145.out 2; have hcz20_0 : w17.cell? ⟨gb143, 0, none⟩ = some (.slice A0_0 l0_0.length c0_0) := (blk_cell BK143.out 0).trans rfl; have hcz20_1 : w17.cell? ⟨gb143, 1, none⟩ = some (.slice A0_1 l0_1.length c0_1) := (blk_cell BK143.out 1).trans rfl; have hcz20_2 : w17.cell? ⟨gb143, 2, none⟩ = some (.slice A0_2 l0_2.length c0_2) := (blk_cell BK143.out 2).trans rfl; have hfz20_0 := blk_frozen BK143.out 0; have hfz20_1 := blk_frozen BK143.out 1; have hfz20_2 := blk_frozen BK143.out 2) | ((with_reducible refine gate_builtin (b := .append) (xs := #[.tmp 17, .tmp 19]) rfl ?_); at_builtin; refine Kd.R_append_rows (Kd.int .i64) (w0 := w) w.heap.size rfl (.tmp 17) (.tmp 19) 51 3 (.int .i64 0) 8 rfl Try.underlying51 info3 rfl (by decide) (by omega) (.slice none 0 0) ([] : List Int) l0_2 _ _ _ (fun _ => True) (fun _ => False) rfl rfl ?aO ?aR (fun _ _ h => h) (fun _ h => h.elim) ?aF ?aB ?aS ?aL ?_; (case aR => exact Kd.C_below HR0_2.out (qW HB.out)); (case aB => exact (qW HB.out)); (case aF => exact (fun _ _ => trivial)); (case aO => exact ((Kd.R_nil _ _ _ _ (fun _ => True)))); (case aS => exact (below_size (qW HB.out))); (case aL => have := LMc4.out; omega); intro v153 w21 ho hb hg hat; rw [← Ny152.out] at ho; have n0_ := Aside0.mk (blk_grown (qf BK143.out) hg (by simp [Value.ownBlock])); have n1_ := Aside0.mk (blk_grown (qf BK144.out) hg (by simp [Value.ownBlock])); have n2_ := Aside0.mk (blk_grown (g := gb145) (o := .cells #[.slice Ao14 y146.length co14, .slice Ao18 y149.length co18, .slice none 0 0] 53 (0, 0)) (by (with_reducible repeat (first | refine blk_drewN ?_ _ | refine blk_drew ?_ | refine blk_alloc ?_ _)); refine blk_put (cs := #[.slice Ao14 y146.length co14, .slice none 0 0, .slice none 0 0]) ?_ 1 _ rfl; (with_reducible repeat (first | refine blk_drewN ?_ _ | refine blk_drew ?_ | refine blk_alloc ?_ _)); exact BK145.out) hg (by simp [Value.ownBlock])); have n3_ := Aside0.mk (Kd.R_grown (qR (Kd.R_mono (Kd.R_far (p := ⟨gb145, 1, none⟩) (Kd.R_types HO148.out BK145.out (by decide)) (fun _ hk => hk.2) (.slice Ao18 y149.length co18)) (fun _ h_ => h_.1))) hg (fun _ _ => by simp [Value.ownBlock])); have n4_ := Aside0.mk (Kd.R_grown (qR (Kd.R_mono (Kd.R_far (p := ⟨gb145, 1, none⟩) (Kd.R_types HO151.out BK145.out (by decide)) (fun _ hk => hk.2) (.slice Ao18 y149.length co18)) (fun _ h_ => h_.1))) hg (fun _ _ => by simp [Value.ownBlock])); have n5_ := Aside0.mk (hb); have n6_ := Aside0.mk (ho); clear BK143 BK144 BK145 HO148 HO151 HB; have BK143 := n0_; have BK144 := n1_; have BK145 := n2_; have HO148 := n3_; have HO151 := n4_; have HB := n5_; have HO154 := n6_; clear n0_ n1_ n2_ n3_ n4_ n5_ n6_; clear ho hb hg hat; obtain ⟨Ao22, co22, eo22⟩ := Kd.R_slice HO154.out; subst eo22; have hcz23_0 : w21.cell? ⟨gb145, 0, none⟩ = some (.slice Ao14 y146.length co14) := (blk_cell BK145.out 0).trans rfl; have hcz23_1 : w21.cell? ⟨gb145, 1, none⟩ = some (.slice Ao18 y149.length co18) := (blk_cell BK145.out 1).trans rfl; have hcz23_2 : w21.cell? ⟨gb145, 2, none⟩ = some (.slice none 0 0) := (blk_cell BK145.out 2).trans rfl; have hfz23_0 := blk_frozen BK145.out 0; have hfz23_1 := blk_frozen BK145.out 1; have hfz23_2 := blk_frozen BK145.out 2; have hcz24_0 : w21.cell? ⟨gb144, 0, none⟩ = some (.slice none 0 0) := (blk_cell BK144.out 0).trans rfl; have hcz24_1 : w21.cell? ⟨gb144, 1, none⟩ = some (.slice none 0 0) := (blk_cell BK144.out 1).trans rfl; have hcz24_2 : w21.cell? ⟨gb144, 2, none⟩ = some (.slice none 0 0) := (blk_cell BK144.out 2).trans rfl; have hfz24_0 := blk_frozen BK144.out 0; have hfz24_1 := blk_frozen BK144.out 1; have hfz24_2 := blk_frozen BK144.out 2))
    refine bodyPost_ret (results_cell_row rfl _ _ gb144 53 #[.slice Ao14 y146.length co14, .slice Ao18 y149.length co18, .slice Ao22 y152.length co22] (0, 0) _ rfl (by (with_reducible repeat (first | refine blk_drewN ?_ _ | refine blk_drew ?_ | refine blk_alloc ?_ _)); refine blk_put (cs := #[.slice Ao14 y146.length co14, .slice Ao18 y149.length co18, .slice none 0 0]) ?_ 2 _ rfl; (with_reducible repeat (first | refine blk_drewN ?_ _ | refine blk_drew ?_ | refine blk_alloc ?_ _)); refine blk_put (cs := #[.slice Ao14 y146.length co14, .slice none 0 0, .slice none 0 0]) ?_ 1 _ rfl; (with_reducible repeat (first | refine blk_drewN ?_ _ | refine blk_drew ?_ | refine blk_alloc ?_ _)); refine blk_put (cs := #[.slice none 0 0, .slice none 0 0, .slice none 0 0]) ?_ 0 _ rfl; (with_reducible repeat (first | refine blk_drewN ?_ _ | refine blk_drew ?_ | refine blk_alloc ?_ _)); refine blk_far ?_ NB144_145.out _; (with_reducible repeat (first | refine blk_drewN ?_ _ | refine blk_drew ?_ | refine blk_alloc ?_ _)); exact BK144.out) Try.underlying53 rfl (by kernel_rfl)) rfl ?_
    exact ⟨_, _, _, by first | rfl | (simp [errW_none, errW_some] <;> rfl) | (simp [*, errW_none, errW_some] <;> rfl), by (with_reducible repeat (first | apply Kd.R_alloc | apply Kd.R_drewN | apply Kd.R_drew)); exact Kd.R_mono (Kd.R_far (p := ⟨gb144, 2, none⟩) (Kd.R_far (p := ⟨gb144, 1, none⟩) (Kd.R_far (p := ⟨gb144, 0, none⟩) (Kd.R_far (p := ⟨gb145, 2, none⟩) (Kd.R_types (Kd.R_types HO148.out BK145.out (by decide)) BK144.out (by decide)) (fun _ hk => hk.1.2) (.slice Ao22 y152.length co22)) (fun _ hk => hk.2) (.slice Ao14 y146.length co14)) (fun _ hk => hk.2) (.slice Ao18 y149.length co18)) (fun _ hk => hk.2) (.slice Ao22 y152.length co22)) (fun _ hk => hk.1.1.2), by (with_reducible repeat (first | apply Kd.R_alloc | apply Kd.R_drewN | apply Kd.R_drew)); exact Kd.R_mono (Kd.R_far (p := ⟨gb144, 2, none⟩) (Kd.R_far (p := ⟨gb144, 1, none⟩) (Kd.R_far (p := ⟨gb144, 0, none⟩) (Kd.R_far (p := ⟨gb145, 2, none⟩) (Kd.R_types (Kd.R_types HO151.out BK145.out (by decide)) BK144.out (by decide)) (fun _ hk => hk.1.2) (.slice Ao22 y152.length co22)) (fun _ hk => hk.2) (.slice Ao14 y146.length co14)) (fun _ hk => hk.2) (.slice Ao18 y149.length co18)) (fun _ hk => hk.2) (.slice Ao22 y152.length co22)) (fun _ hk => hk.1.1), by (with_reducible repeat (first | apply Kd.R_alloc | apply Kd.R_drewN | apply Kd.R_drew)); exact Kd.R_mono (Kd.R_far (p := ⟨gb144, 2, none⟩) (Kd.R_far (p := ⟨gb144, 1, none⟩) (Kd.R_far (p := ⟨gb144, 0, none⟩) (Kd.R_far (p := ⟨gb145, 2, none⟩) (Kd.R_types (Kd.R_types HO154.out BK145.out (by decide)) BK144.out (by decide)) (fun _ hk => hk.1.2) (.slice Ao22 y152.length co22)) (fun _ hk => hk.2) (.slice Ao14 y146.length co14)) (fun _ hk => hk.2) (.slice Ao18 y149.length co18)) (fun _ hk => hk.2) (.slice Ao22 y152.length co22)) (fun _ hk => trivial), by repeat (first | (with_reducible first | exact HB.out | apply below_alloc | apply pw_below_drewN | apply below_drew1 | refine below_set ?_ GE143.out | refine below_set ?_ GE144.out | refine below_set ?_ GE145.out) | exact HB.out)⟩
   ·rw [if_neg c4] at H
    exact absurd H (by simp)
  ·rw [if_neg c3] at H
   exact absurd H (by simp)
 ·rw [if_neg c2] at H
  exact absurd H (by simp)

/-! ### garderoberef17_Push: function 21 -/
def garderoberef17_Push.f (l0_0 : List (S56)) (l0_1 : List (S56)) (l0_2 : List Int) (a1 : Int) (l2 : List (S56)) : Option ((List (S56)) × (List (S56)) × List Int × Int) := (garderoberef17_Copy.f l0_0 l0_1 l0_2).bind fun bt157 => (if bt157.2.1.length + l2.length < 8796093022208 then ((some (bt157.2.1 ++ l2 : List (S56))).bind fun y167 => (if (y167.length : Int) > a1 then (some (([] : List (S56)), ([] : List (S56)), ([] : List Int), 9)) else (some (bt157.1, y167, bt157.2.2, 0)))) else (none))
set_option maxHeartbeats 8000000 in
set_option maxRecDepth 100000 in
theorem garderoberef17_Push.calls (A0_0 : Option Addr) (c0_0 : Nat) (l0_0 : List (S56)) (A0_1 : Option Addr) (c0_1 : Nat) (l0_1 : List (S56)) (A0_2 : Option Addr) (c0_2 : Nat) (l0_2 : List Int) (a1 : Int) (A2 : Option Addr) (c2 : Nat) (l2 : List (S56)) (r1 : List (S56)) (r2 : List (S56)) (r3 : List Int) (r4 : Int) (w : World) (hr0_0 : Kd.C k56 w A0_0 l0_0.length l0_0) (hc0_0 : l0_0.length ≤ c0_0) (hr0_1 : Kd.C k56 w A0_1 l0_1.length l0_1) (hc0_1 : l0_1.length ≤ c0_1) (hr0_2 : Kd.C (Kd.int .i64) w A0_2 l0_2.length l0_2) (hc0_2 : l0_2.length ≤ c0_2) (hr2 : Kd.C k56 w A2 l2.length l2) (hc2 : l2.length ≤ c2) (h : garderoberef17_Push.f l0_0 l0_1 l0_2 a1 l2 = some (r1, r2, r3, r4)) :
  Calls Try.prog 21 #[.agg #[.slice A0_0 l0_0.length c0_0, .slice A0_1 l0_1.length c0_1, .slice A0_2 l0_2.length c0_2], .int .i64 a1, .slice A2 l2.length c2] w fun e w' => ∃ v0_ v1_ v2_ : Value, e = .returned (.tuple #[.agg #[v0_, v1_, v2_], .int .i64 r4]) ∧ Kd.R k56 56 w' w.heap.size (fun k_ => some k_ ≠ (v1_ : Value).ownBlock) v0_ r1 ∧ Kd.R k56 56 w' w.heap.size (fun k_ => some k_ ≠ (v0_ : Value).ownBlock) v1_ r2 ∧ Kd.R (Kd.int .i64) 3 w' w.heap.size (fun _ => True) v2_ r3 ∧ Below w.heap.size w w' := by
 have hu53 := Try.underlying53
 have HR0_0 := Aside0.mk hr0_0
 have HC0_0 := Aside0.mk hc0_0
 clear hr0_0 hc0_0
 have HR0_1 := Aside0.mk hr0_1
 have HC0_1 := Aside0.mk hc0_1
 clear hr0_1 hc0_1
 have HR0_2 := Aside0.mk hr0_2
 have HC0_2 := Aside0.mk hc0_2
 clear hr0_2 hc0_2
 have HR2 := Aside0.mk hr2
 have HC2 := Aside0.mk hc2
 clear hr2 hc2
 have HB := Aside0.mk (Below.refl w.heap.size w)
 have H : ((garderoberef17_Copy.f l0_0 l0_1 l0_2).bind fun bt157 => (if bt157.2.1.length + l2.length < 8796093022208 then ((some (bt157.2.1 ++ l2 : List (S56))).bind fun y167 => (if (y167.length : Int) > a1 then (some (([] : List (S56)), ([] : List (S56)), ([] : List Int), 9)) else (some (bt157.1, y167, bt157.2.2, 0)))) else (none))) = some (r1, r2, r3, r4) := h
 clear h
 replace H := Option.bind_eq_some_iff.mp H
 obtain ⟨⟨t157, t160, t163⟩, A40, H⟩ := H
 replace H : (if t160.length + l2.length < 8796093022208 then ((some (t160 ++ l2 : List (S56))).bind fun y167 => (if (y167.length : Int) > a1 then (some (([] : List (S56)), ([] : List (S56)), ([] : List Int), 9)) else (some (t157, y167, t163, 0)))) else (none)) = some (r1, r2, r3, r4) := H
 have A4 := Aside0.mk A40
 clear A40
 by_cases c5 : t160.length + l2.length < 8796093022208
 ·rw [if_pos c5] at H
  have LMc5 := Aside0.mk c5
  clear c5
  obtain ⟨y167, hy167⟩ : ∃ y_ : List (S56), y_ = (t160 ++ l2) := ⟨_, rfl⟩
  replace H : (if (y167.length : Int) > a1 then (some (([] : List (S56)), ([] : List (S56)), ([] : List Int), 9)) else (some (t157, y167, t163, 0))) = some (r1, r2, r3, r4) := by first | (rw [hy167]; with_reducible exact H) | (have H2_ := (Option.bind_some _ _).symm.trans H; rw [hy167]; with_reducible exact H2_) | (have H2_ := (Option.bind_some _ _).symm.trans H; with_reducible exact H2_) | with_reducible exact H | (rw [hy167]; exact H) | exact H
  have Ny167 := Aside0.mk hy167
  clear hy167
  by_cases c6 : (y167.length : Int) > a1
  ·rw [if_pos c6] at H
   have c6b0 : decide (a1 < (y167.length : Int)) = true := decide_eq_true c6
   clear c6
   simp only [Option.some.injEq, Prod.mk.injEq] at H
   obtain ⟨rfl, rfl, rfl, rfl⟩ := H
   go_enter Try.func21, Try.ntmps21
   go_wp2_with (first | ((with_reducible refine gate_dst (N := 3) rfl ?_); refine box_event ?hg (N := 3) ?hd (cs := #[.slice A0_0 l0_0.length c0_0, .slice A0_1 l0_1.length c0_1, .slice A0_2 l0_2.length c0_2]) (t := 53) ?hr ?_; (case hd => rfl); (case hg => rfl); (case hr => first | (go_simp; done) | (go_simp; rfl)); intro gb155 hg w7 hbox hb; have n0_ := Aside0.mk (below_step (qW HB.out) hb); have n1_ := Aside0.mk (hbox); have n2_ := Aside0.mk ((by rw [hg]; exact (below_size (qW HB.out)) : w.heap.size ≤ gb155)); have n3_ := Aside0.mk ((by rw [hg]; exact (below_size (qW HB.out)) : w.heap.size ≤ gb155)); clear HB; have HB := n0_; have BK155 := n1_; have GW155 := n2_; have GE155 := n3_; clear n0_ n1_ n2_ n3_; clear hb hbox hg) | ((with_reducible refine gate_dst (N := 6) rfl ?_); refine box_event ?hg (N := 6) ?hd (cs := #[.slice none 0 0, .slice none 0 0, .slice none 0 0]) (t := 53) ?hr ?_; (case hd => rfl); (case hg => rfl); (case hr => first | (go_simp; done) | (go_simp; rfl)); intro gb156 hg w8 hbox hb; have n0_ := Aside0.mk (blk_below (qb BK155.out) hb); have n1_ := Aside0.mk (below_step (qW HB.out) hb); have n2_ := Aside0.mk (hbox); have n3_ := Aside0.mk ((by rw [hg]; exact (below_size (qW HB.out)) : w.heap.size ≤ gb156)); have n4_ := Aside0.mk ((by rw [hg]; exact (below_size (qW HB.out)) : w.heap.size ≤ gb156)); have n5_ := Aside0.mk ((by rw [hg]; exact Nat.ne_of_lt (blk_lt (qb BK155.out)) : gb155 ≠ gb156)); have n6_ := Aside0.mk ((by rw [hg]; exact Nat.ne_of_gt (blk_lt (qb BK155.out)) : gb156 ≠ gb155)); clear BK155 HB; have BK155 := n0_; have HB := n1_; have BK156 := n2_; have GW156 := n3_; have GE156 := n4_; have NB155_156 := n5_; have NB156_155 := n6_; clear n0_ n1_ n2_ n3_ n4_ n5_ n6_; clear hb hbox hg; have hnb9 := NB155_156.out; have hnc9 := NB156_155.out; have hcz10_0 : w8.cell? ⟨gb155, 0, none⟩ = some (.slice A0_0 l0_0.length c0_0) := (blk_cell BK155.out 0).trans rfl; have hcz10_1 : w8.cell? ⟨gb155, 1, none⟩ = some (.slice A0_1 l0_1.length c0_1) := (blk_cell BK155.out 1).trans rfl; have hcz10_2 : w8.cell? ⟨gb155, 2, none⟩ = some (.slice A0_2 l0_2.length c0_2) := (blk_cell BK155.out 2).trans rfl; have hfz10_0 := blk_frozen BK155.out 0; have hfz10_1 := blk_frozen BK155.out 1; have hfz10_2 := blk_frozen BK155.out 2) | ((with_reducible refine gate_callee (f := 19) rfl ?_); refine goesL_ (some 10) rfl rfl Try.func19 (by kernel_rfl) rfl #[.agg #[.slice A0_0 l0_0.length c0_0, .slice A0_1 l0_1.length c0_1, .slice A0_2 l0_2.length c0_2]] rfl (by (try simp only [List.map_toArray, List.map_cons, List.map_nil]); first | done | rfl | (simp only [List.length_drop, List.length_take]; rfl)) ?_; (with_reducible refine (garderoberef17_Copy.calls _ _ l0_0 _ _ l0_1 _ _ l0_2 t157 t160 t163 _ ?side1 ?side2 ?side3 ?side4 ?side5 ?side6 A4.out).mono ?_); (case side1 => exact qC (Kd.C_below HR0_0.out HB.out)); (case side2 => exact HC0_0.out); (case side3 => exact qC (Kd.C_below HR0_1.out HB.out)); (case side4 => exact HC0_1.out); (case side5 => exact qC (Kd.C_below HR0_2.out HB.out)); (case side6 => exact HC0_2.out); rintro e w11 ⟨v158, v161, v164, rfl, ho0, ho1, ho2, hb⟩; refine ⟨_, rfl, ?_⟩; have n0_ := Aside0.mk (Kd.R_lower ho0 (below_size (qW HB.out))); have n1_ := Aside0.mk (Kd.R_lower ho1 (below_size (qW HB.out))); have n2_ := Aside0.mk (Kd.R_lower ho2 (below_size (qW HB.out))); have n3_ := Aside0.mk (blk_below (qb BK155.out) hb); have n4_ := Aside0.mk (blk_below (qb BK156.out) hb); have n5_ := Aside0.mk (below_step (qW HB.out) hb); clear BK155 BK156 HB; have HO159 := n0_; have HO162 := n1_; have HO165 := n2_; have BK155 := n3_; have BK156 := n4_; have HB := n5_; clear n0_ n1_ n2_ n3_ n4_ n5_; (try clear hb); (try clear hb2); (try clear hk); (try clear hi); (try clear ho0); (try clear ho1); (try clear ho2)) | ((with_reducible refine gate_dst (N := 8) rfl ?_); refine box_event ?hg (N := 8) ?hd (cs := #[.slice none 0 0, .slice none 0 0, .slice none 0 0]) (t := 53) ?hr ?_; (case hd => rfl); (case hg => rfl); (case hr => first | (go_simp; done) | (go_simp; rfl)); intro gb166 hg w12 hbox hb; have n0_ := Aside0.mk (Kd.R_below (qR HO159.out) hb); have n1_ := Aside0.mk (Kd.R_below (qR HO162.out) hb); have n2_ := Aside0.mk (Kd.R_below (qR HO165.out) hb); have n3_ := Aside0.mk (blk_below (qb BK155.out) hb); have n4_ := Aside0.mk (blk_below (qb BK156.out) hb); have n5_ := Aside0.mk (below_step (qW HB.out) hb); have n6_ := Aside0.mk (hbox); have n7_ := Aside0.mk ((by rw [hg]; exact (below_size (qW HB.out)) : w.heap.size ≤ gb166)); have n8_ := Aside0.mk ((by rw [hg]; exact (below_size (qW HB.out)) : w.heap.size ≤ gb166)); have n9_ := Aside0.mk ((by rw [hg]; exact Nat.ne_of_lt (blk_lt (qb BK155.out)) : gb155 ≠ gb166)); have n10_ := Aside0.mk ((by rw [hg]; exact Nat.ne_of_gt (blk_lt (qb BK155.out)) : gb166 ≠ gb155)); have n11_ := Aside0.mk ((by rw [hg]; exact Nat.ne_of_lt (blk_lt (qb BK156.out)) : gb156 ≠ gb166)); have n12_ := Aside0.mk ((by rw [hg]; exact Nat.ne_of_gt (blk_lt (qb BK156.out)) : gb166 ≠ gb156)); clear HO159 HO162 HO165 BK155 BK156 HB; have HO159 := n0_; have HO162 := n1_; have HO165 := n2_; have BK155 := n3_; have BK156 := n4_; have HB := n5_; have BK166 := n6_; have GW166 := n7_; have GE166 := n8_; have NB155_166 := n9_; have NB166_155 := n10_; have NB156_166 := n11_; have NB166_156 := n12_; clear n0_ n1_ n2_ n3_ n4_ n5_ n6_ n7_ n8_ n9_ n10_ n11_ n12_; clear hb hbox hg; obtain ⟨Ao13, co13, eo13⟩ := Kd.R_slice HO159.out; subst eo13; have hnb14 := NB166_155.out; have hnc14 := NB155_166.out; have hnb15 := NB166_156.out; have hnc15 := NB156_166.out; have hcz16_0 : w12.cell? ⟨gb166, 0, none⟩ = some (.slice none 0 0) := (blk_cell BK166.out 0).trans rfl; have hcz16_1 : w12.cell? ⟨gb166, 1, none⟩ = some (.slice none 0 0) := (blk_cell BK166.out 1).trans rfl; have hcz16_2 : w12.cell? ⟨gb166, 2, none⟩ = some (.slice none 0 0) := (blk_cell BK166.out 2).trans rfl; have hfz16_0 := blk_frozen BK166.out 0; have hfz16_1 := blk_frozen BK166.out 1; have hfz16_2 := blk_frozen BK166.out 2; obtain ⟨Ao17, co17, eo17⟩ := Kd.R_slice HO162.out; subst eo17; obtain ⟨Ao18, co18, eo18⟩ := Kd.R_slice HO165.out; subst eo18) | ((with_reducible refine gate_builtin (b := .append) (xs := #[.tmp 12, .tmp 13]) rfl ?_); at_builtin; refine Kd.R_append_rows k56 (w0 := w) w.heap.size rfl (.tmp 12) (.tmp 13) 50 56 (.agg #[(.int .u8 0), (.int .u8 0), (.int .u16 0), (.int .i64 0)]) 16 rfl Try.underlying50 info56 rfl (by decide) (by omega) (.slice Ao17 t160.length co17) t160 l2 _ _ _ (fun k_ => some k_ ≠ (.slice Ao13 t157.length co13 : Value).ownBlock) (fun _ => False) rfl rfl ?aO ?aR (fun _ _ h => h) (fun _ h => h.elim) ?aF ?aB ?aS ?aL ?_; (case aR => exact Kd.C_below HR2.out (qW HB.out)); (case aB => exact (qW HB.out)); (case aF => exact (fun k_ hk => Kd.fresh' (Kd.R_lt (qR (Kd.R_mono (Kd.R_far (p := ⟨gb166, 2, none⟩) (Kd.R_far (p := ⟨gb166, 1, none⟩) (Kd.R_far (p := ⟨gb166, 0, none⟩) (Kd.R_types HO159.out BK166.out (by decide)) (fun _ hk => hk.2) (.slice Ao13 t157.length co13)) (fun _ hk => hk.2) (.slice Ao17 t160.length co17)) (fun _ hk => hk.2) (.slice Ao18 t163.length co18)) (fun _ h_ => h_.1)))) k_ hk)); (case aO => exact (qR (Kd.R_mono (Kd.R_far (p := ⟨gb166, 2, none⟩) (Kd.R_far (p := ⟨gb166, 1, none⟩) (Kd.R_far (p := ⟨gb166, 0, none⟩) (Kd.R_types HO162.out BK166.out (by decide)) (fun _ hk => hk.2) (.slice Ao13 t157.length co13)) (fun _ hk => hk.2) (.slice Ao17 t160.length co17)) (fun _ hk => hk.2) (.slice Ao18 t163.length co18)) (fun _ hk => hk.1)))); (case aS => exact (below_size (qW HB.out))); (case aL => have := LMc5.out; omega); intro v168 w19 ho hb hg hat; rw [← Ny167.out] at ho; have n0_ := Aside0.mk (blk_grown (qf BK155.out) hg (Kd.R_ne HO162.out BK155.out (by decide))); have n1_ := Aside0.mk (blk_grown (qf BK156.out) hg (Kd.R_ne HO162.out BK156.out (by decide))); have n2_ := Aside0.mk (Kd.R_after (ok := (fun _ => True)) (qR (Kd.R_mono (Kd.R_far (p := ⟨gb166, 2, none⟩) (Kd.R_far (p := ⟨gb166, 1, none⟩) (Kd.R_far (p := ⟨gb166, 0, none⟩) (Kd.R_types HO159.out BK166.out (by decide)) (fun _ hk => hk.2) (.slice Ao13 t157.length co13)) (fun _ hk => hk.2) (.slice Ao17 t160.length co17)) (fun _ hk => hk.2) (.slice Ao18 t163.length co18)) (fun _ hk => ⟨trivial, hk.1⟩))) hg hat); have n3_ := Aside0.mk (Kd.R_over' (qR (Kd.R_mono (Kd.R_far (p := ⟨gb166, 2, none⟩) (Kd.R_far (p := ⟨gb166, 1, none⟩) (Kd.R_far (p := ⟨gb166, 0, none⟩) (Kd.R_types HO165.out BK166.out (by decide)) (fun _ hk => hk.2) (.slice Ao13 t157.length co13)) (fun _ hk => hk.2) (.slice Ao17 t160.length co17)) (fun _ hk => hk.2) (.slice Ao18 t163.length co18)) (fun _ h_ => h_.1))) (Kd.R_typed (qR (Kd.R_mono (Kd.R_far (p := ⟨gb166, 2, none⟩) (Kd.R_far (p := ⟨gb166, 1, none⟩) (Kd.R_far (p := ⟨gb166, 0, none⟩) (Kd.R_types HO162.out BK166.out (by decide)) (fun _ hk => hk.2) (.slice Ao13 t157.length co13)) (fun _ hk => hk.2) (.slice Ao17 t160.length co17)) (fun _ hk => hk.2) (.slice Ao18 t163.length co18)) (fun _ h_ => h_.1)))) (by decide) hg); have n4_ := Aside0.mk (blk_grown (g := gb166) (o := .cells #[.slice Ao13 t157.length co13, .slice Ao17 t160.length co17, .slice Ao18 t163.length co18] 53 (0, 0)) (by (with_reducible repeat (first | refine blk_drewN ?_ _ | refine blk_drew ?_ | refine blk_alloc ?_ _)); refine blk_put (cs := #[.slice Ao13 t157.length co13, .slice Ao17 t160.length co17, .slice none 0 0]) ?_ 2 _ rfl; (with_reducible repeat (first | refine blk_drewN ?_ _ | refine blk_drew ?_ | refine blk_alloc ?_ _)); refine blk_put (cs := #[.slice Ao13 t157.length co13, .slice none 0 0, .slice none 0 0]) ?_ 1 _ rfl; (with_reducible repeat (first | refine blk_drewN ?_ _ | refine blk_drew ?_ | refine blk_alloc ?_ _)); refine blk_put (cs := #[.slice none 0 0, .slice none 0 0, .slice none 0 0]) ?_ 0 _ rfl; (with_reducible repeat (first | refine blk_drewN ?_ _ | refine blk_drew ?_ | refine blk_alloc ?_ _)); exact BK166.out) hg (Kd.R_ne HO162.out BK166.out (by decide))); have n5_ := Aside0.mk (hb); have n6_ := Aside0.mk (ho); clear BK155 BK156 HO159 HO165 BK166 HB HO162; have BK155 := n0_; have BK156 := n1_; have HO159 := n2_; have HO165 := n3_; have BK166 := n4_; have HB := n5_; have HO169 := n6_; clear n0_ n1_ n2_ n3_ n4_ n5_ n6_; clear ho hb hg hat; obtain ⟨Ao20, co20, eo20⟩ := Kd.R_slice HO169.out; subst eo20; have hcz21_0 : w19.cell? ⟨gb166, 0, none⟩ = some (.slice Ao13 t157.length co13) := (blk_cell BK166.out 0).trans rfl; have hcz21_1 : w19.cell? ⟨gb166, 1, none⟩ = some (.slice Ao17 t160.length co17) := (blk_cell BK166.out 1).trans rfl; have hcz21_2 : w19.cell? ⟨gb166, 2, none⟩ = some (.slice Ao18 t163.length co18) := (blk_cell BK166.out 2).trans rfl; have hfz21_0 := blk_frozen BK166.out 0; have hfz21_1 := blk_frozen BK166.out 1; have hfz21_2 := blk_frozen BK166.out 2; have hcz22_0 : w19.cell? ⟨gb156, 0, none⟩ = some (.slice none 0 0) := (blk_cell BK156.out 0).trans rfl; have hcz22_1 : w19.cell? ⟨gb156, 1, none⟩ = some (.slice none 0 0) := (blk_cell BK156.out 1).trans rfl; have hcz22_2 : w19.cell? ⟨gb156, 2, none⟩ = some (.slice none 0 0) := (blk_cell BK156.out 2).trans rfl; have hfz22_0 := blk_frozen BK156.out 0; have hfz22_1 := blk_frozen BK156.out 1; have hfz22_2 := blk_frozen BK156.out 2))
   refine bodyPost_ret (results_ct rfl _ _ gb156 53 #[.slice none 0 0, .slice none 0 0, .slice none 0 0] (0, 0) _ rfl (by (with_reducible repeat (first | refine blk_drewN ?_ _ | refine blk_drew ?_ | refine blk_alloc ?_ _)); refine blk_put (cs := #[.slice none 0 0, .slice none 0 0, .slice none 0 0]) ?_ 2 _ rfl; (with_reducible repeat (first | refine blk_drewN ?_ _ | refine blk_drew ?_ | refine blk_alloc ?_ _)); refine blk_put (cs := #[.slice none 0 0, .slice none 0 0, .slice none 0 0]) ?_ 1 _ rfl; (with_reducible repeat (first | refine blk_drewN ?_ _ | refine blk_drew ?_ | refine blk_alloc ?_ _)); refine blk_put (cs := #[.slice none 0 0, .slice none 0 0, .slice none 0 0]) ?_ 0 _ rfl; (with_reducible repeat (first | refine blk_drewN ?_ _ | refine blk_drew ?_ | refine blk_alloc ?_ _)); refine blk_far ?_ NB156_166.out _; (with_reducible repeat (first | refine blk_drewN ?_ _ | refine blk_drew ?_ | refine blk_alloc ?_ _)); exact BK156.out) Try.underlying53 rfl (by kernel_rfl)) rfl ?_
   exact ⟨_, _, _, by first | rfl | (simp [errW_none, errW_some] <;> rfl) | (simp [*, errW_none, errW_some] <;> rfl), by first | exact Kd.R_nil _ _ _ _ _ | exact Kd.N_nil _ _ _ _ _ | exact Kd.V_nil _ _ _ _ _ | exact Kd.Q_nil _ _ _ _ _ | exact Kd.S_nil _ _ _ _ _, by first | exact Kd.R_nil _ _ _ _ _ | exact Kd.N_nil _ _ _ _ _ | exact Kd.V_nil _ _ _ _ _ | exact Kd.Q_nil _ _ _ _ _ | exact Kd.S_nil _ _ _ _ _, by first | exact Kd.R_nil _ _ _ _ _ | exact Kd.N_nil _ _ _ _ _ | exact Kd.V_nil _ _ _ _ _ | exact Kd.Q_nil _ _ _ _ _ | exact Kd.S_nil _ _ _ _ _, by repeat (first | (with_reducible first | exact HB.out | apply below_alloc | apply pw_below_drewN | apply below_drew1 | refine below_set ?_ GE155.out | refine below_set ?_ GE156.out | refine below_set ?_ GE166.out) | exact HB.out)⟩
  ·rw [if_neg c6] at H
   have c6b0 : decide (a1 < (y167.length : Int)) = false := decide_eq_false c6
   clear c6
   simp only [Option.some.injEq, Prod.mk.injEq] at H
   obtain ⟨rfl, rfl, rfl, rfl⟩ := H
   go_enter Try.func21, Try.ntmps21
   go_wp2_with (first | ((with_reducible refine gate_dst (N := 3) rfl ?_); refine box_event ?hg (N := 3) ?hd (cs := #[.slice A0_0 l0_0.length c0_0, .slice A0_1 l0_1.length c0_1, .slice A0_2 l0_2.length c0_2]) (t := 53) ?hr ?_; (case hd => rfl); (case hg => rfl); (case hr => first | (go_simp; done) | (go_simp; rfl)); intro gb155 hg w23 hbox hb; have n0_ := Aside0.mk (below_step (qW HB.out) hb); have n1_ := Aside0.mk (hbox); have n2_ := Aside0.mk ((by rw [hg]; exact (below_size (qW HB.out)) : w.heap.size ≤ gb155)); have n3_ := Aside0.mk ((by rw [hg]; exact (below_size (qW HB.out)) : w.heap.size ≤ gb155)); clear HB; have HB := n0_; have BK155 := n1_; have GW155 := n2_; have GE155 := n3_; clear n0_ n1_ n2_ n3_; clear hb hbox hg) | ((with_reducible refine gate_dst (N := 6) rfl ?_); refine box_event ?hg (N := 6) ?hd (cs := #[.slice none 0 0, .slice none 0 0, .slice none 0 0]) (t := 53) ?hr ?_; (case hd => rfl); (case hg => rfl); (case hr => first | (go_simp; done) | (go_simp; rfl)); intro gb156 hg w24 hbox hb; have n0_ := Aside0.mk (blk_below (qb BK155.out) hb); have n1_ := Aside0.mk (below_step (qW HB.out) hb); have n2_ := Aside0.mk (hbox); have n3_ := Aside0.mk ((by rw [hg]; exact (below_size (qW HB.out)) : w.heap.size ≤ gb156)); have n4_ := Aside0.mk ((by rw [hg]; exact (below_size (qW HB.out)) : w.heap.size ≤ gb156)); have n5_ := Aside0.mk ((by rw [hg]; exact Nat.ne_of_lt (blk_lt (qb BK155.out)) : gb155 ≠ gb156)); have n6_ := Aside0.mk ((by rw [hg]; exact Nat.ne_of_gt (blk_lt (qb BK155.out)) : gb156 ≠ gb155)); clear BK155 HB; have BK155 := n0_; have HB := n1_; have BK156 := n2_; have GW156 := n3_; have GE156 := n4_; have NB155_156 := n5_; have NB156_155 := n6_; clear n0_ n1_ n2_ n3_ n4_ n5_ n6_; clear hb hbox hg; have hnb25 := NB155_156.out; have hnc25 := NB156_155.out; have hcz26_0 : w24.cell? ⟨gb155, 0, none⟩ = some (.slice A0_0 l0_0.length c0_0) := (blk_cell BK155.out 0).trans rfl; have hcz26_1 : w24.cell? ⟨gb155, 1, none⟩ = some (.slice A0_1 l0_1.length c0_1) := (blk_cell BK155.out 1).trans rfl; have hcz26_2 : w24.cell? ⟨gb155, 2, none⟩ = some (.slice A0_2 l0_2.length c0_2) := (blk_cell BK155.out 2).trans rfl; have hfz26_0 := blk_frozen BK155.out 0; have hfz26_1 := blk_frozen BK155.out 1; have hfz26_2 := blk_frozen BK155.out 2) | ((with_reducible refine gate_callee (f := 19) rfl ?_); refine goesL_ (some 10) rfl rfl Try.func19 (by kernel_rfl) rfl #[.agg #[.slice A0_0 l0_0.length c0_0, .slice A0_1 l0_1.length c0_1, .slice A0_2 l0_2.length c0_2]] rfl (by (try simp only [List.map_toArray, List.map_cons, List.map_nil]); first | done | rfl | (simp only [List.length_drop, List.length_take]; rfl)) ?_; (with_reducible refine (garderoberef17_Copy.calls _ _ l0_0 _ _ l0_1 _ _ l0_2 t157 t160 t163 _ ?side1 ?side2 ?side3 ?side4 ?side5 ?side6 A4.out).mono ?_); (case side1 => exact qC (Kd.C_below HR0_0.out HB.out)); (case side2 => exact HC0_0.out); (case side3 => exact qC (Kd.C_below HR0_1.out HB.out)); (case side4 => exact HC0_1.out); (case side5 => exact qC (Kd.C_below HR0_2.out HB.out)); (case side6 => exact HC0_2.out); rintro e w27 ⟨v158, v161, v164, rfl, ho0, ho1, ho2, hb⟩; refine ⟨_, rfl, ?_⟩; have n0_ := Aside0.mk (Kd.R_lower ho0 (below_size (qW HB.out))); have n1_ := Aside0.mk (Kd.R_lower ho1 (below_size (qW HB.out))); have n2_ := Aside0.mk (Kd.R_lower ho2 (below_size (qW HB.out))); have n3_ := Aside0.mk (blk_below (qb BK155.out) hb); have n4_ := Aside0.mk (blk_below (qb BK156.out) hb); have n5_ := Aside0.mk (below_step (qW HB.out) hb); clear BK155 BK156 HB; have HO159 := n0_; have HO162 := n1_; have HO165 := n2_; have BK155 := n3_; have BK156 := n4_; have HB := n5_; clear n0_ n1_ n2_ n3_ n4_ n5_; (try clear hb); (try clear hb2); (try clear hk); (try clear hi); (try clear ho0); (try clear ho1); (try clear ho2)) | ((with_reducible refine gate_dst (N := 8) rfl ?_); refine box_event ?hg (N := 8) ?hd (cs := #[.slice none 0 0, .slice none 0 0, .slice none 0 0]) (t := 53) ?hr ?_; (case hd => rfl); (case hg => rfl); (case hr => first | (go_simp; done) | (go_simp; rfl)); intro gb166 hg w28 hbox hb; have n0_ := Aside0.mk (Kd.R_below (qR HO159.out) hb); have n1_ := Aside0.mk (Kd.R_below (qR HO162.out) hb); have n2_ := Aside0.mk (Kd.R_below (qR HO165.out) hb); have n3_ := Aside0.mk (blk_below (qb BK155.out) hb); have n4_ := Aside0.mk (blk_below (qb BK156.out) hb); have n5_ := Aside0.mk (below_step (qW HB.out) hb); have n6_ := Aside0.mk (hbox); have n7_ := Aside0.mk ((by rw [hg]; exact (below_size (qW HB.out)) : w.heap.size ≤ gb166)); have n8_ := Aside0.mk ((by rw [hg]; exact (below_size (qW HB.out)) : w.heap.size ≤ gb166)); have n9_ := Aside0.mk ((by rw [hg]; exact Nat.ne_of_lt (blk_lt (qb BK155.out)) : gb155 ≠ gb166)); have n10_ := Aside0.mk ((by rw [hg]; exact Nat.ne_of_gt (blk_lt (qb BK155.out)) : gb166 ≠ gb155)); have n11_ := Aside0.mk ((by rw [hg]; exact Nat.ne_of_lt (blk_lt (qb BK156.out)) : gb156 ≠ gb166)); have n12_ := Aside0.mk ((by rw [hg]; exact Nat.ne_of_gt (blk_lt (qb BK156.out)) : gb166 ≠ gb156)); clear HO159 HO162 HO165 BK155 BK156 HB; have HO159 := n0_; have HO162 := n1_; have HO165 := n2_; have BK155 := n3_; have BK156 := n4_; have HB := n5_; have BK166 := n6_; have GW166 := n7_; have GE166 := n8_; have NB155_166 := n9_; have NB166_155 := n10_; have NB156_166 := n11_; have NB166_156 := n12_; clear n0_ n1_ n2_ n3_ n4_ n5_ n6_ n7_ n8_ n9_ n10_ n11_ n12_; clear hb hbox hg; obtain ⟨Ao29, co29, eo29⟩ := Kd.R_slice HO159.out; subst eo29; have hnb30 := NB166_155.out; have hnc30 := NB155_166.out; have hnb31 := NB166_156.out; have hnc31 := NB156_166.out; have hcz32_0 : w28.cell? ⟨gb166, 0, none⟩ = some (.slice none 0 0) := (blk_cell BK166.out 0).trans rfl; have hcz32_1 : w28.cell? ⟨gb166, 1, none⟩ = some (.slice none 0 0) := (blk_cell BK166.out 1).trans rfl; have hcz32_2 : w28.cell? ⟨gb166, 2, none⟩ = some (.slice none 0 0) := (blk_cell BK166.out 2).trans rfl; have hfz32_0 := blk_frozen BK166.out 0; have hfz32_1 := blk_frozen BK166.out 1; have hfz32_2 := blk_frozen BK166.out 2; obtain ⟨Ao33, co33, eo33⟩ := Kd.R_slice HO162.out; subst eo33; obtain ⟨Ao34, co34, eo34⟩ := Kd.R_slice HO165.out; subst eo34) | ((with_reducible refine gate_builtin (b := .append) (xs := #[.tmp 12, .tmp 13]) rfl ?_); at_builtin; refine Kd.R_append_rows k56 (w0 := w) w.heap.size rfl (.tmp 12) (.tmp 13) 50 56 (.agg #[(.int .u8 0), (.int .u8 0), (.int .u16 0), (.int .i64 0)]) 16 rfl Try.underlying50 info56 rfl (by decide) (by omega) (.slice Ao33 t160.length co33) t160 l2 _ _ _ (fun k_ => some k_ ≠ (.slice Ao29 t157.length co29 : Value).ownBlock) (fun _ => False) rfl rfl ?aO ?aR (fun _ _ h => h) (fun _ h => h.elim) ?aF ?aB ?aS ?aL ?_; (case aR => exact Kd.C_below HR2.out (qW HB.out)); (case aB => exact (qW HB.out)); (case aF => exact (fun k_ hk => Kd.fresh' (Kd.R_lt (qR (Kd.R_mono (Kd.R_far (p := ⟨gb166, 2, none⟩) (Kd.R_far (p := ⟨gb166, 1, none⟩) (Kd.R_far (p := ⟨gb166, 0, none⟩) (Kd.R_types HO159.out BK166.out (by decide)) (fun _ hk => hk.2) (.slice Ao29 t157.length co29)) (fun _ hk => hk.2) (.slice Ao33 t160.length co33)) (fun _ hk => hk.2) (.slice Ao34 t163.length co34)) (fun _ h_ => h_.1)))) k_ hk)); (case aO => exact (qR (Kd.R_mono (Kd.R_far (p := ⟨gb166, 2, none⟩) (Kd.R_far (p := ⟨gb166, 1, none⟩) (Kd.R_far (p := ⟨gb166, 0, none⟩) (Kd.R_types HO162.out BK166.out (by decide)) (fun _ hk => hk.2) (.slice Ao29 t157.length co29)) (fun _ hk => hk.2) (.slice Ao33 t160.length co33)) (fun _ hk => hk.2) (.slice Ao34 t163.length co34)) (fun _ hk => hk.1)))); (case aS => exact (below_size (qW HB.out))); (case aL => have := LMc5.out; omega); intro v168 w35 ho hb hg hat; rw [← Ny167.out] at ho; have n0_ := Aside0.mk (blk_grown (qf BK155.out) hg (Kd.R_ne HO162.out BK155.out (by decide))); have n1_ := Aside0.mk (blk_grown (qf BK156.out) hg (Kd.R_ne HO162.out BK156.out (by decide))); have n2_ := Aside0.mk (Kd.R_after (ok := (fun _ => True)) (qR (Kd.R_mono (Kd.R_far (p := ⟨gb166, 2, none⟩) (Kd.R_far (p := ⟨gb166, 1, none⟩) (Kd.R_far (p := ⟨gb166, 0, none⟩) (Kd.R_types HO159.out BK166.out (by decide)) (fun _ hk => hk.2) (.slice Ao29 t157.length co29)) (fun _ hk => hk.2) (.slice Ao33 t160.length co33)) (fun _ hk => hk.2) (.slice Ao34 t163.length co34)) (fun _ hk => ⟨trivial, hk.1⟩))) hg hat); have n3_ := Aside0.mk (Kd.R_over' (qR (Kd.R_mono (Kd.R_far (p := ⟨gb166, 2, none⟩) (Kd.R_far (p := ⟨gb166, 1, none⟩) (Kd.R_far (p := ⟨gb166, 0, none⟩) (Kd.R_types HO165.out BK166.out (by decide)) (fun _ hk => hk.2) (.slice Ao29 t157.length co29)) (fun _ hk => hk.2) (.slice Ao33 t160.length co33)) (fun _ hk => hk.2) (.slice Ao34 t163.length co34)) (fun _ h_ => h_.1))) (Kd.R_typed (qR (Kd.R_mono (Kd.R_far (p := ⟨gb166, 2, none⟩) (Kd.R_far (p := ⟨gb166, 1, none⟩) (Kd.R_far (p := ⟨gb166, 0, none⟩) (Kd.R_types HO162.out BK166.out (by decide)) (fun _ hk => hk.2) (.slice Ao29 t157.length co29)) (fun _ hk => hk.2) (.slice Ao33 t160.length co33)) (fun _ hk => hk.2) (.slice Ao34 t163.length co34)) (fun _ h_ => h_.1)))) (by decide) hg); have n4_ := Aside0.mk (blk_grown (g := gb166) (o := .cells #[.slice Ao29 t157.length co29, .slice Ao33 t160.length co33, .slice Ao34 t163.length co34] 53 (0, 0)) (by (with_reducible repeat (first | refine blk_drewN ?_ _ | refine blk_drew ?_ | refine blk_alloc ?_ _)); refine blk_put (cs := #[.slice Ao29 t157.length co29, .slice Ao33 t160.length co33, .slice none 0 0]) ?_ 2 _ rfl; (with_reducible repeat (first | refine blk_drewN ?_ _ | refine blk_drew ?_ | refine blk_alloc ?_ _)); refine blk_put (cs := #[.slice Ao29 t157.length co29, .slice none 0 0, .slice none 0 0]) ?_ 1 _ rfl; (with_reducible repeat (first | refine blk_drewN ?_ _ | refine blk_drew ?_ | refine blk_alloc ?_ _)); refine blk_put (cs := #[.slice none 0 0, .slice none 0 0, .slice none 0 0]) ?_ 0 _ rfl; (with_reducible repeat (first | refine blk_drewN ?_ _ | refine blk_drew ?_ | refine blk_alloc ?_ _)); exact BK166.out) hg (Kd.R_ne HO162.out BK166.out (by decide))); have n5_ := Aside0.mk (hb); have n6_ := Aside0.mk (ho); clear BK155 BK156 HO159 HO165 BK166 HB HO162; have BK155 := n0_; have BK156 := n1_; have HO159 := n2_; have HO165 := n3_; have BK166 := n4_; have HB := n5_; have HO169 := n6_; clear n0_ n1_ n2_ n3_ n4_ n5_ n6_; clear ho hb hg hat; obtain ⟨Ao36, co36, eo36⟩ := Kd.R_slice HO169.out; subst eo36; have hcz37_0 : w35.cell? ⟨gb166, 0, none⟩ = some (.slice Ao29 t157.length co29) := (blk_cell BK166.out 0).trans rfl; have hcz37_1 : w35.cell? ⟨gb166, 1, none⟩ = some (.slice Ao33 t160.length co33) := (blk_cell BK166.out 1).trans rfl; have hcz37_2 : w35.cell? ⟨gb166, 2, none⟩ = some (.slice Ao34 t163.length co34) := (blk_cell BK166.out 2).trans rfl; have hfz37_0 := blk_frozen BK166.out 0; have hfz37_1 := blk_frozen BK166.out 1; have hfz37_2 := blk_frozen BK166.out 2; have hcz38_0 : w35.cell? ⟨gb156, 0, none⟩ = some (.slice none 0 0) := (blk_cell BK156.out 0).trans rfl; have hcz38_1 : w35.cell? ⟨gb156, 1, none⟩ = some (.slice none 0 0) := (blk_cell BK156.out 1).trans rfl; have hcz38_2 : w35.cell? ⟨gb156, 2, none⟩ = some (.slice none 0 0) := (blk_cell BK156.out 2).trans rfl; have hfz38_0 := blk_frozen BK156.out 0; have hfz38_1 := blk_frozen BK156.out 1; have hfz38_2 := blk_frozen BK156.out 2))
   refine bodyPost_ret (results_ct rfl _ _ gb156 53 #[.slice Ao29 t157.length co29, .slice Ao36 y167.length co36, .slice Ao34 t163.length co34] (0, 0) _ rfl (by (with_reducible repeat (first | refine blk_drewN ?_ _ | refine blk_drew ?_ | refine blk_alloc ?_ _)); refine blk_put (cs := #[.slice Ao29 t157.length co29, .slice Ao36 y167.length co36, .slice none 0 0]) ?_ 2 _ rfl; (with_reducible repeat (first | refine blk_drewN ?_ _ | refine blk_drew ?_ | refine blk_alloc ?_ _)); refine blk_put (cs := #[.slice Ao29 t157.length co29, .slice none 0 0, .slice none 0 0]) ?_ 1 _ rfl; (with_reducible repeat (first | refine blk_drewN ?_ _ | refine blk_drew ?_ | refine blk_alloc ?_ _)); refine blk_put (cs := #[.slice none 0 0, .slice none 0 0, .slice none 0 0]) ?_ 0 _ rfl; (with_reducible repeat (first | refine blk_drewN ?_ _ | refine blk_drew ?_ | refine blk_alloc ?_ _)); refine blk_far ?_ NB156_166.out _; (with_reducible repeat (first | refine blk_drewN ?_ _ | refine blk_drew ?_ | refine blk_alloc ?_ _)); exact BK156.out) Try.underlying53 rfl (by kernel_rfl)) rfl ?_
   exact ⟨_, _, _, by first | rfl | (simp [errW_none, errW_some] <;> rfl) | (simp [*, errW_none, errW_some] <;> rfl), by (with_reducible repeat (first | apply Kd.R_alloc | apply Kd.R_drewN | apply Kd.R_drew)); exact Kd.R_mono (Kd.R_far (p := ⟨gb156, 2, none⟩) (Kd.R_far (p := ⟨gb156, 1, none⟩) (Kd.R_far (p := ⟨gb156, 0, none⟩) (Kd.R_far (p := ⟨gb166, 1, none⟩) (Kd.R_types (Kd.R_types HO159.out BK166.out (by decide)) BK156.out (by decide)) (fun _ hk => hk.1.2) (.slice Ao36 y167.length co36)) (fun _ hk => hk.2) (.slice Ao29 t157.length co29)) (fun _ hk => hk.2) (.slice Ao36 y167.length co36)) (fun _ hk => hk.2) (.slice Ao34 t163.length co34)) (fun _ hk => hk.1.1.2), by (with_reducible repeat (first | apply Kd.R_alloc | apply Kd.R_drewN | apply Kd.R_drew)); exact Kd.R_mono (Kd.R_far (p := ⟨gb156, 2, none⟩) (Kd.R_far (p := ⟨gb156, 1, none⟩) (Kd.R_far (p := ⟨gb156, 0, none⟩) (Kd.R_far (p := ⟨gb166, 1, none⟩) (Kd.R_types (Kd.R_types HO169.out BK166.out (by decide)) BK156.out (by decide)) (fun _ hk => hk.1.2) (.slice Ao36 y167.length co36)) (fun _ hk => hk.2) (.slice Ao29 t157.length co29)) (fun _ hk => hk.2) (.slice Ao36 y167.length co36)) (fun _ hk => hk.2) (.slice Ao34 t163.length co34)) (fun _ hk => hk.1.1), by (with_reducible repeat (first | apply Kd.R_alloc | apply Kd.R_drewN | apply Kd.R_drew)); exact Kd.R_mono (Kd.R_far (p := ⟨gb156, 2, none⟩) (Kd.R_far (p := ⟨gb156, 1, none⟩) (Kd.R_far (p := ⟨gb156, 0, none⟩) (Kd.R_far (p := ⟨gb166, 1, none⟩) (Kd.R_types (Kd.R_types HO165.out BK166.out (by decide)) BK156.out (by decide)) (fun _ hk => hk.1.2) (.slice Ao36 y167.length co36)) (fun _ hk => hk.2) (.slice Ao29 t157.length co29)) (fun _ hk => hk.2) (.slice Ao36 y167.length co36)) (fun _ hk => hk.2) (.slice Ao34 t163.length co34)) (fun _ hk => trivial), by repeat (first | (with_reducible first | exact HB.out | apply below_alloc | apply pw_below_drewN | apply below_drew1 | refine below_set ?_ GE155.out | refine below_set ?_ GE156.out | refine below_set ?_ GE166.out) | exact HB.out)⟩
 ·rw [if_neg c5] at H
  exact absurd H (by simp)

/-! ### garderoberef17_Vals: function 25 -/
def garderoberef17_Vals.l0 : Nat → List (S56) → List (S56) → Int → Option (Bool)
 | 0, _, _, _ => none
 | k + 1, x0, x1, x5 => if x5 < (x0.length : Int) then (if 0 ≤ x5 then (if x5 < (x1.length : Int) then (if (!(((rd_T56 x0 x5).f0) == ((rd_T56 x1 x5).f0)) || ((!(((rd_T56 x0 x5).f1.f0) == ((rd_T56 x1 x5).f1.f0)) || (!(((rd_T56 x0 x5).f1.f1) == ((rd_T56 x1 x5).f1.f1)))) || (!(((rd_T56 x0 x5).f2) == ((rd_T56 x1 x5).f2))))) = true then (some false) else (garderoberef17_Vals.l0 k x0 x1 (wrap64 (x5 + 1)))) else (none)) else (none)) else (some true)
def garderoberef17_Vals.f (k : Nat) (l0 : List (S56)) (l1 : List (S56)) : Option (Bool) := if (l0.length : Int) = (l1.length : Int) then (garderoberef17_Vals.l0 k l0 l1 0) else (some false)
theorem garderoberef17_Vals.mono_l : ∀ k, (∀ y0 y1 y2, LeO (garderoberef17_Vals.l0 k y0 y1 y2) (garderoberef17_Vals.l0 (k + 1) y0 y1 y2))
 | 0 => fun _ _ _ r h => by simp [garderoberef17_Vals.l0] at h
 | k + 1 => by
  have ih0 := garderoberef17_Vals.mono_l k
  ·intro y0 y1 y2
   unfold garderoberef17_Vals.l0
   repeat' first
   | (with_reducible exact ih0 _ _ _)
   | (with_reducible exact LeO.refl _)
   | (with_reducible exact LeO.none _)
   | (with_reducible refine LeO.ite ?_ ?_)
   | (with_reducible refine LeO.bind ?_ (fun _ => ?_))
   | exact ih0 _ _ _
   | exact LeO.none _
   | refine LeO.ite ?_ ?_
   | refine LeO.bind ?_ (fun _ => ?_)
theorem garderoberef17_Vals.mono : ∀ a0 a1 k, LeO (garderoberef17_Vals.f k a0 a1) (garderoberef17_Vals.f (k + 1) a0 a1) := by
 intro a0 a1 k
 have ih0 := garderoberef17_Vals.mono_l k
 unfold garderoberef17_Vals.f
 repeat' first
   | (with_reducible exact ih0 _ _ _)
   | (with_reducible exact LeO.refl _)
   | (with_reducible exact LeO.none _)
   | (with_reducible refine LeO.ite ?_ ?_)
   | (with_reducible refine LeO.bind ?_ (fun _ => ?_))
   | exact ih0 _ _ _
   | exact LeO.none _
   | refine LeO.ite ?_ ?_
   | refine LeO.bind ?_ (fun _ => ?_)
set_option maxHeartbeats 8000000 in
set_option maxRecDepth 100000 in
theorem garderoberef17_Vals.calls (k : Nat) (A0 : Option Addr) (c0 : Nat) (l0 : List (S56)) (A1 : Option Addr) (c1 : Nat) (l1 : List (S56)) (r : Bool) (w : World) (hr0 : Kd.C k56 w A0 l0.length l0) (hc0 : l0.length ≤ c0) (hr1 : Kd.C k56 w A1 l1.length l1) (hc1 : l1.length ≤ c1) (h : garderoberef17_Vals.f k l0 l1 = some r) :
  Calls Try.prog 25 #[.slice A0 l0.length c0, .slice A1 l1.length c1] w fun e w' => e = .returned (.bool r) ∧ Drawn0 w w' := by
 have hu56 := Try.underlying56
 have HR0 := Aside0.mk hr0
 have HC0 := Aside0.mk hc0
 clear hr0 hc0
 have HR1 := Aside0.mk hr1
 have HC1 := Aside0.mk hc1
 clear hr1 hc1
 have H : (if (l0.length : Int) = (l1.length : Int) then (garderoberef17_Vals.l0 k l0 l1 0) else (some false)) = some r := h
 clear h
 by_cases c3 : (l0.length : Int) = (l1.length : Int)
 ·rw [if_pos c3] at H
  have c3b0 : ((l0.length : Int) == (l1.length : Int)) = true := beq_iff_eq.mpr c3
  have c3b1 : ((l0.length : Int) != (l1.length : Int)) = false := bne_eq_false_iff_eq.mpr c3
  have c3b2 : (l0.length == l1.length) = true := by first | simpa using c3 | (simp at c3 ⊢; omega)
  clear c3
  have H' := Aside0.mk H
  clear H
  go_enter Try.func25, Try.ntmps25
  go_wp2
  repeat (go_quiet (fail); try go_wp2)
  go_loopg [5] k (fun kq v5 w' => ∃ (x5_1 : Int), v5 = .int .i64 x5_1 ∧ Aside0 (garderoberef17_Vals.l0 kq l0 l1 x5_1 = some r) ∧ Aside0 (kq ≤ k) ∧ Drawn0 w w')
  case atStart => exact ⟨(0), (by first | rfl | (simp; done) | (simp [*]; done)), H', ⟨Nat.le_refl _⟩, by repeat (first | exact Drawn0.refl _ | apply Drawn0.step)⟩
  case round =>
   clear H'
   try clear c1
   try clear c2
   try clear p2
   try clear c3
   try clear c3b0
   try clear c3b1
   try clear c3b2
   obtain ⟨x5_1, rfl, HA, HK1, ⟨m1, rfl⟩⟩ := hrel
   cases gk with
   | zero => exact absurd HA.out (by simp [garderoberef17_Vals.l0])
   | succ k1 =>
    have H := HA.out
    clear HA
    simp only [garderoberef17_Vals.l0] at H
    by_cases c4 : x5_1 < (l0.length : Int)
    ·rw [if_pos c4] at H
     have c4b0 : decide (x5_1 < (l0.length : Int)) = true := decide_eq_true c4
     clear c4
     by_cases c5 : 0 ≤ x5_1
     ·rw [if_pos c5] at H
      have c5b0 : decide (0 ≤ x5_1) = true := decide_eq_true c5
      clear c5
      by_cases c6 : x5_1 < (l1.length : Int)
      ·rw [if_pos c6] at H
       have c6b0 : decide (x5_1 < (l1.length : Int)) = true := decide_eq_true c6
       clear c6
       by_cases c7 : (!(((rd_T56 l0 x5_1).f0) == ((rd_T56 l1 x5_1).f0)) || ((!(((rd_T56 l0 x5_1).f1.f0) == ((rd_T56 l1 x5_1).f1.f0)) || (!(((rd_T56 l0 x5_1).f1.f1) == ((rd_T56 l1 x5_1).f1.f1)))) || (!(((rd_T56 l0 x5_1).f2) == ((rd_T56 l1 x5_1).f2))))) = true
       ·rw [if_pos c7] at H
        have c7b0 : (!(((rd_T56 l0 x5_1).f0) == ((rd_T56 l1 x5_1).f0)) || ((!(((rd_T56 l0 x5_1).f1.f0) == ((rd_T56 l1 x5_1).f1.f0)) || (!(((rd_T56 l0 x5_1).f1.f1) == ((rd_T56 l1 x5_1).f1.f1)))) || (!(((rd_T56 l0 x5_1).f2) == ((rd_T56 l1 x5_1).f2))))) = true := c7
        clear c7
        obtain rfl := Option.some.inj H
        have p170 : 0 ≤ (x5_1 : Int) := of_decide_eq_true (by first | (with_reducible assumption) | assumption)
        have q170 : x5_1 < (l0.length : Int) := of_decide_eq_true (by first | (with_reducible assumption) | assumption)
        obtain ⟨ad170, e170, hx170_0, hx170_1, hx170_2, hx170_3⟩ := at_T56 HR0.out x5_1 p170 q170
        cases e170
        replace p170 := eq_true p170
        replace q170 := eq_true q170
        have p171 : 0 ≤ (x5_1 : Int) := of_decide_eq_true (by first | (with_reducible assumption) | assumption)
        have q171 : x5_1 < (l1.length : Int) := of_decide_eq_true (by first | (with_reducible assumption) | assumption)
        obtain ⟨ad171, e171, hx171_0, hx171_1, hx171_2, hx171_3⟩ := at_T56 HR1.out x5_1 p171 q171
        cases e171
        replace p171 := eq_true p171
        replace q171 := eq_true q171
        go_wp2
        repeat (go_quiet (fail); try go_wp2)
        go_ret
        exact ⟨by first | rfl | (simp; done) | (simp [*]; done), by repeat (first | exact Drawn0.refl _ | apply Drawn0.step)⟩
       ·rw [if_neg c7] at H
        have c7b0 : (!(((rd_T56 l0 x5_1).f0) == ((rd_T56 l1 x5_1).f0)) || ((!(((rd_T56 l0 x5_1).f1.f0) == ((rd_T56 l1 x5_1).f1.f0)) || (!(((rd_T56 l0 x5_1).f1.f1) == ((rd_T56 l1 x5_1).f1.f1)))) || (!(((rd_T56 l0 x5_1).f2) == ((rd_T56 l1 x5_1).f2))))) = false := by simpa using c7
        clear c7
        have H' := Aside0.mk H
        clear H
        have p170 : 0 ≤ (x5_1 : Int) := of_decide_eq_true (by first | (with_reducible assumption) | assumption)
        have q170 : x5_1 < (l0.length : Int) := of_decide_eq_true (by first | (with_reducible assumption) | assumption)
        obtain ⟨ad170, e170, hx170_0, hx170_1, hx170_2, hx170_3⟩ := at_T56 HR0.out x5_1 p170 q170
        cases e170
        replace p170 := eq_true p170
        replace q170 := eq_true q170
        have p171 : 0 ≤ (x5_1 : Int) := of_decide_eq_true (by first | (with_reducible assumption) | assumption)
        have q171 : x5_1 < (l1.length : Int) := of_decide_eq_true (by first | (with_reducible assumption) | assumption)
        obtain ⟨ad171, e171, hx171_0, hx171_1, hx171_2, hx171_3⟩ := at_T56 HR1.out x5_1 p171 q171
        cases e171
        replace p171 := eq_true p171
        replace q171 := eq_true q171
        go_wp2
        repeat (go_quiet (fail); try go_wp2)
        go_roundg k1
        case measure => have := HK1.out; omega
        case rel => exact ⟨(wrap64 (x5_1 + 1)), (by first | rfl | (simp; done) | (simp [*]; done)), H', ⟨by have := HK1.out; omega⟩, by repeat (first | exact Drawn0.refl _ | apply Drawn0.step)⟩
      ·rw [if_neg c6] at H
       exact absurd H (by simp)
     ·rw [if_neg c5] at H
      exact absurd H (by simp)
    ·rw [if_neg c4] at H
     have c4b0 : decide (x5_1 < (l0.length : Int)) = false := decide_eq_false c4
     clear c4
     obtain rfl := Option.some.inj H
     go_wp2
     repeat (go_quiet (fail); try go_wp2)
     go_ret
     exact ⟨by first | rfl | (simp; done) | (simp [*]; done), by repeat (first | exact Drawn0.refl _ | apply Drawn0.step)⟩
 ·rw [if_neg c3] at H
  have c3b0 : ((l0.length : Int) == (l1.length : Int)) = false := beq_eq_false_iff_ne.mpr c3
  have c3b1 : ((l0.length : Int) != (l1.length : Int)) = true := bne_iff_ne.mpr c3
  have c3b2 : (l0.length == l1.length) = false := by first | simpa using c3 | (simp at c3 ⊢; omega)
  obtain rfl := Option.some.inj H
  go_enter Try.func25, Try.ntmps25
  go_wp2
  repeat (go_quiet (fail); try go_wp2)
  go_ret
  exact ⟨by first | rfl | (simp; done) | (simp [*]; done), by repeat (first | exact Drawn0.refl _ | apply Drawn0.step)⟩

end Go.Proofs.Ytjknnifcbcdjiaa.PShapeMoves
