/- What a context may: one's own field, not another's; the global array, but no store. -/
import Derived.Test.YtjknnifcbcdjiaaProg
import Derived.Test.YtjknnifcbcdjiaaBase
import Derived.Test.YtjknnifcbcdjiaaWWords
import Derived.Test.YtjknnifcbcdjiaaWorldW
import Derived.Deep.RegionLaw
set_option linter.unusedVariables false
set_option linter.unusedSimpArgs false
namespace Go.Proofs.Ytjknnifcbcdjiaa.Lives21
open Go.RowKit Go.Proofs.Ytjknnifcbcdjiaa.Base Go.Proofs.YtjknnifcbcdjiaaW.PrintWords
theorem bcell {W w1 : World} (hb : Below W.heap.size W w1) : (∀ b o, b < W.heap.size → w1.cell? ⟨b, o, none⟩ = W.cell? ⟨b, o, none⟩) ∧ (∀ b o, b < W.heap.size → w1.frozen? ⟨b, o, none⟩ = W.frozen? ⟨b, o, none⟩) :=
  ⟨fun b o h => hb.cell (p := ⟨b, o, none⟩) h, fun b o h => hb.frozen (p := ⟨b, o, none⟩) h⟩
theorem global_8 (w : World) : Calls Try.prog 71 #[.agg #[.int .u8 6, .int .i64 (-1), .int .i64 0, .int .i64 0, .int .u8 8, .int .i64 0]] w fun e w' => e = .returned (.bool true) ∧ Below w.heap.size w w' := by
  go_enter Try.func71, Try.ntmps71
  go_wp2
  go_ret
  exact ⟨rfl, (Below.refl _ _).alloc (Nat.le_refl _) _⟩
theorem entry_8 (w : World) : Calls Try.prog 72 #[.agg #[.int .u8 6, .int .i64 (-1), .int .i64 0, .int .i64 0, .int .u8 8, .int .i64 0]] w fun e w' => e = .returned (.bool false) ∧ Below w.heap.size w w' := by
  go_enter Try.func72, Try.ntmps72
  go_wp2
  go_ret
  exact ⟨rfl, (Below.refl _ _).alloc (Nat.le_refl _) _⟩
section
variable (w : World) (v1 v2 v3 v4 : Value)
theorem al3 {w : World} {a b c : Obj} : Below w.heap.size w (((w.alloc a).alloc b).alloc c) := (((Below.refl _ _).alloc (Nat.le_refl _) _).alloc (by simp) _).alloc (by simp; omega) _
theorem may_own : Calls Try.prog 39 #[.agg #[v1, v2, v3, v4], .int .i64 1, .agg #[.int .u8 4, .int .i64 0, .int .i64 0, .int .i64 1, .int .u8 0, .int .i64 0], .agg #[.int .u8 1, .int .i64 0]] w fun e w' => e = .returned (.bool true) ∧ Below w.heap.size w w' := by
  go_enter Try.func39, Try.ntmps39
  go_wp2
  go_ret
  exact ⟨rfl, al3⟩
theorem may_other : Calls Try.prog 39 #[.agg #[v1, v2, v3, v4], .int .i64 1, .agg #[.int .u8 4, .int .i64 0, .int .i64 0, .int .i64 2, .int .u8 0, .int .i64 0], .agg #[.int .u8 1, .int .i64 0]] w fun e w' => e = .returned (.bool false) ∧ Below w.heap.size w w' := by
  go_enter Try.func39, Try.ntmps39
  go_wp2
  go_ret
  exact ⟨rfl, al3⟩
theorem may_array : Calls Try.prog 39 #[.agg #[v1, v2, v3, v4], .int .i64 1, .agg #[.int .u8 6, .int .i64 (-1), .int .i64 0, .int .i64 0, .int .u8 8, .int .i64 0], .agg #[.int .u8 2, .int .i64 0]] w fun e w' => e = .returned (.bool true) ∧ Below w.heap.size w w' := by
  go_enter Try.func39, Try.ntmps39
  go_wp2_with (go_at_call 71; refine (global_8 _).mono ?_; rintro e w' ⟨rfl, hb⟩)
  go_ret
  exact ⟨rfl, al3.trans (hb.mono (by simp; omega))⟩
theorem may_store : Calls Try.prog 39 #[.agg #[v1, v2, v3, v4], .int .i64 1, .agg #[.int .u8 6, .int .i64 (-1), .int .i64 0, .int .i64 0, .int .u8 8, .int .i64 0], .agg #[.int .u8 8, .int .i64 0]] w fun e w' => e = .returned (.bool false) ∧ Below w.heap.size w w' := by
  go_enter Try.func39, Try.ntmps39
  go_wp2_with (fail)
  refine (entry_8 _).mono ?_
  rintro e w1 ⟨rfl, h1⟩
  have hb := al3.trans (h1.mono (by simp; omega))
  have bs : w1.heap[w.heap.size + 1]? = some (.cells #[.int .u8 6, .int .i64 (-1), .int .i64 0, .int .i64 0, .int .u8 8, .int .i64 0] 83 (0, 0)) := blk_below (blk_alloc (by have := blk_new (w.alloc (.cells #[v1, v2, v3, v4] 27)) (.cells #[.int .u8 6, .int .i64 (-1), .int .i64 0, .int .i64 0, .int .u8 8, .int .i64 0] 83 (0, 0)); simpa using this) _) h1
  have s0 : w1.cell? ⟨w.heap.size + 1, 0, none⟩ = some (.int .u8 6) := (blk_cell bs 0).trans rfl
  have s1 : w1.cell? ⟨w.heap.size + 1, 1, none⟩ = some (.int .i64 (-1)) := (blk_cell bs 1).trans rfl
  have s2 : w1.cell? ⟨w.heap.size + 1, 2, none⟩ = some (.int .i64 0) := (blk_cell bs 2).trans rfl
  have s3 : w1.cell? ⟨w.heap.size + 1, 3, none⟩ = some (.int .i64 0) := (blk_cell bs 3).trans rfl
  have s4 : w1.cell? ⟨w.heap.size + 1, 4, none⟩ = some (.int .u8 8) := (blk_cell bs 4).trans rfl
  have s5 : w1.cell? ⟨w.heap.size + 1, 5, none⟩ = some (.int .i64 0) := (blk_cell bs 5).trans rfl
  have HB := Aside0.mk hb
  clear bs hb h1
  go_wp2_with (fail)
  refine (global_8 _).mono ?_
  rintro e w2 ⟨rfl, h2⟩
  have hb2 := HB.out.trans (h2.mono HB.out.size)
  go_wp2_with (fail)
  go_ret
  exact ⟨rfl, hb2⟩
end
theorem cells4 {w : World} {B e : Nat} {a b c d : Value} (h : w.heap[B]? = some (.cells #[a, b, c, d] e (0, 0))) : w.cell? ⟨B, 0, none⟩ = some a ∧ w.cell? ⟨B, 1, none⟩ = some b ∧ w.cell? ⟨B, 2, none⟩ = some c ∧ w.cell? ⟨B, 3, none⟩ = some d :=
  ⟨(blk_cell h 0).trans rfl, (blk_cell h 1).trans rfl, (blk_cell h 2).trans rfl, (blk_cell h 3).trans rfl⟩
theorem cells2 {w : World} {B e : Nat} {a b : Value} (h : w.heap[B]? = some (.cells #[a, b] e (0, 0))) : w.cell? ⟨B, 0, none⟩ = some a ∧ w.cell? ⟨B, 1, none⟩ = some b :=
  ⟨(blk_cell h 0).trans rfl, (blk_cell h 1).trans rfl⟩
theorem cells6 {w : World} {B ty : Nat} {a b c d e f : Value} (h : w.heap[B]? = some (.cells #[a, b, c, d, e, f] ty (0, 0))) : w.cell? ⟨B, 0, none⟩ = some a ∧ w.cell? ⟨B, 1, none⟩ = some b ∧ w.cell? ⟨B, 2, none⟩ = some c ∧ w.cell? ⟨B, 3, none⟩ = some d ∧ w.cell? ⟨B, 4, none⟩ = some e ∧ w.cell? ⟨B, 5, none⟩ = some f :=
  ⟨(blk_cell h 0).trans rfl, (blk_cell h 1).trans rfl, (blk_cell h 2).trans rfl, (blk_cell h 3).trans rfl, (blk_cell h 4).trans rfl, (blk_cell h 5).trans rfl⟩
/-- The three variables. -/
structure Vs (B : Nat) (v1 v2 v3 v4 : Value) (wl : World) : Prop where
  w : wl.heap[B]? = some (.cells #[v1, v2, v3, v4] 27 (0, 0))
  f : wl.heap[B + 1]? = some (.cells #[.int .u8 1, .int .i64 0] 86 (0, 0))
  g : wl.heap[B + 1 + 1]? = some (.cells #[.int .u8 6, .int .i64 (-1), .int .i64 0, .int .i64 0, .int .u8 8, .int .i64 0] 83 (0, 0))
theorem Vs.below {B : Nat} {v1 v2 v3 v4 : Value} {wl w' : World} (h : Vs B v1 v2 v3 v4 wl) (hb : Below wl.heap.size wl w') : Vs B v1 v2 v3 v4 w' := ⟨blk_below h.w hb, blk_below h.f hb, blk_below h.g hb⟩
theorem Vs.new (w : World) (v1 v2 v3 v4 : Value) : Vs w.heap.size v1 v2 v3 v4 (((w.alloc (.cells #[v1, v2, v3, v4] 27)).alloc (.cells #[.int .u8 1, .int .i64 0] 86)).alloc (.cells #[.int .u8 6, .int .i64 (-1), .int .i64 0, .int .i64 0, .int .u8 8, .int .i64 0] 83)) :=
  ⟨blk_alloc (blk_alloc (blk_new _ _) _) _, blk_alloc (by have := blk_new (w.alloc (.cells #[v1, v2, v3, v4] 27)) (.cells #[.int .u8 1, .int .i64 0] 86); simpa using this) _,
    by have := blk_new ((w.alloc (.cells #[v1, v2, v3, v4] 27)).alloc (.cells #[.int .u8 1, .int .i64 0] 86)) (.cells #[.int .u8 6, .int .i64 (-1), .int .i64 0, .int .i64 0, .int .u8 8, .int .i64 0] 83); simpa using this⟩
theorem lives_any (w : World) : Calls Try.prog 38 #[] w fun e w' => e = .returned (.bool true) ∧ Below w.heap.size w w' := by
  go_enter Try.func38, Try.ntmps38
  go_wp2_with (fail)
  refine (Tab.world_any w).mono ?_
  rintro e w1 ⟨v, rfl, ⟨v1, v2, v3, v4, N, rfl, ⟨xc, oc, _⟩, ⟨xm, om, _⟩, _, _, _, op⟩, ch⟩
  obtain ⟨A1, c1, rfl⟩ := Tab.own_len oc
  obtain ⟨A2, c2, rfl⟩ := Tab.own_len om
  obtain ⟨A4, c4, rfl⟩ := Tab.own_len op
  clear oc om op
  have h1 := Aside0.mk (ch.below (B := w.heap.size) (fun _ h => h.elim) (Nat.le_refl _))
  clear ch
  go_wp2_with (fail)
  refine (may_own _ _ _ _ _).mono ?_
  rintro e w2 ⟨rfl, h2⟩
  have V := (Vs.new w1 _ _ _ _).below h2
  have HB := Aside0.mk ((h1.out.trans (al3.mono h1.out.size)).trans (h2.mono (by have := h1.out.size; simp; omega)))
  obtain ⟨a0, a1, a2, a3⟩ := cells4 V.w
  obtain ⟨b0, b1⟩ := cells2 V.f
  have VV := Aside0.mk V
  clear V h1 h2
  go_wp2_with (fail)
  refine (may_other _ _ _ _ _).mono ?_
  rintro e w3 ⟨rfl, h3⟩
  have V := VV.out.below h3
  have HB3 := Aside0.mk (HB.out.trans (h3.mono HB.out.size))
  clear a0 a1 a2 a3 b0 b1 VV HB h3
  obtain ⟨a0, a1, a2, a3⟩ := cells4 V.w
  obtain ⟨b0, b1, b2, b3, b4, b5⟩ := cells6 V.g
  have VV := Aside0.mk V
  clear V
  go_wp2_with (fail)
  refine (may_array _ _ _ _ _).mono ?_
  rintro e w4 ⟨rfl, h4⟩
  have V := VV.out.below h4
  have HB4 := Aside0.mk (HB3.out.trans (h4.mono HB3.out.size))
  clear a0 a1 a2 a3 b0 b1 b2 b3 b4 b5 VV HB3 h4
  obtain ⟨a0, a1, a2, a3⟩ := cells4 V.w
  obtain ⟨b0, b1, b2, b3, b4, b5⟩ := cells6 V.g
  clear V
  go_wp2_with (fail)
  refine (may_store _ _ _ _ _).mono ?_
  rintro e w5 ⟨rfl, h5⟩
  have HB5 := Aside0.mk (HB4.out.trans (h5.mono HB4.out.size))
  clear a0 a1 a2 a3 b0 b1 b2 b3 b4 b5 HB4 h5
  go_wp2_with (fail)
  go_ret
  exact ⟨rfl, HB5.out⟩
end Go.Proofs.Ytjknnifcbcdjiaa.Lives21
