/- With what a static method of a number and a local begins. -/
import Derived.Test.YtjknnifcbcdjiaaProg
import Derived.Test.YtjknnifcbcdjiaaBase
import Derived.Test.YtjknnifcbcdjiaaWWords
import Derived.Deep.RegionLaw
set_option linter.unusedVariables false
set_option linter.unusedSimpArgs false
namespace Go.Proofs.Ytjknnifcbcdjiaa.Lives17
open Go.RowKit Go.Proofs.Ytjknnifcbcdjiaa.Base Go.Proofs.YtjknnifcbcdjiaaW.PrintWords
theorem tof_short (w : World) : Calls Try.prog 92 #[.int .u8 3] w fun e w' => e = .returned (.int .i64 1) ∧ w = w' := by
  go_enter Try.func92, Try.ntmps92
  go_wp2
  go_ret
  exact ⟨rfl, rfl⟩
theorem may_short (w : World) : Calls Try.prog 68 #[.agg #[.int .u8 3, .int .u16 0]] w fun e w' => e = .returned (.bool true) ∧ Below w.heap.size w w' := by
  go_enter Try.func68, Try.ntmps68
  go_wp2_with (go_at_call 92; refine (tof_short _).mono ?_; rintro e w' ⟨rfl, rfl⟩)
  go_ret
  exact ⟨rfl, (Below.refl _ _).alloc (Nat.le_refl _) _⟩
theorem size_short (w : World) : Calls Try.prog 103 #[.agg #[.int .u8 3, .int .u16 0]] w fun e w' => e = .returned (.int .i64 0) ∧ Below w.heap.size w w' := by
  go_enter Try.func103, Try.ntmps103
  go_wp2
  go_ret
  exact ⟨rfl, (Below.refl _ _).alloc (Nat.le_refl _) _⟩
theorem arr_short (w : World) : Calls Try.prog 93 #[.agg #[.int .u8 3, .int .u16 0]] w fun e w' => e = .returned (.bool false) ∧ Below w.heap.size w w' := by
  go_enter Try.func93, Try.ntmps93
  go_wp2_with (go_at_call 103; refine (size_short _).mono ?_; rintro e w' ⟨rfl, hb⟩)
  go_ret
  exact ⟨rfl, ((Below.refl _ _).alloc (Nat.le_refl _) _).trans (hb.mono (by simp))⟩
theorem isref_short (w : World) : Calls Try.prog 69 #[.agg #[.int .u8 3, .int .u16 0]] w fun e w' => e = .returned (.bool false) ∧ Below w.heap.size w w' := by
  go_enter Try.func69, Try.ntmps69
  go_wp2_with (go_at_call 93; refine (arr_short _).mono ?_; rintro e w' ⟨rfl, hb⟩)
  go_ret
  exact ⟨rfl, ((Below.refl _ _).alloc (Nat.le_refl _) _).trans (hb.mono (by simp))⟩
theorem bcell {W w1 : World} (hb : Below W.heap.size W w1) : (∀ b o, b < W.heap.size → w1.cell? ⟨b, o, none⟩ = W.cell? ⟨b, o, none⟩) ∧ (∀ b o, b < W.heap.size → w1.frozen? ⟨b, o, none⟩ = W.frozen? ⟨b, o, none⟩) :=
  ⟨fun b o h => hb.cell (p := ⟨b, o, none⟩) h, fun b o h => hb.frozen (p := ⟨b, o, none⟩) h⟩
theorem of_short (w : World) : Calls Try.prog 90 #[.agg #[.int .u8 3, .int .u16 0]] w fun e w' => e = .returned (.agg #[.int .u8 2, .int .u8 0, .int .u16 0, .int .i64 0]) ∧ Below w.heap.size w w' := by
  go_enter Try.func90, Try.ntmps90
  go_wp2_with (fail)
  refine (may_short _).mono ?_
  rintro e w1 ⟨rfl, hb1⟩
  have bs1 : w1.heap[w.heap.size]? = some (.cells #[.int .u8 3, .int .u16 0] 32 (0, 0)) := blk_below (blk_alloc (blk_new _ _) _) hb1
  have br1 : w1.heap[w.heap.size + 1]? = some (.cells #[.int .u8 0, .int .u8 0, .int .u16 0, .int .i64 0] 56 (0, 0)) := blk_below (by have := blk_new (w.alloc (.cells #[.int .u8 3, .int .u16 0] 32)) (.cells #[.int .u8 0, .int .u8 0, .int .u16 0, .int .i64 0] 56 (0, 0)); simpa using this) hb1
  have s0 : w1.cell? ⟨w.heap.size, 0, none⟩ = some (.int .u8 3) := (blk_cell bs1 0).trans rfl
  have s1 : w1.cell? ⟨w.heap.size, 1, none⟩ = some (.int .u16 0) := (blk_cell bs1 1).trans rfl
  have BR1 := Aside0.mk br1
  have HB1 := Aside0.mk hb1
  clear bs1 br1 hb1
  go_wp2_with (fail)
  refine (isref_short _).mono ?_
  rintro e w2 ⟨rfl, hb2⟩
  have br2 := blk_below BR1.out hb2
  have r0 : w2.cell? ⟨w.heap.size + 1, 0, none⟩ = some (.int .u8 0) := (blk_cell br2 0).trans rfl
  have r1 : w2.cell? ⟨w.heap.size + 1, 1, none⟩ = some (.int .u8 0) := (blk_cell br2 1).trans rfl
  have r2 : w2.cell? ⟨w.heap.size + 1, 2, none⟩ = some (.int .u16 0) := (blk_cell br2 2).trans rfl
  have r3 : w2.cell? ⟨w.heap.size + 1, 3, none⟩ = some (.int .i64 0) := (blk_cell br2 3).trans rfl
  have f0 := blk_frozen br2 0
  have f1 := blk_frozen br2 1
  have f2 := blk_frozen br2 2
  have f3 := blk_frozen br2 3
  have BR2 := Aside0.mk br2
  have HB2 := Aside0.mk hb2
  clear br2 hb2
  go_wp2_with (fail)
  have b3 := blk_put (blk_put (blk_put (blk_put BR2.out 0 (.int .u8 2) rfl) 1 (.int .u8 0) rfl) 2 (.int .u16 0) rfl) 3 (.int .i64 0) rfl
  have e0 := blk_cell b3 0
  have e1 := blk_cell b3 1
  have e2 := blk_cell b3 2
  have e3 := blk_cell b3 3
  have hz1 := HB1.out.size
  simp at hz1
  have hz2 := HB2.out.size
  refine bodyPost_ret (v := .agg #[.int .u8 2, .int .u8 0, .int .u16 0, .int .i64 0]) (by simp at e0 e1 e2 e3; simp [results, Try.results90, go_sem, e0, e1, e2, e3]) rfl ⟨rfl, ?_⟩
  exact (((((((((Below.refl _ _).alloc (Nat.le_refl _) _).alloc (by simp) _).trans (HB1.out.mono (by simp; omega))).trans (HB2.out.mono (by omega))).setCell (by simp) _).setCell (by simp) _).setCell (by simp) _).setCell (by simp) _)
/-- A round's head: the row so far (u), what the shape's variable holds (v). -/
structure St (w : World) (P : Nat) (v u : Value) (n : Nat) (xs : List Value) (wl : World) : Prop where
  b : Below w.heap.size w wl
  m : wl.heap[w.heap.size + 1]? = some (.cells #[.int .i64 0, .int .u8 1, .int .i64 0, .slice (some ⟨P, 0, none⟩) 1 1, .int .u8 0, .int .u16 0, .int .i64 0, .int .i64 1, .slice none 0 0, .slice none 0 0, .int .i64 0] 38 (0, 0))
  r : wl.heap[w.heap.size + 1 + 1]? = some (.cells #[.slice none 0 0, .slice none 0 0, .slice none 0 0] 53 (0, 0))
  s : wl.heap[w.heap.size + 1 + 1 + 1]? = some (.cells #[v, .slice none 0 0, .slice none 0 0] 53 (0, 0))
  p : wl.heap[P]? = some (.cells #[.int .u8 3, .int .u16 0] 32 (0, 0))
  o : wl.ownsRow w.heap.size 56 4 u n xs
theorem St.below {w wl w' : World} {P n : Nat} {v u : Value} {xs : List Value} (h : St w P v u n xs wl) (hb : Below wl.heap.size wl w') : St w P v u n xs w' :=
  ⟨h.b.trans (hb.mono h.b.size), blk_below h.m hb, blk_below h.r hb, blk_below h.s hb, blk_below h.p hb, own_move h.o (fun k hk => hb.block k (own_lt h.o k hk))⟩
theorem ne_typed {w : World} {g : Nat} {base n size : Nat} {e t : TypeId} {u : Value} {xs : List Value} {cs : Array Value} (h : w.heap[g]? = some (.cells cs t (0, 0))) (o : w.ownsRow base e size u n xs) (ht : t ≠ e) : some g ≠ u.ownBlock := fun he => by
  obtain ⟨c, hc⟩ := own_typed o g he.symm
  rw [h] at hc
  injection hc with hc
  injection hc with _ hc _
  exact ht hc
theorem St.grow {w wl w' : World} {P n n' : Nat} {v u u' : Value} {xs xs' : List Value} (h : St w P v u n xs wl) (g : wl.grownBy w' u.ownBlock) (o : w'.ownsRow w.heap.size 56 4 u' n' xs') : St w P v u' n' xs' w' :=
  ⟨h.b.grown g h.b.size (fun k hk => own_base h.o k hk), blk_grown h.m g (ne_typed h.m h.o (by decide)), blk_grown h.r g (ne_typed h.r h.o (by decide)), blk_grown h.s g (ne_typed h.s h.o (by decide)), blk_grown h.p g (ne_typed h.p h.o (by decide)), o⟩
theorem St.set {w wl : World} {P n : Nat} {v u : Value} {xs : List Value} (h : St w P v u n xs wl) (hP : P < w.heap.size) : St w P u u n xs (wl.setCell ⟨w.heap.size + 1 + 1 + 1, 0, none⟩ u) :=
  ⟨h.b.setCell (by show w.heap.size ≤ w.heap.size + 1 + 1 + 1; omega) _, blk_far h.m (by show w.heap.size + 1 ≠ w.heap.size + 1 + 1 + 1; omega) _, blk_far h.r (by show w.heap.size + 1 + 1 ≠ w.heap.size + 1 + 1 + 1; omega) _, blk_put h.s 0 u rfl, blk_far h.p (by show P ≠ w.heap.size + 1 + 1 + 1; omega) _,
    own_move h.o (fun k hk => Below.heap_setCell wl ⟨w.heap.size + 1 + 1 + 1, 0, none⟩ u k (fun e => by
      subst e
      exact ne_typed h.s h.o (by decide) hk.symm))⟩
def num : List Value := [.int .u8 2, .int .u8 0, .int .u16 0, .int .i64 0]
def non : List Value := [.int .u8 1, .int .u8 0, .int .u16 0, .int .i64 0]
def rowAt (j : Nat) : List Value := if j = 0 then [] else num
theorem one_num : ∀ u ∈ num, u.oneCell' = true := fun u hu => by
  simp only [num, List.mem_cons, List.not_mem_nil, or_false] at hu
  rcases hu with rfl | rfl | rfl | rfl <;> rfl
theorem one_non : ∀ u ∈ non, u.oneCell' = true := fun u hu => by
  simp only [non, List.mem_cons, List.not_mem_nil, or_false] at hu
  rcases hu with rfl | rfl | rfl | rfl <;> rfl
theorem info56v : (Try.prog.info? 56).map (fun i => (i.zero, i.size, i.bytes)) = some (some (.agg #[.int .u8 0, .int .u8 0, .int .u16 0, .int .i64 0]), 4, 16) := by kernel_rfl
set_option maxHeartbeats 4000000 in
set_option maxRecDepth 100000 in
theorem shape_of (w : World) (v1 v2 v3 v4 : Value) (q1 : v1.oneCell' = true) (q2 : v2.oneCell' = true) (q3 : v3.oneCell' = true) (q4 : v4.oneCell' = true) (P : Nat) (bp : w.heap[P]? = some (.cells #[.int .u8 3, .int .u16 0] 32 (0, 0))) :
    Calls Try.prog 58 #[.agg #[v1, v2, v3, v4], .agg #[.int .i64 0, .int .u8 1, .int .i64 0, .slice (some ⟨P, 0, none⟩) 1 1, .int .u8 0, .int .u16 0, .int .i64 0, .int .i64 1, .slice none 0 0, .slice none 0 0, .int .i64 0]] w fun e w' =>
      ∃ g cap, e = .returned (.agg #[.slice (some ⟨g, 0, none⟩) 2 cap, .slice none 0 0, .slice none 0 0]) ∧ w'.ownsRow w.heap.size 56 4 (.slice (some ⟨g, 0, none⟩) 2 cap) 2 [.int .u8 2, .int .u8 0, .int .u16 0, .int .i64 0, .int .u8 1, .int .u8 0, .int .u16 0, .int .i64 0] ∧ Below w.heap.size w w' := by
  have hP : P < w.heap.size := (Array.getElem?_eq_some_iff.1 bp).1
  obtain ⟨i1, hi1, ha1, hb1, hc1⟩ := info_parts info56v
  go_enter Try.func58, Try.ntmps58
  go_wp2_with (fail)
  have h0 : St w P (.slice none 0 0) (.slice none 0 0) 0 [] ((((w.alloc (.cells #[v1, v2, v3, v4] 27)).alloc (.cells #[.int .i64 0, .int .u8 1, .int .i64 0, .slice (some ⟨P, 0, none⟩) 1 1, .int .u8 0, .int .u16 0, .int .i64 0, .int .i64 1, .slice none 0 0, .slice none 0 0, .int .i64 0] 38)).alloc (.cells #[.slice none 0 0, .slice none 0 0, .slice none 0 0] 53)).alloc (.cells #[.slice none 0 0, .slice none 0 0, .slice none 0 0] 53)) :=
    ⟨(((((Below.refl _ _).alloc (Nat.le_refl _) _).alloc (by simp) _).alloc (by simp; omega) _).alloc (by simp; omega) _),
      blk_alloc (blk_alloc (by have := blk_new (w.alloc (.cells #[v1, v2, v3, v4] 27)) (.cells #[.int .i64 0, .int .u8 1, .int .i64 0, .slice (some ⟨P, 0, none⟩) 1 1, .int .u8 0, .int .u16 0, .int .i64 0, .int .i64 1, .slice none 0 0, .slice none 0 0, .int .i64 0] 38 (0, 0)); simpa using this) _) _,
      blk_alloc (by have := blk_new ((w.alloc (.cells #[v1, v2, v3, v4] 27)).alloc (.cells #[.int .i64 0, .int .u8 1, .int .i64 0, .slice (some ⟨P, 0, none⟩) 1 1, .int .u8 0, .int .u16 0, .int .i64 0, .int .i64 1, .slice none 0 0, .slice none 0 0, .int .i64 0] 38)) (.cells #[.slice none 0 0, .slice none 0 0, .slice none 0 0] 53 (0, 0)); simpa using this) _,
      by have := blk_new (((w.alloc (.cells #[v1, v2, v3, v4] 27)).alloc (.cells #[.int .i64 0, .int .u8 1, .int .i64 0, .slice (some ⟨P, 0, none⟩) 1 1, .int .u8 0, .int .u16 0, .int .i64 0, .int .i64 1, .slice none 0 0, .slice none 0 0, .int .i64 0] 38)).alloc (.cells #[.slice none 0 0, .slice none 0 0, .slice none 0 0] 53)) (.cells #[.slice none 0 0, .slice none 0 0, .slice none 0 0] 53 (0, 0)); simpa using this,
      blk_alloc (blk_alloc (blk_alloc (blk_alloc bp _) _) _) _, own_nil _ _ _ _⟩
  generalize ((((w.alloc (.cells #[v1, v2, v3, v4] 27)).alloc (.cells #[.int .i64 0, .int .u8 1, .int .i64 0, .slice (some ⟨P, 0, none⟩) 1 1, .int .u8 0, .int .u16 0, .int .i64 0, .int .i64 1, .slice none 0 0, .slice none 0 0, .int .i64 0] 38)).alloc (.cells #[.slice none 0 0, .slice none 0 0, .slice none 0 0] 53)).alloc (.cells #[.slice none 0 0, .slice none 0 0, .slice none 0 0] 53)) = wa at *
  have HP := Aside0.mk hP
  clear bp hP
  go_loopg [26] 1 (fun q i wl => ∃ j v, j + q ≤ 1 ∧ 1 ≤ j + q ∧ i = .int .i64 ((j : Nat) : Int) ∧ Aside0 (St w P v v j (rowAt j) wl))
  case atStart => exact ⟨0, _, by omega, by omega, rfl, ⟨h0⟩⟩
  case round =>
    clear h0
    obtain ⟨j, v, hj1, hj2, rfl, hS⟩ := hrel
    by_cases hlt : 0 < gk
    · obtain rfl : j = 0 := by omega
      have hR := hS.out
      have s0 : wr.cell? ⟨w.heap.size + 1 + 1 + 1, 0, none⟩ = some v := (blk_cell hR.s 0).trans rfl
      have p0 : wr.cell? ⟨P, 0, none⟩ = some (.int .u8 3) := (blk_cell hR.p 0).trans rfl
      have p1 : wr.cell? ⟨P, 1, none⟩ = some (.int .u16 0) := (blk_cell hR.p 1).trans rfl
      clear hR
      go_wp2_with (fail)
      have hB6 := blk_new wr (.cells #[.int .u8 3, .int .u16 0] 32 (0, 0))
      have hS6 : St w P v v 0 [] (wr.alloc (.cells #[.int .u8 3, .int .u16 0] 32)) := St.below hS.out (below_alloc (Below.refl _ _) _)
      generalize wr.alloc (.cells #[.int .u8 3, .int .u16 0] 32) = w6 at *
      generalize wr.heap.size = B6 at *
      clear s0 p0 p1 hS
      have y0 : w6.cell? ⟨w.heap.size + 1 + 1 + 1, 0, none⟩ = some v := (blk_cell hS6.s 0).trans rfl
      have y1 : w6.cell? ⟨B6, 0, none⟩ = some (.int .u8 3) := (blk_cell hB6 0).trans rfl
      have y2 : w6.cell? ⟨B6, 1, none⟩ = some (.int .u16 0) := (blk_cell hB6 1).trans rfl
      have hRd := hS6.below (below_drew (Below.refl _ w6))
      have hq1 : 0 + 1 ≤ maxLen := by unfold maxLen; omega
      go_region_law (first | (refine step_append_lies _ rfl (.tmp 31) (.tmp 34) 50 rfl w.heap.size 56 i1 (.agg #[.int .u8 0, .int .u8 0, .int .u16 0, .int .i64 0]) 4 16 Try.underlying50 hi1 ha1 hb1 hc1 rfl (by decide) v _ _ (by simp [Act.eval, Act.put]) hRb.o ⟨w7.heap.size, 0, none⟩ 1 1 num (by simp [Act.eval, Act.put]) rfl (World.news_of_block hB) one_num (by decide) hq1 (by decide) hsb _ rfl ?_; intro g8 cap8 w8 ho8 hg8 hat8 hlt8; have hR8 := hRb.grow hg8 ho8; have z1 : w8.cell? ⟨w.heap.size + 1 + 1 + 1, 0, none⟩ = some v := (blk_cell hR8.s 0).trans rfl; have z2 := blk_frozen hR8.s 0) |
        (go_simp; go_at_call 90; refine (of_short _).mono ?_; rintro e w7 ⟨rfl, c7⟩; have hRc := hRd.below c7; have z3 : w7.cell? ⟨w.heap.size + 1 + 1 + 1, 0, none⟩ = some v := (blk_cell hRc.s 0).trans rfl; have hB := blk_new w7 (.cells #[.int .u8 2, .int .u8 0, .int .u16 0, .int .i64 0] 56 (0, 0)); have hRb := hRc.below (below_alloc (Below.refl _ w7) (.cells #[.int .u8 2, .int .u8 0, .int .u16 0, .int .i64 0] 56)); have hsb := hRb.b.size; have z4 := blk_cell hRb.s 0))
      all_goals (go_wp2_with (fail); go_roundg (gk - 1))
      all_goals (first | omega | exact ⟨1, _, by omega, by omega, rfl, ⟨hR8.set HP.out⟩⟩)
    · obtain rfl : j = 1 := by omega
      have hS1 : St w P v v 1 num wr := hS.out
      have m7 : wr.cell? ⟨w.heap.size + 1, 7, none⟩ = some (.int .i64 1) := (blk_cell hS1.m 7).trans rfl
      have HS1 := Aside0.mk hS1
      clear hS1 hS hj1 hj2 hlt
      go_wp2_with (fail)
      clear m7
      generalize wr = wb at *
      generalize gk = g0 at *
      go_loopg [41] 1 (fun q i wl => ∃ j v, j + q ≤ 1 ∧ 1 ≤ j + q ∧ i = .int .i64 ((j : Nat) : Int) ∧ Aside0 (St w P v v (1 + j) (num ++ if j = 0 then [] else non) wl))
      case atStart => exact ⟨0, _, by omega, by omega, rfl, ⟨by simpa using HS1.out⟩⟩
      case round =>
        clear HS1
        obtain ⟨j, v, hj1, hj2, rfl, hS⟩ := hrel
        by_cases hlt : 0 < gk
        · obtain rfl : j = 0 := by omega
          have hS0 : St w P v v 1 num wr := by have := hS.out; simpa using this
          have s0 : wr.cell? ⟨w.heap.size + 1 + 1 + 1, 0, none⟩ = some v := (blk_cell hS0.s 0).trans rfl
          have hB := blk_new wr (.cells #[.int .u8 1, .int .u8 0, .int .u16 0, .int .i64 0] 56 (0, 0))
          have hRb := hS0.below (below_alloc (Below.refl _ wr) (.cells #[.int .u8 1, .int .u8 0, .int .u16 0, .int .i64 0] 56))
          have hsb := hRb.b.size
          have hq1 : 1 + 1 ≤ maxLen := by unfold maxLen; omega
          clear hS hS0
          go_wp2_with (first | (at_builtin; go_loud (refine wpList_append_lies _ rfl _ _ 50 rfl w.heap.size 56 i1 (.agg #[.int .u8 0, .int .u8 0, .int .u16 0, .int .i64 0]) 4 16 Try.underlying50 hi1 ha1 hb1 hc1 rfl (by decide) v _ _ rfl hRb.o ⟨wr.heap.size, 0, none⟩ 1 1 non rfl rfl (World.news_of_block hB) one_non (by decide) hq1 (by decide) hsb _ rfl ?_)) | fail)
          intro g8 cap8 w8 ho8 hg8 hat8 hlt8
          have hR8 := hRb.grow hg8 ho8
          have z1 : w8.cell? ⟨w.heap.size + 1 + 1 + 1, 0, none⟩ = some v := (blk_cell hR8.s 0).trans rfl
          have z2 := blk_frozen hR8.s 0
          clear s0 hB hsb ho8 hg8 hat8 hlt8 hRb
          go_wp2_with (fail)
          go_roundg (gk - 1)
          case measure => omega
          case rel => exact ⟨1, _, by omega, by omega, rfl, ⟨by simpa using hR8.set HP.out⟩⟩
        · obtain rfl : j = 1 := by omega
          have hS1 : St w P v v 2 (num ++ non) wr := hS.out
          obtain ⟨g, cap, hv, _, _⟩ := hS1.o.form (by decide)
          subst hv
          have s0 : wr.cell? ⟨w.heap.size + 1 + 1 + 1, 0, none⟩ = some (.slice (some ⟨g, 0, none⟩) 2 cap) := (blk_cell hS1.s 0).trans rfl
          have s1 : wr.cell? ⟨w.heap.size + 1 + 1 + 1, 1, none⟩ = some (.slice none 0 0) := (blk_cell hS1.s 1).trans rfl
          have s2 : wr.cell? ⟨w.heap.size + 1 + 1 + 1, 2, none⟩ = some (.slice none 0 0) := (blk_cell hS1.s 2).trans rfl
          have r0 : wr.cell? ⟨w.heap.size + 1 + 1, 0, none⟩ = some (.slice none 0 0) := (blk_cell hS1.r 0).trans rfl
          have r1 : wr.cell? ⟨w.heap.size + 1 + 1, 1, none⟩ = some (.slice none 0 0) := (blk_cell hS1.r 1).trans rfl
          have r2 : wr.cell? ⟨w.heap.size + 1 + 1, 2, none⟩ = some (.slice none 0 0) := (blk_cell hS1.r 2).trans rfl
          have f0 := blk_frozen hS1.r 0
          have f1 := blk_frozen hS1.r 1
          have f2 := blk_frozen hS1.r 2
          have HS1 := Aside0.mk hS1
          clear hS1 hS
          go_wp2_with (fail)
          have b3 := blk_put (blk_put (blk_put HS1.out.r 0 (.slice (some ⟨g, 0, none⟩) 2 cap) rfl) 1 (.slice none 0 0) rfl) 2 (.slice none 0 0) rfl
          have e0 := blk_cell b3 0
          have e1 := blk_cell b3 1
          have e2 := blk_cell b3 2
          have hne := ne_typed HS1.out.r HS1.out.o (by decide)
          refine bodyPost_ret (v := .agg #[.slice (some ⟨g, 0, none⟩) 2 cap, .slice none 0 0, .slice none 0 0]) (by simp at e0 e1 e2; simp [results, Try.results58, go_sem, e0, e1, e2]) rfl ⟨g, cap, rfl, own_move HS1.out.o (fun k hk => ?_), ?_⟩
          · have hk' : k ≠ w.heap.size + 1 + 1 := fun e => hne (by rw [hk, e])
            rw [Below.heap_setCell _ _ _ _ hk', Below.heap_setCell _ _ _ _ hk', Below.heap_setCell _ _ _ _ hk']
          · exact ((HS1.out.b.setCell (by simp; omega) _).setCell (by simp; omega) _).setCell (by simp; omega) _
end Go.Proofs.Ytjknnifcbcdjiaa.Lives17
