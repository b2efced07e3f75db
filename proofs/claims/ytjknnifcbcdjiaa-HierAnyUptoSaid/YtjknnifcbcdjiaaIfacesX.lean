/- hier.Ifaces: the walk over the classes above, and what it has gathered. -/
import Derived.Test.YtjknnifcbcdjiaaIfacesW
import Derived.Test.YtjknnifcbcdjiaaShelf
import Derived.Sort.OwnSortedInts
import Derived.Lib.RowBridge
set_option linter.unusedVariables false
set_option linter.unusedSimpArgs false
namespace Go.Proofs.Ytjknnifcbcdjiaa.Ups
open Go.RowKit Go.Shelf Go.Proofs.Ytjknnifcbcdjiaa.RangeC Go.Proofs.YtjknnifcbcdjiaaW.PrintWords
attribute [local go_sem] Oper.semAt_some
theorem cells2 {w : World} {B e : Nat} {a b : Value} (h : w.heap[B]? = some (.cells #[a, b] e (0, 0))) : w.cell? ⟨B, 0, none⟩ = some a ∧ w.cell? ⟨B, 1, none⟩ = some b := ⟨by simp [World.cell?, h], by simp [World.cell?, h]⟩
theorem Mid.len {w W w1 : World} {b1 n₁ k k' cap : Nat} {acc : List Int} {p : Addr} {A : Option Addr} (h : Mid w W b1 n₁ acc (w1.setCell p (.slice A k cap))) (e : k = k') : Mid w W b1 n₁ acc (w1.setCell p (.slice A k' cap)) := e ▸ h
/-- The interfaces of a class, in order, each once. -/
def ifcP (n : Nat) (sup : Int → Int) (ifs : Int → List Int) (fl : Int → Int) (a : Int) : List Int := Lib.compact ((gathAll n fl ifs (ups n sup (n + 1) a)).mergeSort fun x y => decide (x ≤ y))
theorem grow_none (w : World) : Sort.grow w #[] = w := by simp [Sort.grow]
theorem sort_own {W : World} {base g cap nn : Nat} {os : Array Obj} {ss ts : List Int} (hrow : W.ownsRow base 3 1 (.slice (some ⟨g, 0, none⟩) ss.length cap) ss.length (ss.map (Value.int .i64))) (hl : ts.length = ss.length) :
    (Sort.grow (Sort.putRow (Value.int .i64) (Sort.ahead W nn) g 0 ts.toArray) os).ownsRow base 3 1 (.slice (some ⟨g, 0, none⟩) ts.length cap) ts.length (ts.map (Value.int .i64)) := by
  rcases hrow.2 with ⟨h0, _⟩ | ⟨g', cap', cur, hv, hb, hgb, h1, h2, h3, h4⟩
  · cases h0
  · cases hv
    rw [hl]
    exact Go.ownsRow_sortedI hl hb hgb h1 h2 h3
theorem own_holds {W : World} {base g cap : Nat} {ss : List Int} (hrow : W.ownsRow base 3 1 (.slice (some ⟨g, 0, none⟩) ss.length cap) ss.length (ss.map (Value.int .i64))) : Sort.Holds (Value.int .i64) W g 0 ss.toArray ∧ g < W.heap.size ∧ base ≤ g := by
  rcases hrow.2 with ⟨h0, _⟩ | ⟨g', cap', cur, hv, hb, hgb, h1, h2, h3, h4⟩
  · cases h0
  · cases hv
    exact ⟨Go.holds_of_blockI hgb (by simpa using h4), (Array.getElem?_eq_some_iff.1 hgb).1, hb⟩
theorem ups_len2 (n : Nat) (sup : Int → Int) : ∀ (k : Nat) (a : Int), (ups n sup k a).length ≤ k
  | 0, _ => by simp [ups]
  | k + 1, a => by
    unfold ups
    split
    · simpa using ups_len2 n sup k (sup a)
    · simp
theorem compact_len (l : List Int) : (Lib.compact l).length ≤ l.length := Lib.compact_length_le l
section
variable (w : World) (A : Option Addr) (n c : Nat) (A2 : Option Addr) (n2 c2 : Nat) (A3 : Option Addr) (n3 c3 : Nat) (A4 : Option Addr) (n4 c4 : Nat) (sup : Int → Int) (ifs : Int → List Int) (fl : Int → Int) (a : Int) (M : Nat)
set_option maxHeartbeats 4000000 in
set_option maxRecDepth 100000 in
theorem ifaces_any (hn : n ≤ 4611686018427387904) (hS : Sup w.heap.size w A n sup) (hI : IfsAt w.heap.size w A n ifs) (hF : Fl w.heap.size w A n fl) (hL : ∀ i, (ifs i).length ≤ M) (hM : (n + 2) * (M + 1) ≤ 10000000000000) :
    Calls Try.prog 43 #[.agg #[.slice A n c, .slice A2 n2 c2, .slice A3 n3 c3, .slice A4 n4 c4], .int .i64 a] w fun e w' => ∃ v, e = .returned v ∧ w'.ownsRow w.heap.size 3 1 v (ifcP n sup ifs fl a).length ((ifcP n sup ifs fl a).map (Value.int .i64)) ∧ Below w.heap.size w w' := by
  obtain ⟨i0, hif, hz0, hz1, hz2⟩ := info_parts info3
  refine (callsIn_wide (n := 3)).1 ?_
  refine callsIn_of_wp_marks Try.func43 rfl trivial ?_ rfl
  simp only [Try.ntmps43, List.size_toArray, List.length_cons, List.length_nil, Nat.reduceAdd, Nat.reduceSub, Array.replicate_succ, Array.replicate_zero, List.push_toArray, List.append_toArray, List.nil_append, List.cons_append]
  gi_wp2_with (refine ⟨trivial, ?_⟩; gi_at_call 76; refine (callsIn_wide.2 (ups_any _ _ _ _ _ _ _ _ _ _ _ _ _ _)).mono ?_; rintro e w' ⟨rfl, rfl⟩)
  have hw0 : ((((w.alloc (.cells #[.slice A n c, .slice A2 n2 c2, .slice A3 n3 c3, .slice A4 n4 c4] 27)).alloc (.cells #[.slice none 0 0] 51)).alloc (.cells #[.slice A n c, .slice A2 n2 c2, .slice A3 n3 c3, .slice A4 n4 c4] 27)).alloc (.cells #[.int .i64 a] 3)).heap[w.heap.size]? = some (.cells #[.slice A n c, .slice A2 n2 c2, .slice A3 n3 c3, .slice A4 n4 c4] 27 (0, 0)) := blk_alloc (blk_alloc (blk_alloc (blk_new w _) _) _) _
  have hl0 : Boxed ((((w.alloc (.cells #[.slice A n c, .slice A2 n2 c2, .slice A3 n3 c3, .slice A4 n4 c4] 27)).alloc (.cells #[.slice none 0 0] 51)).alloc (.cells #[.slice A n c, .slice A2 n2 c2, .slice A3 n3 c3, .slice A4 n4 c4] 27)).alloc (.cells #[.int .i64 a] 3)) (w.heap.size + 1) 51 (.slice none 0 0) := by have := ((Boxed.new (w.alloc (.cells #[.slice A n c, .slice A2 n2 c2, .slice A3 n3 c3, .slice A4 n4 c4] 27)) 51 (.slice none 0 0)).alloc (.cells #[.slice A n c, .slice A2 n2 c2, .slice A3 n3 c3, .slice A4 n4 c4] 27)).alloc (.cells #[.int .i64 a] 3); rwa [World.size_alloc] at this
  have hBw : ((((w.alloc (.cells #[.slice A n c, .slice A2 n2 c2, .slice A3 n3 c3, .slice A4 n4 c4] 27)).alloc (.cells #[.slice none 0 0] 51)).alloc (.cells #[.slice A n c, .slice A2 n2 c2, .slice A3 n3 c3, .slice A4 n4 c4] 27)).alloc (.cells #[.int .i64 a] 3)).heap[w.heap.size + 2]? = some (.cells #[.slice A n c, .slice A2 n2 c2, .slice A3 n3 c3, .slice A4 n4 c4] 27 (0, 0)) := by have := blk_alloc (blk_new ((w.alloc (.cells #[.slice A n c, .slice A2 n2 c2, .slice A3 n3 c3, .slice A4 n4 c4] 27)).alloc (.cells #[.slice none 0 0] 51)) (.cells #[.slice A n c, .slice A2 n2 c2, .slice A3 n3 c3, .slice A4 n4 c4] 27)) (.cells #[.int .i64 a] 3); simpa using this
  have hBa : ((((w.alloc (.cells #[.slice A n c, .slice A2 n2 c2, .slice A3 n3 c3, .slice A4 n4 c4] 27)).alloc (.cells #[.slice none 0 0] 51)).alloc (.cells #[.slice A n c, .slice A2 n2 c2, .slice A3 n3 c3, .slice A4 n4 c4] 27)).alloc (.cells #[.int .i64 a] 3)).heap[w.heap.size + 3]? = some (.cells #[.int .i64 a] 3 (0, 0)) := by have := blk_new (((w.alloc (.cells #[.slice A n c, .slice A2 n2 c2, .slice A3 n3 c3, .slice A4 n4 c4] 27)).alloc (.cells #[.slice none 0 0] 51)).alloc (.cells #[.slice A n c, .slice A2 n2 c2, .slice A3 n3 c3, .slice A4 n4 c4] 27)) (.cells #[.int .i64 a] 3); simpa using this
  have hB0 : Below w.heap.size w ((((w.alloc (.cells #[.slice A n c, .slice A2 n2 c2, .slice A3 n3 c3, .slice A4 n4 c4] 27)).alloc (.cells #[.slice none 0 0] 51)).alloc (.cells #[.slice A n c, .slice A2 n2 c2, .slice A3 n3 c3, .slice A4 n4 c4] 27)).alloc (.cells #[.int .i64 a] 3)) := below_alloc (below_alloc (below_alloc (below_alloc (Below.refl _ _) _) _) _) _
  have hz : ((((w.alloc (.cells #[.slice A n c, .slice A2 n2 c2, .slice A3 n3 c3, .slice A4 n4 c4] 27)).alloc (.cells #[.slice none 0 0] 51)).alloc (.cells #[.slice A n c, .slice A2 n2 c2, .slice A3 n3 c3, .slice A4 n4 c4] 27)).alloc (.cells #[.int .i64 a] 3)).heap.size = w.heap.size + 4 := by simp
  generalize ((((w.alloc (.cells #[.slice A n c, .slice A2 n2 c2, .slice A3 n3 c3, .slice A4 n4 c4] 27)).alloc (.cells #[.slice none 0 0] 51)).alloc (.cells #[.slice A n c, .slice A2 n2 c2, .slice A3 n3 c3, .slice A4 n4 c4] 27)).alloc (.cells #[.int .i64 a] 3)) = WR at hw0 hl0 hBw hBa hB0 hz ⊢
  refine range_c (n := 3) rfl (by decide) (gf := 95) (lb := #[.pointer (some ⟨w.heap.size + 2, 0, none⟩), .pointer (some ⟨w.heap.size + 3, 0, none⟩)]) (c := w.heap.size + 3) rfl trivial (enters_of Try.func95 (by kernel_rfl) rfl) (by omega)
    (ups1_seq w.heap.size 2 A n c _ _ _ sup a (w.heap.size + 2) _ (by omega) WR (by decide) hn hBw hBa (by omega) (hS.below hB0)) kp_t (kp_b (by omega) (by omega) (by omega)) (Below.refl _ _) (fun _ => rfl)
    (fun pre W => W.heap[w.heap.size]? = some (.cells #[.slice A n c, .slice A2 n2 c2, .slice A3 n3 c3, .slice A4 n4 c4] 27 (0, 0)) ∧ (∃ v, Boxed W (w.heap.size + 1) 51 v ∧ W.ownsRow (w.heap.size + 4) 3 1 v (gathAll n fl ifs pre).length ((gathAll n fl ifs pre).map fun x => .int .i64 x)) ∧ Below w.heap.size w W ∧ w.heap.size + 4 ≤ W.heap.size)
    (fun _ _ => False)
    (fun s X Y row hs hg hr => by
      obtain ⟨h0, ⟨v, hv, hrow⟩, hB, hq⟩ := hs
      exact ⟨keepO hg hr h0 rfl, ⟨v, keepO hg hr hv rfl, row_kept hrow hg (fun r e => .inr (hr r e).2)⟩, hB.grown hg (Nat.le_trans (by omega) hB.size) (fun k e => by have := (hr k e).1; omega), Nat.le_trans hq hg.size⟩)
    (fun _ _ _ _ hs _ _ => hs.elim)
    (fun s X Y row hs hg hr => by
      obtain ⟨h0, ⟨v, hv, hrow⟩, hB, hq⟩ := hs
      exact ⟨keepC hg hr h0 (by omega), ⟨v, keepC hg hr hv (by omega), row_kept hrow hg (fun r e => .inl (by have := hr r e; omega))⟩, hB.grown hg (Nat.le_trans (by omega) hB.size) (fun k e => by have := hr k e; omega), Nat.le_trans hq hg.size⟩)
    (fun _ _ _ _ hs _ _ => hs.elim)
    ⟨hw0, ⟨_, hl0, World.ownsRow_nil _ _ _ _⟩, hB0, by omega⟩
    (fun x => { tmps := #[.agg #[.slice A n c, .slice A2 n2 c2, .slice A3 n3 c3, .slice A4 n4 c4], .int .i64 a, .pointer (some ⟨w.heap.size, 0, none⟩), undef, .slice none 0 0, .pointer (some ⟨w.heap.size + 1, 0, none⟩), .int .i64 x.1, undef, undef, .agg #[.slice A n c, .slice A2 n2 c2, .slice A3 n3 c3, .slice A4 n4 c4], .int .i64 a, .func (.func 95) #[] #[.pointer (some ⟨w.heap.size + 2, 0, none⟩), .pointer (some ⟨w.heap.size + 3, 0, none⟩)], .int .i64 x.1, undef, undef, undef, undef, undef, undef, undef, undef, undef, undef, undef, undef, undef, undef, undef, undef, undef, undef, undef, undef, undef, undef, undef, undef, undef, undef, undef, undef, undef, undef, undef, undef, undef, undef, undef, undef, undef, undef], defers := [] }) ?assign ?body ?done ?stop
  case assign =>
    intro l x W K hK
    gi_wp2
    exact hK
  case body =>
    rintro l pre ⟨x, hx0, hx1⟩ W ⟨h0, hbx, hB, hq⟩ hlt
    have M0 : Mid w W (w.heap.size + 1) (w.heap.size + 4) (gathAll n fl ifs pre) W := ⟨hbx, hB, ⟨Nat.le_refl _, fun _ _ h _ => h⟩, fun _ _ _ _ h => h, Below.refl _ _, hq⟩
    obtain ⟨z0, z1, z2, z3⟩ := cells4 h0
    have hg1 := gathAll_le (n := n) (fl := fl) hL pre
    have hg2 : pre.length * (M + 1) + (M + 1) ≤ 10000000000000 := by rw [← Nat.succ_mul]; exact Nat.le_trans (Nat.mul_le_mul_right _ hlt) hM
    have hLx := hL x
    obtain ⟨ad, A5, c5, rfl, hl5, hc5, hi5⟩ := (hI.below hB) x hx0 hx1
    dsimp only
    by_cases hxi : isI fl x = true
    · gi_wp2_with (first | (refine ⟨trivial, ?_⟩; gi_at_call 80; refine (CallsIn.inRound l (callsIn_wide.2 (iface_any w.heap.size _ _ _ _ _ _ _ _ _ _ _ _ _ x fl (hF.below M0.bel) M0.bel.size hx0 hx1))).mono ?_; rintro e w1' ⟨rfl, hw1'⟩; have M1 := M0.alloc (.cells #[.slice (some ad) n c, .slice A2 n2 c2, .slice A3 n3 c3, .slice A4 n4 c4] 27); have hw1 := blk_alloc h0 (.cells #[.slice (some ad) n c, .slice A2 n2 c2, .slice A3 n3 c3, .slice A4 n4 c4] 27); rw [← hw1'] at M1 hw1; clear hw1'; have hsz1 := M1.sz; obtain ⟨v1, hv1, hr1⟩ := M1.box; have hvc := hv1.cell) | (gi_at_builtin; refine wpListIn_append_own _ rfl _ _ 51 rfl (w.heap.size + 4) 3 i0 (.int .i64 0) 1 8 Try.underlying51 hif hz0 hz1 hz2 rfl (by decide) _ _ _ rfl (hr1.alloc _) ⟨w1'.heap.size, 0, none⟩ 1 1 [.int .i64 x] rfl rfl (cell_one_new _ _ _) (by simp [Value.oneCell']) (by first | omega | (unfold maxLen; omega) | (simp; omega) | (unfold maxLen; simp; omega)) (by first | omega | (unfold maxLen; omega) | (simp; omega) | (unfold maxLen; simp; omega)) (by simp; omega) ?_; intro v' w2 hown' hgrow _; obtain ⟨g', cap', rfl⟩ := ownsRow_succ hown'; obtain ⟨hv2, hk2, M2⟩ := M1.appended (by omega) (by omega) hv1 hr1 (acc' := gathAll n fl ifs pre ++ [x]) (by rw [List.map_append]; exact hown') (by simp [Nat.add_assoc]) hgrow; have hc2 := hv2.cell; have hf2 := hv2.frozen; have hw2 := hk2 _ _ (by omega) (by omega) hw1; have hw3 := M2.kept _ _ (by omega) (by omega) h0; obtain ⟨e0, e1, e2, e3⟩ := cells4 hw2; obtain ⟨f0, f1, f2, f3⟩ := cells4 hw3; have hc6 := (M2.bw.cell (p := ⟨(ad.add (x.toNat * 7)).block, (ad.add (x.toNat * 7)).off + 3, none⟩) hl5).trans hc5))
      gi_loopw [27] (fun v wr => ∃ j : Nat, v = .int .i64 j ∧ j ≤ (ifs x).length ∧ Mid w W (w.heap.size + 1) (w.heap.size + 4) ((gathAll n fl ifs pre ++ [x]) ++ ((ifs x).take j).filter (selI n fl)) wr) (fun v _ => (ifs x).length - (intOf v).toNat)
      case atStart => exact ⟨0, rfl, Nat.zero_le _, by simpa using M2⟩
      case round =>
        obtain ⟨j, rfl, hj, M3⟩ := hrel
        have hw3 := M3.kept _ _ (by omega) (by omega) h0
        obtain ⟨d0, d1, d2, d3⟩ := cells4 hw3
        by_cases hjl : j < (ifs x).length
        · have hi : (j : Int) < ((ifs x).length : Int) := by omega
          obtain ⟨ad6, A6, n6, c6, rfl, hl6, hc6, hd6⟩ := (hi5.below M3.bw) (j : Int) (by omega) hi
          simp only [Int.toNat_natCast] at hl6 hc6 hd6
          have htk : (ifs x).take (j + 1) = (ifs x).take j ++ [(ifs x).getD j 0] := by rw [List.take_add_one, List.getD_eq_getElem?_getD, List.getElem?_eq_getElem hjl]; rfl
          generalize hy : (ifs x).getD j 0 = y at hc6 htk
          have hflt : ((ifs x).take j).filter (selI n fl) ++ (if selI n fl y = true then [y] else []) = ((ifs x).take (j + 1)).filter (selI n fl) := by rw [htk, List.filter_append]; congr 1; by_cases hq : selI n fl y = true <;> simp [hq]
          have hle := List.length_filter_le (selI n fl) ((ifs x).take j)
          have hle2 := List.length_take_le j (ifs x)
          have M4 := M3.alloc (.cells #[.int .i64 y, .slice A6 n6 c6] 109)
          have hp4 := blk_new wr (.cells #[.int .i64 y, .slice A6 n6 c6] 109)
          have hw4 := blk_alloc hw3 (.cells #[.int .i64 y, .slice A6 n6 c6] 109)
          obtain ⟨k0, k1, k2, k3⟩ := cells4 hw4
          by_cases hyr : 0 ≤ y ∧ y < n
          · have hyd : decide (0 ≤ y ∧ y < n) = true := decide_eq_true hyr
            by_cases hyi : isI fl y = true
            · have hs : selI n fl y = true := by simp [selI, hyd, hyi]
              rw [if_pos hs] at hflt
              gi_wp2_with (first | (refine ⟨trivial, ?_⟩; gi_at_call 77; refine (CallsIn.inRound l (callsIn_wide.2 (there_any _ _ _ _ _ _ _ _))).mono ?_; rintro e w' ⟨rfl, hw'⟩; have M5 := M4.alloc (.cells #[.slice (some ad) n c, .slice A2 n2 c2, .slice A3 n3 c3, .slice A4 n4 c4] 27); have hp5 := blk_alloc hp4 (.cells #[.slice (some ad) n c, .slice A2 n2 c2, .slice A3 n3 c3, .slice A4 n4 c4] 27); have hw5 := blk_alloc hw4 (.cells #[.slice (some ad) n c, .slice A2 n2 c2, .slice A3 n3 c3, .slice A4 n4 c4] 27); rw [← hw'] at M5 hp5 hw5; clear hw'; obtain ⟨q0, q1, q2, q3⟩ := cells4 hw5; obtain ⟨q5, q6⟩ := cells2 hp5) | (refine ⟨trivial, ?_⟩; gi_at_call 80; refine (CallsIn.inRound l (callsIn_wide.2 (iface_any w.heap.size _ _ _ _ _ _ _ _ _ _ _ _ _ y fl (hF.below M5.bel) M5.bel.size hyr.1 hyr.2))).mono ?_; rintro e w'' ⟨rfl, hw''⟩; have M6 := M5.alloc (.cells #[.slice (some ad) n c, .slice A2 n2 c2, .slice A3 n3 c3, .slice A4 n4 c4] 27); have hp6 := blk_alloc hp5 (.cells #[.slice (some ad) n c, .slice A2 n2 c2, .slice A3 n3 c3, .slice A4 n4 c4] 27); have hw6 := blk_alloc hw5 (.cells #[.slice (some ad) n c, .slice A2 n2 c2, .slice A3 n3 c3, .slice A4 n4 c4] 27); rw [← hw''] at M6 hp6 hw6; clear hw''; obtain ⟨s5, s6⟩ := cells2 hp6; have hsz6 := M6.sz; obtain ⟨v6, hv6, hr6⟩ := M6.box; have hvc := hv6.cell) | (gi_at_builtin; refine wpListIn_append_own _ rfl _ _ 51 rfl (w.heap.size + 4) 3 i0 (.int .i64 0) 1 8 Try.underlying51 hif hz0 hz1 hz2 rfl (by decide) _ _ _ rfl (hr6.alloc _) ⟨w''.heap.size, 0, none⟩ 1 1 [.int .i64 y] rfl rfl (cell_one_new _ _ _) (by simp [Value.oneCell']) (by first | omega | (unfold maxLen; omega) | (simp; omega) | (unfold maxLen; simp; omega)) (by first | omega | (unfold maxLen; omega) | (simp; omega) | (unfold maxLen; simp; omega)) (by simp; omega) ?_; intro v' w1 hown' hgrow _; obtain ⟨g', cap', rfl⟩ := ownsRow_succ hown'; obtain ⟨hv7, hk7, M7⟩ := M6.appended (by omega) (by omega) hv6 hr6 (acc' := _ ++ [y]) (by rw [List.map_append]; exact hown') (by simp [Nat.add_assoc]) hgrow; have hc7 := hv7.cell; have hf7 := hv7.frozen))
              refine ⟨⟨j + 1, rfl, by omega, ?_⟩, by simp [intOf]; omega⟩
              rw [List.append_assoc, hflt] at M7
              exact M7.len (by first | (simp only [List.length_append, List.length_cons, List.length_nil]; done) | (simp only [List.length_append, List.length_cons, List.length_nil]; omega))
            · have hyi' : isI fl y = false := by simpa using hyi
              have hs : selI n fl y = false := by simp [selI, hyi']
              rw [if_neg (by simp [hs]), List.append_nil] at hflt
              gi_wp2_with (first | (refine ⟨trivial, ?_⟩; gi_at_call 77; refine (CallsIn.inRound l (callsIn_wide.2 (there_any _ _ _ _ _ _ _ _))).mono ?_; rintro e w' ⟨rfl, hw'⟩; have M5 := M4.alloc (.cells #[.slice (some ad) n c, .slice A2 n2 c2, .slice A3 n3 c3, .slice A4 n4 c4] 27); have hp5 := blk_alloc hp4 (.cells #[.slice (some ad) n c, .slice A2 n2 c2, .slice A3 n3 c3, .slice A4 n4 c4] 27); have hw5 := blk_alloc hw4 (.cells #[.slice (some ad) n c, .slice A2 n2 c2, .slice A3 n3 c3, .slice A4 n4 c4] 27); rw [← hw'] at M5 hp5 hw5; clear hw'; obtain ⟨q0, q1, q2, q3⟩ := cells4 hw5; obtain ⟨q5, q6⟩ := cells2 hp5) | (refine ⟨trivial, ?_⟩; gi_at_call 80; refine (CallsIn.inRound l (callsIn_wide.2 (iface_any w.heap.size _ _ _ _ _ _ _ _ _ _ _ _ _ y fl (hF.below M5.bel) M5.bel.size hyr.1 hyr.2))).mono ?_; rintro e w'' ⟨rfl, hw''⟩; have M6 := M5.alloc (.cells #[.slice (some ad) n c, .slice A2 n2 c2, .slice A3 n3 c3, .slice A4 n4 c4] 27); rw [← hw''] at M6; clear hw''))
              refine ⟨⟨j + 1, rfl, by omega, ?_⟩, by simp [intOf]; omega⟩
              rw [hflt] at M6
              exact M6
          · have hyd : decide (0 ≤ y ∧ y < n) = false := decide_eq_false hyr
            have hs : selI n fl y = false := by simp [selI, hyd]
            rw [if_neg (by simp [hs]), List.append_nil] at hflt
            gi_wp2_with (first | (refine ⟨trivial, ?_⟩; gi_at_call 77; refine (CallsIn.inRound l (callsIn_wide.2 (there_any _ _ _ _ _ _ _ _))).mono ?_; rintro e w' ⟨rfl, hw'⟩; have M5 := M4.alloc (.cells #[.slice (some ad) n c, .slice A2 n2 c2, .slice A3 n3 c3, .slice A4 n4 c4] 27); rw [← hw'] at M5; clear hw') | (refine ⟨trivial, ?_⟩))
            refine ⟨⟨j + 1, rfl, by omega, ?_⟩, by simp [intOf]; omega⟩
            rw [hflt] at M5
            exact M5
        · have hi : ¬ (j : Int) < ((ifs x).length : Int) := by omega
          obtain rfl : j = (ifs x).length := by omega
          rw [List.take_length] at M3
          gi_wp2
          have hE : (gathAll n fl ifs pre ++ [x]) ++ (ifs x).filter (selI n fl) = gathAll n fl ifs (pre ++ [⟨x, hx0, hx1⟩]) := by rw [gathAll_snoc]; simp [gath, hxi]
          rw [hE] at M3
          exact ⟨M3.ko, ⟨M3.bw, fun o h => M3.kept _ _ (by omega) (by omega) h, fun o h => M3.kept _ _ (by omega) (by omega) h⟩, hw3, M3.box, M3.bel, M3.sz⟩
    · have hxi' : isI fl x = false := by simpa using hxi
      gi_wp2_with (first | (refine ⟨trivial, ?_⟩; gi_at_call 80; refine (CallsIn.inRound l (callsIn_wide.2 (iface_any w.heap.size _ _ _ _ _ _ _ _ _ _ _ _ _ x fl (hF.below M0.bel) M0.bel.size hx0 hx1))).mono ?_; rintro e w1' ⟨rfl, hw1'⟩; have M1 := M0.alloc (.cells #[.slice (some ad) n c, .slice A2 n2 c2, .slice A3 n3 c3, .slice A4 n4 c4] 27); have hw1 := blk_alloc h0 (.cells #[.slice (some ad) n c, .slice A2 n2 c2, .slice A3 n3 c3, .slice A4 n4 c4] 27); rw [← hw1'] at M1 hw1; clear hw1'; obtain ⟨f0, f1, f2, f3⟩ := cells4 hw1; have hc6 := (M1.bw.cell (p := ⟨(ad.add (x.toNat * 7)).block, (ad.add (x.toNat * 7)).off + 3, none⟩) hl5).trans hc5))
      gi_loopw [27] (fun v wr => ∃ j : Nat, v = .int .i64 j ∧ j ≤ (ifs x).length ∧ Mid w W (w.heap.size + 1) (w.heap.size + 4) (gathAll n fl ifs pre ++ ((ifs x).take j).filter (selI n fl)) wr) (fun v _ => (ifs x).length - (intOf v).toNat)
      case atStart => exact ⟨0, rfl, Nat.zero_le _, by simpa using M1⟩
      case round =>
        obtain ⟨j, rfl, hj, M3⟩ := hrel
        have hw3 := M3.kept _ _ (by omega) (by omega) h0
        obtain ⟨d0, d1, d2, d3⟩ := cells4 hw3
        by_cases hjl : j < (ifs x).length
        · have hi : (j : Int) < ((ifs x).length : Int) := by omega
          obtain ⟨ad6, A6, n6, c6, rfl, hl6, hc6, hd6⟩ := (hi5.below M3.bw) (j : Int) (by omega) hi
          simp only [Int.toNat_natCast] at hl6 hc6 hd6
          have htk : (ifs x).take (j + 1) = (ifs x).take j ++ [(ifs x).getD j 0] := by rw [List.take_add_one, List.getD_eq_getElem?_getD, List.getElem?_eq_getElem hjl]; rfl
          generalize hy : (ifs x).getD j 0 = y at hc6 htk
          have hflt : ((ifs x).take j).filter (selI n fl) ++ (if selI n fl y = true then [y] else []) = ((ifs x).take (j + 1)).filter (selI n fl) := by rw [htk, List.filter_append]; congr 1; by_cases hq : selI n fl y = true <;> simp [hq]
          have hle := List.length_filter_le (selI n fl) ((ifs x).take j)
          have hle2 := List.length_take_le j (ifs x)
          have M4 := M3.alloc (.cells #[.int .i64 y, .slice A6 n6 c6] 109)
          have hp4 := blk_new wr (.cells #[.int .i64 y, .slice A6 n6 c6] 109)
          have hw4 := blk_alloc hw3 (.cells #[.int .i64 y, .slice A6 n6 c6] 109)
          obtain ⟨k0, k1, k2, k3⟩ := cells4 hw4
          by_cases hyr : 0 ≤ y ∧ y < n
          · have hyd : decide (0 ≤ y ∧ y < n) = true := decide_eq_true hyr
            by_cases hyi : isI fl y = true
            · have hs : selI n fl y = true := by simp [selI, hyd, hyi]
              rw [if_pos hs] at hflt
              gi_wp2_with (first | (refine ⟨trivial, ?_⟩; gi_at_call 77; refine (CallsIn.inRound l (callsIn_wide.2 (there_any _ _ _ _ _ _ _ _))).mono ?_; rintro e w' ⟨rfl, hw'⟩; have M5 := M4.alloc (.cells #[.slice (some ad) n c, .slice A2 n2 c2, .slice A3 n3 c3, .slice A4 n4 c4] 27); have hp5 := blk_alloc hp4 (.cells #[.slice (some ad) n c, .slice A2 n2 c2, .slice A3 n3 c3, .slice A4 n4 c4] 27); have hw5 := blk_alloc hw4 (.cells #[.slice (some ad) n c, .slice A2 n2 c2, .slice A3 n3 c3, .slice A4 n4 c4] 27); rw [← hw'] at M5 hp5 hw5; clear hw'; obtain ⟨q0, q1, q2, q3⟩ := cells4 hw5; obtain ⟨q5, q6⟩ := cells2 hp5) | (refine ⟨trivial, ?_⟩; gi_at_call 80; refine (CallsIn.inRound l (callsIn_wide.2 (iface_any w.heap.size _ _ _ _ _ _ _ _ _ _ _ _ _ y fl (hF.below M5.bel) M5.bel.size hyr.1 hyr.2))).mono ?_; rintro e w'' ⟨rfl, hw''⟩; have M6 := M5.alloc (.cells #[.slice (some ad) n c, .slice A2 n2 c2, .slice A3 n3 c3, .slice A4 n4 c4] 27); have hp6 := blk_alloc hp5 (.cells #[.slice (some ad) n c, .slice A2 n2 c2, .slice A3 n3 c3, .slice A4 n4 c4] 27); have hw6 := blk_alloc hw5 (.cells #[.slice (some ad) n c, .slice A2 n2 c2, .slice A3 n3 c3, .slice A4 n4 c4] 27); rw [← hw''] at M6 hp6 hw6; clear hw''; obtain ⟨s5, s6⟩ := cells2 hp6; have hsz6 := M6.sz; obtain ⟨v6, hv6, hr6⟩ := M6.box; have hvc := hv6.cell) | (gi_at_builtin; refine wpListIn_append_own _ rfl _ _ 51 rfl (w.heap.size + 4) 3 i0 (.int .i64 0) 1 8 Try.underlying51 hif hz0 hz1 hz2 rfl (by decide) _ _ _ rfl (hr6.alloc _) ⟨w''.heap.size, 0, none⟩ 1 1 [.int .i64 y] rfl rfl (cell_one_new _ _ _) (by simp [Value.oneCell']) (by first | omega | (unfold maxLen; omega) | (simp; omega) | (unfold maxLen; simp; omega)) (by first | omega | (unfold maxLen; omega) | (simp; omega) | (unfold maxLen; simp; omega)) (by simp; omega) ?_; intro v' w1 hown' hgrow _; obtain ⟨g', cap', rfl⟩ := ownsRow_succ hown'; obtain ⟨hv7, hk7, M7⟩ := M6.appended (by omega) (by omega) hv6 hr6 (acc' := _ ++ [y]) (by rw [List.map_append]; exact hown') (by simp [Nat.add_assoc]) hgrow; have hc7 := hv7.cell; have hf7 := hv7.frozen))
              refine ⟨⟨j + 1, rfl, by omega, ?_⟩, by simp [intOf]; omega⟩
              rw [List.append_assoc, hflt] at M7
              exact M7.len (by first | (simp only [List.length_append, List.length_cons, List.length_nil]; done) | (simp only [List.length_append, List.length_cons, List.length_nil]; omega))
            · have hyi' : isI fl y = false := by simpa using hyi
              have hs : selI n fl y = false := by simp [selI, hyi']
              rw [if_neg (by simp [hs]), List.append_nil] at hflt
              gi_wp2_with (first | (refine ⟨trivial, ?_⟩; gi_at_call 77; refine (CallsIn.inRound l (callsIn_wide.2 (there_any _ _ _ _ _ _ _ _))).mono ?_; rintro e w' ⟨rfl, hw'⟩; have M5 := M4.alloc (.cells #[.slice (some ad) n c, .slice A2 n2 c2, .slice A3 n3 c3, .slice A4 n4 c4] 27); have hp5 := blk_alloc hp4 (.cells #[.slice (some ad) n c, .slice A2 n2 c2, .slice A3 n3 c3, .slice A4 n4 c4] 27); have hw5 := blk_alloc hw4 (.cells #[.slice (some ad) n c, .slice A2 n2 c2, .slice A3 n3 c3, .slice A4 n4 c4] 27); rw [← hw'] at M5 hp5 hw5; clear hw'; obtain ⟨q0, q1, q2, q3⟩ := cells4 hw5; obtain ⟨q5, q6⟩ := cells2 hp5) | (refine ⟨trivial, ?_⟩; gi_at_call 80; refine (CallsIn.inRound l (callsIn_wide.2 (iface_any w.heap.size _ _ _ _ _ _ _ _ _ _ _ _ _ y fl (hF.below M5.bel) M5.bel.size hyr.1 hyr.2))).mono ?_; rintro e w'' ⟨rfl, hw''⟩; have M6 := M5.alloc (.cells #[.slice (some ad) n c, .slice A2 n2 c2, .slice A3 n3 c3, .slice A4 n4 c4] 27); rw [← hw''] at M6; clear hw''))
              refine ⟨⟨j + 1, rfl, by omega, ?_⟩, by simp [intOf]; omega⟩
              rw [hflt] at M6
              exact M6
          · have hyd : decide (0 ≤ y ∧ y < n) = false := decide_eq_false hyr
            have hs : selI n fl y = false := by simp [selI, hyd]
            rw [if_neg (by simp [hs]), List.append_nil] at hflt
            gi_wp2_with (first | (refine ⟨trivial, ?_⟩; gi_at_call 77; refine (CallsIn.inRound l (callsIn_wide.2 (there_any _ _ _ _ _ _ _ _))).mono ?_; rintro e w' ⟨rfl, hw'⟩; have M5 := M4.alloc (.cells #[.slice (some ad) n c, .slice A2 n2 c2, .slice A3 n3 c3, .slice A4 n4 c4] 27); rw [← hw'] at M5; clear hw') | (refine ⟨trivial, ?_⟩))
            refine ⟨⟨j + 1, rfl, by omega, ?_⟩, by simp [intOf]; omega⟩
            rw [hflt] at M5
            exact M5
        · have hi : ¬ (j : Int) < ((ifs x).length : Int) := by omega
          obtain rfl : j = (ifs x).length := by omega
          rw [List.take_length] at M3
          gi_wp2
          have hE : gathAll n fl ifs pre ++ (ifs x).filter (selI n fl) = gathAll n fl ifs (pre ++ [⟨x, hx0, hx1⟩]) := by rw [gathAll_snoc]; simp [gath, hxi']
          rw [hE] at M3
          exact ⟨M3.ko, ⟨M3.bw, fun o h => M3.kept _ _ (by omega) (by omega) h, fun o h => M3.kept _ _ (by omega) (by omega) h⟩, hw3, M3.box, M3.bel, M3.sz⟩
  case done =>
    rintro D ys W hD rfl ⟨h0, ⟨v, hv, hrow⟩, hB, hq⟩ hK
    have hg1 := gathAll_le (n := n) (fl := fl) hL (ups n sup (n + 1) a)
    have hg2 := ups_len2 n sup (n + 1) a
    have hg3 : (ups n sup (n + 1) a).length * (M + 1) ≤ 10000000000000 := Nat.le_trans (Nat.mul_le_mul_right _ (by omega)) hM
    have hR : ifcP n sup ifs fl a = Lib.compact ((gathAll n fl ifs (ups n sup (n + 1) a)).mergeSort fun x y => decide (x ≤ y)) := rfl
    generalize gathAll n fl ifs (ups n sup (n + 1) a) = ss at *
    have hc := hv.cell
    have hrow0 := own_weaken hrow (show w.heap.size ≤ w.heap.size + 4 by omega)
    cases ss with
    | nil =>
      obtain ⟨A9, c9, rfl⟩ := own_slice hrow
      gi_wp2_with (first | (refine ⟨trivial, ?_⟩; gi_at_call 81; refine (callsIn_wide.2 (Try.slices_Sort_int_none _ _ _)).mono ?_; rintro e w' ⟨rfl, hw'⟩; rw [hw']; clear hw') | (refine ⟨trivial, ?_⟩; gi_at_call 82; refine (callsIn_wide.2 (Try.slices_Compact_int_empty _ _ _)).mono ?_; rintro e w' ⟨rfl, hw'⟩; rw [hw']; clear hw'))
      refine ⟨by simp, .inl ⟨_, _, rfl, run_takeDeferred hK, ?_⟩⟩
      exact ⟨_, results_tmp rfl _ _ _, _, rfl, by rw [hR, show Lib.compact (([] : List Int).mergeSort fun x y => decide (x ≤ y)) = [] from by first | rfl | (simp; rfl) | decide]; exact ownsRow_putObj hrow0 _ hK rfl, hB.trans (belowK_b (w := w) (by omega) W D _ _ (by omega) hK rfl rfl)⟩
    | cons s0 st =>
      generalize hss : s0 :: st = ss at *
      obtain ⟨g, cap, rfl⟩ : ∃ g cap, v = .slice (some ⟨g, 0, none⟩) ss.length cap := by subst hss; exact ownsRow_succ hrow
      obtain ⟨hH, hgl, hgb⟩ := own_holds hrow0
      have hlm : (ss.mergeSort fun x y => decide (x ≤ y)).length = ss.length := List.length_mergeSort ss
      have hR2 := hR
      have hms0 : ∃ ms, ms = ss.mergeSort fun x y => decide (x ≤ y) := ⟨_, rfl⟩
      obtain ⟨ms, hms⟩ := hms0
      have hsrt := Try.slices_Sort_int g 0 cap ss W hH hgl (by omega)
      rw [← hms] at hsrt hlm hR2
      clear hms
      have hDg : g ≠ D := fun e => by obtain ⟨cs, hcs⟩ := own_typed hrow g rfl; rw [e, hK] at hcs; cases hcs
      have hvg := hv.not_row (by decide) hrow
      gi_wp2_with (first | (refine ⟨trivial, ?_⟩; gi_at_call 81; refine (callsIn_wide.2 hsrt).mono ?_; rintro e w2 ⟨rfl, nn, os, hw2⟩; have r2 := sort_own (nn := nn) (os := os) hrow0 hlm; have gr2 := Go.grownBy_sortedI (w := W) (g := g) (n := nn) (os := os) ms.toArray; rw [← hw2] at r2 gr2; clear hw2; have hv2 := hv.kept gr2 hvg; have hK2 : w2.heap[D]? = _ := (gr2.block D (Array.getElem?_eq_some_iff.1 hK).1 (fun e => hDg (Option.some.inj e).symm)).trans hK; have hB2 := hB.grown gr2 hB.size (fun k e => by cases e; exact hgb); have hc2 := hv2.cell; obtain ⟨hH2, hgl2, _⟩ := own_holds r2; have hcm := Try.slices_Compact_int g 0 cap ms w2 hH2 (by omega) (own_le r2); rw [hlm] at hcm) | (refine ⟨trivial, ?_⟩; gi_at_call 82; refine (callsIn_wide.2 hcm).mono ?_; rintro e w3 ⟨rfl, q, hw3⟩; have hcl := compact_len ms; have r3 := sort_own (nn := q) (os := #[]) (ts := Lib.compact ms ++ List.replicate (ss.length - (Lib.compact ms).length) 0) r2 (by simp; omega); have gr3 := Go.grownBy_sortedI (w := w2) (g := g) (n := q) (os := #[]) (Lib.compact ms ++ List.replicate (ss.length - (Lib.compact ms).length) 0).toArray; rw [grow_none, ← hw3] at r3 gr3; clear hw3))
      have hK3 : w3.heap[D]? = _ := (gr3.block D (Array.getElem?_eq_some_iff.1 hK2).1 (fun e => hDg (Option.some.inj e).symm)).trans hK2
      have hB3 := hB2.grown gr3 hB2.size (fun k e => by cases e; exact hgb)
      have r4 := own_take r3 (m := (Lib.compact ms).length) (by simp)
      rw [Nat.mul_one, List.map_append, List.take_append_of_le_length (by simp), List.take_of_length_le (by simp)] at r4
      refine ⟨by simp, .inl ⟨_, _, rfl, run_takeDeferred hK3, ?_⟩⟩
      exact ⟨_, results_tmp rfl _ _ _, _, rfl, by rw [hR2]; exact ownsRow_putObj r4 _ hK3 rfl, hB3.trans (belowK_b (w := w) (by omega) w3 D _ _ (by omega) hK3 rfl rfl)⟩
  case stop =>
    rintro D pre W _ _ h _
    exact h.elim
end
end Go.Proofs.Ytjknnifcbcdjiaa.Ups
