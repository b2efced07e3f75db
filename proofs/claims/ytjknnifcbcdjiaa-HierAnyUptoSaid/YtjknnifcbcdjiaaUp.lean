/- hier.Up: a class and all above it, as a row. -/
import Derived.Test.YtjknnifcbcdjiaaCommon
import Derived.RangeFuncBox
import Derived.Maps.AppendAt
set_option linter.unusedVariables false
set_option linter.unusedSimpArgs false
namespace Go.Proofs.Ytjknnifcbcdjiaa.Ups
open Go.RowKit Go.Shelf Go.Proofs.Ytjknnifcbcdjiaa.RangeC Go.Proofs.YtjknnifcbcdjiaaW.PrintWords
attribute [local go_sem] Oper.semAt_some
theorem info3 : (Try.prog.info? 3).map (fun i => (i.zero, i.size, i.bytes)) = some (some (.int .i64 0), 1, 8) := by kernel_rfl
theorem row_kept {W W' : World} {base : Nat} {e : TypeId} {size : Nat} {v : Value} {k : Nat} {xs : List Value} {row : Option Nat} (h : W.ownsRow base e size v k xs) (hg : W.grownBy W' row)
    (hne : ∀ r, row = some r → r < base ∨ ∃ o : Obj, W.heap[r]? = some o ∧ o.isCells = false) : W'.ownsRow base e size v k xs := by
  refine h.kept hg ?_
  rcases h.2 with ⟨rfl, _⟩ | ⟨g, cap, cur, rfl, hb, hgb, _⟩
  · exact .inl rfl
  · refine .inr (fun e' => ?_)
    rcases hne g (by rw [← e']; simp [Value.ownBlock]) with h1 | ⟨o, ho, hc⟩
    · omega
    · rw [hgb] at ho; cases ho; cases hc
set_option maxRecDepth 100000 in
theorem appendseq_any (n₀ : Nat) (w : World) (A : Option Addr) (n c : Nat) (v2 v3 v4 : Value) (sup : Int → Int) (a : Int) (Bw Ba : Nat) (hne : Bw ≠ Ba) (hn : n ≤ 10000000000000)
    (hw : w.heap[Bw]? = some (.cells #[.slice A n c, v2, v3, v4] 27 (0, 0))) (ha : w.heap[Ba]? = some (.cells #[.int .i64 a] 3 (0, 0))) (hn₀ : n₀ ≤ Ba) (hS : Sup n₀ w A n sup) :
    Calls Try.prog 94 #[.slice none 0 0, .func (.func 95) #[] #[.pointer (some ⟨Bw, 0, none⟩), .pointer (some ⟨Ba, 0, none⟩)]] w fun e w' =>
      ∃ v, e = .returned v ∧ w'.ownsRow w.heap.size 3 1 v (ups n sup (n + 1) a).length ((ups n sup (n + 1) a).map fun x => .int .i64 x.1) ∧ Below n₀ w w' := by
  have hwl := (Array.getElem?_eq_some_iff.1 hw).1
  have hal := (Array.getElem?_eq_some_iff.1 ha).1
  obtain ⟨i0, hi, hz0, hz1, hz2⟩ := info_parts info3
  refine (callsIn_wide (n := 3)).1 ?_
  refine callsIn_of_wp_marks Try.func94 rfl trivial ?_ rfl
  simp only [Try.ntmps94, List.size_toArray, List.length_cons, List.length_nil, Nat.reduceAdd, Nat.reduceSub, Array.replicate_succ, Array.replicate_zero, List.push_toArray, List.append_toArray, List.nil_append, List.cons_append]
  gi_wp2
  have bO := Boxed.new w 51 (.slice none 0 0)
  have hw2 := blk_alloc hw (.cells #[.slice none 0 0] 51)
  have ha2 := blk_alloc ha (.cells #[.slice none 0 0] 51)
  have hB0 : Below n₀ w (w.alloc (.cells #[.slice none 0 0] 51)) := (Below.refl _ _).alloc (by omega) _
  have hz : (w.alloc (.cells #[.slice none 0 0] 51)).heap.size = w.heap.size + 1 := by simp
  generalize w.alloc (.cells #[.slice none 0 0] 51) = WR at bO hw2 ha2 hB0 hz ⊢
  refine range_c (n := 3) rfl (by decide) (gf := 95) (lb := #[.pointer (some ⟨Bw, 0, none⟩), .pointer (some ⟨Ba, 0, none⟩)]) (c := Ba) rfl trivial (enters_of Try.func95 (by kernel_rfl) rfl) (by omega)
    (ups1_seq n₀ 2 A n c v2 v3 v4 sup a Bw Ba hne WR (by decide) (by omega) hw2 ha2 hn₀ (hS.below hB0)) kp_t (kp_b (by omega) (by omega) (by omega)) (Below.refl _ _) (fun _ => rfl)
    (fun pre W => (∃ v, Boxed W w.heap.size 51 v ∧ W.ownsRow w.heap.size 3 1 v pre.length (pre.map fun x => .int .i64 x.1)) ∧ Below n₀ w W)
    (fun _ _ => False)
    (fun s X Y row hs hg hr => by
      obtain ⟨⟨v, hv, hrow⟩, hB⟩ := hs
      exact ⟨⟨v, keepO hg hr hv rfl, row_kept hrow hg (fun r e => .inr (hr r e).2)⟩, hB.grown hg (Nat.le_trans (by omega) hB.size) (fun k e => by have := (hr k e).1; omega)⟩)
    (fun _ _ _ _ hs _ _ => hs.elim)
    (fun s X Y row hs hg hr => by
      obtain ⟨⟨v, hv, hrow⟩, hB⟩ := hs
      exact ⟨⟨v, keepC hg hr hv (by omega), row_kept hrow hg (fun r e => .inl (by have := hr r e; omega))⟩, hB.grown hg (Nat.le_trans (by omega) hB.size) (fun k e => by have := hr k e; omega)⟩)
    (fun _ _ _ _ hs _ _ => hs.elim)
    ⟨⟨_, bO, World.ownsRow_nil _ _ _ _⟩, hB0⟩
    (fun x => { tmps := #[.slice none 0 0, .func (.func 95) #[] #[.pointer (some ⟨Bw, 0, none⟩), .pointer (some ⟨Ba, 0, none⟩)], .pointer (some ⟨w.heap.size, 0, none⟩), undef, .slice none 0 0, .int .i64 x.1, .func (.func 95) #[] #[.pointer (some ⟨Bw, 0, none⟩), .pointer (some ⟨Ba, 0, none⟩)], .int .i64 x.1, undef, undef, undef, undef, undef], defers := [] }) ?assign ?body ?done ?stop
  case assign =>
    intro l x W K hK
    gi_wp2
    exact hK
  case body =>
    rintro l pre ⟨x, hx⟩ W ⟨⟨v, hv, hrow⟩, hB⟩ hlt
    have hc := hv.cell
    have hle := hB.size
    dsimp only
    gi_wp2_with (gi_at_builtin; refine wpListIn_append_own _ rfl _ _ 51 rfl w.heap.size 3 i0 (.int .i64 0) 1 8 Try.underlying51 hi hz0 hz1 hz2 rfl (by decide) _ _ _ rfl (hrow.alloc _) ⟨W.heap.size, 0, none⟩ 1 1 [.int .i64 x] rfl rfl (cell_one_new _ _ _) (by simp [Value.oneCell']) (by first | omega | (unfold maxLen; omega)) (by first | omega | (unfold maxLen; omega)) (by simp; omega) ?_; intro v' w1 hown' hgrow _; obtain ⟨g', cap', rfl⟩ := ownsRow_succ hown'; obtain ⟨hv1, hv2, hr2, hk2, hb2⟩ := hv.appended (by decide) hrow hle (Nat.le_refl _) hown' hgrow; have hc1 := hv1.cell; have hf1 := hv1.frozen)
    exact ⟨hk2, ⟨hb2.mono (by omega), fun o h => (hb2.block _ (by omega)).trans h, fun o h => (hb2.block _ (by omega)).trans h⟩, ⟨_, hv2, by simpa using hr2⟩, hB.trans (hb2.mono (by omega))⟩
  case done =>
    rintro D ys W hD rfl ⟨⟨v, hv, hrow⟩, hB⟩ hK
    have hc := hv.cell
    gi_wp2
    refine ⟨by simp, .inl ⟨_, _, rfl, run_takeDeferred hK, ?_⟩⟩
    exact ⟨_, results_tmp rfl _ _ _, v, rfl, ownsRow_putObj hrow _ hK rfl, hB.trans (belowK_b (w := w) (by omega) W D _ _ (by omega) hK rfl rfl)⟩
  case stop =>
    rintro D pre W _ _ h _
    exact h.elim
theorem collect_any (n₀ : Nat) (w : World) (A : Option Addr) (n c : Nat) (v2 v3 v4 : Value) (sup : Int → Int) (a : Int) (Bw Ba : Nat) (hne : Bw ≠ Ba) (hn : n ≤ 10000000000000)
    (hw : w.heap[Bw]? = some (.cells #[.slice A n c, v2, v3, v4] 27 (0, 0))) (ha : w.heap[Ba]? = some (.cells #[.int .i64 a] 3 (0, 0))) (hn₀ : n₀ ≤ Ba) (hS : Sup n₀ w A n sup) :
    Calls Try.prog 75 #[.func (.func 95) #[] #[.pointer (some ⟨Bw, 0, none⟩), .pointer (some ⟨Ba, 0, none⟩)]] w fun e w' =>
      ∃ v, e = .returned v ∧ w'.ownsRow w.heap.size 3 1 v (ups n sup (n + 1) a).length ((ups n sup (n + 1) a).map fun x => .int .i64 x.1) ∧ Below n₀ w w' := by
  go_enter Try.func75, Try.ntmps75
  go_wp2_with (go_at_call 94; refine (appendseq_any n₀ _ A n c v2 v3 v4 sup a Bw Ba hne hn hw ha hn₀ hS).mono ?_; rintro e w' ⟨v, rfl, hr, hB⟩)
  go_ret
  exact ⟨v, rfl, hr, hB⟩
/-- A class and all above it, as a row of one's own. -/
theorem up_any (w : World) (A : Option Addr) (n c : Nat) (A2 : Option Addr) (n2 c2 : Nat) (A3 : Option Addr) (n3 c3 : Nat) (A4 : Option Addr) (n4 c4 : Nat) (sup : Int → Int) (a : Int) (hn : n ≤ 10000000000000) (hS : Sup w.heap.size w A n sup) :
    Calls Try.prog 40 #[.agg #[.slice A n c, .slice A2 n2 c2, .slice A3 n3 c3, .slice A4 n4 c4], .int .i64 a] w fun e w' =>
      ∃ v B, e = .returned v ∧ w.heap.size ≤ B ∧ w'.ownsRow B 3 1 v (ups n sup (n + 1) a).length ((ups n sup (n + 1) a).map fun x => .int .i64 x.1) ∧ Below w.heap.size w w' := by
  go_enter Try.func40, Try.ntmps40
  go_wp2_with (go_at_call 76; refine (ups_any _ _ _ _ _ _ _ _ _ _ _ _ _ _).mono ?_; rintro e w' ⟨rfl, rfl⟩)
  have H := Pre3.new w (.cells #[.slice A n c, .slice A2 n2 c2, .slice A3 n3 c3, .slice A4 n4 c4] 27) (.cells #[.slice A n c, .slice A2 n2 c2, .slice A3 n3 c3, .slice A4 n4 c4] 27) (.cells #[.int .i64 a] 3)
  refine (collect_any w.heap.size _ A n c _ _ _ sup a (w.heap.size + 1) (w.heap.size + 1 + 1) (by omega) hn H.b1 H.b2 (by omega) (hS.below H.bl)).mono ?_
  rintro e w' ⟨v, rfl, hr, hB⟩
  have HB := H.bl.trans hB
  have HS := H.bl.size
  clear H hB
  go_wp2
  go_ret
  exact ⟨v, _, rfl, HS, hr, HB⟩
end Go.Proofs.Ytjknnifcbcdjiaa.Ups
