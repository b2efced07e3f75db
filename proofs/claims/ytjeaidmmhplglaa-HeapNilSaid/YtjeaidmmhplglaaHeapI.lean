/- The walks of heap: all handles. -/
import Derived.Test.YtjeaidmmhplglaaHeapH
import Derived.Maps.AppendAt
import Derived.Shelf.Abstract
set_option linter.unusedVariables false
set_option linter.unusedSimpArgs false
namespace Go.Proofs.Ytjeaidmmhplglaa.Nvm
open Go.RowKit Go.Proofs.Ytjeaidmmhplglaa.Base Go.Shelf
attribute [local go_sem] Oper.semAt_some
theorem infoI : (Try.prog.info? 3).map (fun i => (i.zero, i.size, i.bytes)) = some (some (.int .i64 0), 1, 8) := by kernel_rfl
def ints (l : List Int) : List Value := l.map (.int .i64)
set_option maxHeartbeats 800000 in
set_option maxRecDepth 100000 in
theorem hall_dark (w : World) (H : Nat) (ha : Hid (∀ w1, Ch (fun _ => False) w w1 → Calls Try.prog 26 #[.pointer (some ⟨H, 0, none⟩)] w1 fun e w' => e = .returned (.int .i64 13) ∧ Ch (fun _ => False) w1 w')) :
    Calls Try.prog 11 #[.pointer (some ⟨H, 0, none⟩)] w fun e w' => e = .returned (.tuple #[.slice none 0 0, .int .i64 13]) ∧ Ch (fun _ => False) w w' := by
  go_enter Try.func11, Try.ntmps11
  go_wp2_with (go_at_call 26; refine (ha.out _ (Ch.refl _ _)).mono ?_; rintro e w' ⟨rfl, c1⟩)
  go_ret2
  exact ⟨rfl, c1⟩
theorem row_kept {W W' : World} {base : Nat} {e : TypeId} {size : Nat} {v : Value} {k : Nat} {xs : List Value} {row : Option Nat} (h : W.ownsRow base e size v k xs) (hg : W.grownBy W' row)
    (hne : ∀ r, row = some r → r < base ∨ ∃ o : Obj, W.heap[r]? = some o ∧ o.isCells = false) : W'.ownsRow base e size v k xs := by
  refine h.kept hg ?_
  rcases h.2 with ⟨rfl, _⟩ | ⟨g, cap, cur, rfl, hb, hgb, _⟩
  · exact .inl rfl
  · refine .inr (fun e' => ?_)
    rcases hne g (by rw [← e']; simp [Value.ownBlock]) with h1 | ⟨o, ho, hc⟩
    · omega
    · rw [hgb] at ho; cases ho; cases hc
theorem box_kept {W W' : World} {B : Nat} {t : TypeId} {v : Value} {row : Option Nat} (h : Boxed W B t v) (hg : W.grownBy W' row) (hne : ∀ r, row = some r → r ≠ B) : Boxed W' B t v := h.kept hg (fun e => hne B e.symm rfl)
theorem ch_grown {W W' : World} (c : Ch (fun _ => False) W W') : W.grownBy W' none := ⟨c.os, c.tape, c.output, c.size, fun k hk _ => c.block k hk (fun h => h)⟩
theorem below_ch {B : Nat} {w W W' : World} (h : Below B W W') (c : Ch (fun _ => False) w W) (hb : w.heap.size ≤ B) : Ch (fun _ => False) w W' := c.trans (T := fun k => B ≤ k) ⟨h.os, h.tape, h.output, h.size, fun k hk hn => h.block k (by omega)⟩ (fun _ h => h) (fun k hk => Or.inr (by omega))
theorem kh_app {B R X n₀ Bl : Nat} {W w1 : World} {v v' : Value} {k : Nat} {xs : List Value} {tmp : Obj} {q : Value} (hv : Boxed W Bl 51 v) (hrow : W.ownsRow n₀ 3 1 v k xs) (hgrow : (W.alloc tmp).grownBy w1 v.ownBlock) (hX : Blk W X #[q] 25) (hB : B ≤ Bl) (hn : B ≤ n₀) :
    Kh B R X W (w1.setCell ⟨Bl, 0, none⟩ v') := by
  have hg2 := grownBy_setCell' w1 Bl v'
  refine ⟨hg2.os.trans hgrow.os, hg2.tape.trans hgrow.tape, hg2.output.trans hgrow.output, Nat.le_trans (Nat.le_trans (by simp) hgrow.size) hg2.size, fun j hj hq => ?_⟩
  have hne : j ≠ Bl := fun e => hq (Or.inr ⟨by omega, fun e2 => by
    have h1 := hX.heap
    rw [← e2, e, show W.heap[Bl]? = _ from hv] at h1
    injection h1 with h1; injection h1 with _ h1; exact absurd h1 (by decide), fun cs fz h1 => by
    rw [e, show W.heap[Bl]? = _ from hv] at h1
    injection h1 with h1; injection h1 with _ h1; exact absurd h1 (by decide)⟩)
  have hnr : some j ≠ v.ownBlock := by
    rcases hrow.2 with ⟨rfl, _⟩ | ⟨g, cap, cur, rfl, hb, hgb, _⟩
    · simp [Value.ownBlock]
    · intro e
      obtain rfl : j = g := by simpa [Value.ownBlock] using e
      exact hq (Or.inr ⟨by omega, fun e2 => by
        have h1 := hX.heap
        rw [← e2, hgb] at h1
        injection h1 with h1; injection h1 with _ h1; exact absurd h1 (by decide), fun cs fz h1 => by
        rw [hgb] at h1
        injection h1 with h1; injection h1 with _ h1; exact absurd h1 (by decide)⟩)
  have h2 : j < (W.alloc tmp).heap.size := by simp; omega
  exact ((hg2.block j (Nat.lt_of_lt_of_le h2 hgrow.size) (fun e => hne (by injection e))).trans (hgrow.block j h2 hnr)).trans (Below.heap_alloc W tmp j hj)
theorem take12 : ∀ k, k < 12 → card12.take (k + 1) = card12.take k ++ [((k : Nat) : Int) + 1] := by decide
/-- What the loops of All hold to. -/
def AI (w1 : World) (F : Nat → Prop) (H T N R L : Nat) (s : St) (l : List Int) (W : World) : Prop :=
  (∃ v, Boxed W w1.heap.size 51 v ∧ W.ownsRow w1.heap.size 3 1 v l.length (ints l)) ∧ Below w1.heap.size w1 W
set_option maxHeartbeats 4000000 in
set_option maxRecDepth 100000 in
theorem hall_live {w : World} {F : Nat → Prop} {H T N R L : Nat} {s : St} {m : List Int} (h : Hx w F H T N R L s m) (hd0 : s.dark = false) :
    Calls Try.prog 11 #[.pointer (some ⟨H, 0, none⟩)] w fun e w' => ∃ v B, e = .returned (.tuple #[v, .int .i64 0]) ∧ w.heap.size ≤ B ∧ w'.ownsRow B 3 1 v (card12 ++ places s).length (ints (card12 ++ places s)) ∧ Ch (fun _ => False) w w' := by
  have hp0 : s.pow = 0 := by simp [St.pow, hd0]
  obtain ⟨i0, hi, hz0, hz1, hz2⟩ := info_parts infoI
  refine (callsIn_wide (n := 3)).1 ?_
  refine callsIn_of_wp_marks Try.func11 rfl trivial ?_ rfl
  simp only [Try.ntmps11, List.size_toArray, List.length_cons, List.length_nil, Nat.reduceAdd, Nat.reduceSub, Array.replicate_succ, Array.replicate_zero, List.push_toArray, List.append_toArray, List.nil_append, List.cons_append]
  have ha := halive_any h
  rw [hp0] at ha
  have HA := Lib.hid ha
  clear ha
  gi_wp2_with (refine ⟨trivial, ?_⟩; gi_at_call 26; refine (callsIn_wide.2 HA.out).mono ?_; rintro e w1 ⟨rfl, c1⟩)
  have bO := Boxed.new w1 51 (.slice none 0 0)
  have hB0 : Below w1.heap.size w1 (w1.alloc (.cells #[.slice none 0 0] 51)) := (Below.refl _ _).alloc (by omega) _
  have hrw := World.ownsRow_nil (w1.alloc (.cells #[.slice none 0 0] 51)) w1.heap.size 3 1
  generalize w1.alloc (.cells #[.slice none 0 0] 51) = WR at bO hB0 hrw ⊢
  gi_loopw [6] (fun p wr => ∃ k : Nat, p = .int .i64 (k + 1) ∧ k ≤ 12 ∧ AI w1 F H T N R L s (card12.take k) wr) (fun p _ => (13 - intOf p).toNat)
  case atStart => exact ⟨0, rfl, by omega, ⟨_, bO, hrw⟩, hB0⟩
  case round =>
    obtain ⟨k, rfl, hk, ⟨v, hv, hrow⟩, hB⟩ := hrel
    have hc := hv.cell
    have hle := hB.size
    by_cases hlt : k < 12
    · have hlen : (card12.take k).length = k := by simp [card12]; omega
      rw [hlen] at hrow
      gi_wp2_with (gi_at_builtin; refine wpListIn_append_own _ rfl _ _ 51 rfl w1.heap.size 3 i0 (.int .i64 0) 1 8 Try.underlying51 hi hz0 hz1 hz2 rfl (by decide) _ _ _ rfl (hrow.alloc _) ⟨wr.heap.size, 0, none⟩ 1 1 [.int .i64 ((k : Int) + 1)] rfl rfl (cell_one_new _ _ _) (by simp [Value.oneCell']) (by first | omega | (unfold maxLen; omega)) (by first | omega | (unfold maxLen; omega)) (by simp; omega) ?_; intro v' w2 hown' hgrow _; obtain ⟨g', cap', rfl⟩ := ownsRow_succ hown'; obtain ⟨hv1, hv2, hr2, hk2, hb2⟩ := hv.appended (by decide) hrow hle (Nat.le_refl _) hown' hgrow; have hc1 := hv1.cell; have hf1 := hv1.frozen)
      refine ⟨⟨k + 1, by simp, by omega, ⟨_, hv2, ?_⟩, hB.trans hb2⟩, by simp [intOf]; omega⟩
      rw [show (card12.take (k + 1)).length = k + 1 by simp [card12]; omega, take12 k hlt]
      simpa [ints] using hr2
    · obtain rfl : k = 12 := by omega
      gi_wp2_with (refine ⟨trivial, ?_⟩; gi_at_call 37; refine (callsIn_wide.2 (hobj_any _ H)).mono ?_; rintro e w3 ⟨rfl, rfl⟩)
      have hlen12 : (card12.take 12).length = 12 := rfl
      rw [hlen12] at hrow
      have hrow12 : wr.ownsRow w1.heap.size 3 1 v 12 (ints card12) := hrow
      have CR : Ch (fun _ => False) w (wr.alloc (.cells #[.pointer (some ⟨H, 0, none⟩)] 25)) := (below_ch hB c1 c1.size).alloc _
      have HR := h.gr CR
      have hX : Blk (wr.alloc (.cells #[.pointer (some ⟨H, 0, none⟩)] 25)) wr.heap.size #[.pointer (some ⟨H, 0, none⟩)] 25 := Blk.new _ _ _
      have hv3 := hv.alloc (.cells #[.pointer (some ⟨H, 0, none⟩)] 25)
      have hr3 := hrow12.alloc (.cells #[.pointer (some ⟨H, 0, none⟩)] 25)
      have hB3 : Below w1.heap.size w1 (wr.alloc (.cells #[.pointer (some ⟨H, 0, none⟩)] 25)) := hB.alloc hB.size _
      have hwr : (wr.alloc (.cells #[.pointer (some ⟨H, 0, none⟩)] 25)).heap.size = wr.heap.size + 1 := by simp
      generalize wr.alloc (.cells #[.pointer (some ⟨H, 0, none⟩)] 25) = WR at CR HR hX hv3 hr3 hB3 hwr ⊢
      have IR : It WR F H T N R L s wr.heap.size := ⟨HR.h, HR.t, hX, HR.r.lt⟩
      have hlt := h.lt
      have hFb : ∀ k, F k → k < w.heap.size := fun k hk => hlt k (Or.inl hk)
      have hHb : H < w.heap.size := hlt _ (Or.inr (Or.inl rfl))
      have hTb : T < w.heap.size := hlt _ (Or.inr (Or.inr (Or.inl rfl)))
      have hRb : R < w.heap.size := hlt _ (Or.inr (Or.inr (Or.inr rfl)))
      have hw1 := c1.size
      have own : ∀ {A C : World} {row : Option Nat}, A.grownBy C row → (∀ r, row = some r → WR.heap.size ≤ r ∧ ∃ o : Obj, A.heap[r]? = some o ∧ o.isCells = false) → Ch (fun k => wr.heap.size + 1 ≤ k) A C := fun {A C row} hg hr => (grown_ch hg).mono (fun k hk => by have := (hr k hk.symm).1; omega)
      refine wpIn_rangeFunc_ownF (n := 3) rfl (by decide) (gf := 58) (lb := #[.pointer (some ⟨wr.heap.size, 0, none⟩)]) rfl trivial (enters_of Try.func58 (by kernel_rfl) rfl)
        (hobj1_seq WR F H T N R L w.heap.size wr.heap.size 2 s (by decide) IR hFb hHb hTb ⟨h.fr, h.rh, h.rt, by omega⟩ (by omega)) kh_t (kh_b (by omega) (by omega)) (Below.refl _ _) (fun _ => rfl)
        (fun pre W => ((∃ v, Boxed W w1.heap.size 51 v ∧ W.ownsRow w1.heap.size 3 1 v (12 + pre.length) (ints (card12 ++ pre.map (·.1)))) ∧ Below w1.heap.size w1 W) ∧ It W F H T N R L s wr.heap.size) (fun _ _ _ => False)
        (fun p A C row hs hg hr => by
          have c := own hg hr
          obtain ⟨⟨⟨v, hv, hrow⟩, hB⟩, hI⟩ := hs
          exact ⟨⟨⟨v, box_kept hv hg (fun r e => by have := (hr r e).1; omega), row_kept hrow hg (fun r e => Or.inr (hr r e).2)⟩, hB.grown hg (Nat.le_trans (by omega) hB.size) (fun k e => by have := (hr k e).1; omega)⟩,
            hI.ch c (fun k hk => by rcases hk with hk | rfl | rfl | rfl <;> first | omega | (have := hFb k hk; omega))⟩)
        (fun _ _ _ _ _ hs _ _ => hs.elim)
        ⟨⟨⟨v, hv3, by simpa using hr3⟩, hB3⟩, IR⟩
        (fun x => { tmps := #[.pointer (some ⟨H, 0, none⟩), undef, .slice none 0 0, .int .i64 0, .int .i64 0, .pointer (some ⟨w1.heap.size, 0, none⟩), .int .i64 13, .int .i64 x.1, .pointer (some ⟨H, 0, none⟩), .int .i64 0, .int .i64 0, .bool false, undef, .int .i64 13, .bool false, u15, u16, u17, u18, u19, u20, .pointer (some ⟨H, 0, none⟩), .func (.func 58) #[] #[.pointer (some ⟨wr.heap.size, 0, none⟩)], .int .i64 x.1, undef, undef, undef, undef, undef], defers := [] }) ?assign ?body ?done ?stop
      case assign =>
        intro l x W K hK
        gi_wp2
        exact hK
      case body =>
        rintro l pre ⟨x, hx⟩ W ⟨⟨⟨v, hv, hrow⟩, hB⟩, hI⟩ hpl
        have hc := hv.cell
        have hle := hB.size
        dsimp only
        gi_wp2_with (gi_at_builtin; refine wpListIn_append_own _ rfl _ _ 51 rfl w1.heap.size 3 i0 (.int .i64 0) 1 8 Try.underlying51 hi hz0 hz1 hz2 rfl (by decide) _ _ _ rfl (hrow.alloc _) ⟨W.heap.size, 0, none⟩ 1 1 [.int .i64 x] rfl rfl (cell_one_new _ _ _) (by simp [Value.oneCell']) (by first | omega | (unfold maxLen; omega)) (by first | omega | (unfold maxLen; omega)) (by simp; omega) ?_; intro v' w2 hown' hgrow _; obtain ⟨g', cap', rfl⟩ := ownsRow_succ hown'; obtain ⟨hv1, hv2, hr2, hk2, hb2⟩ := hv.appended (by decide) hrow hle (Nat.le_refl _) hown' hgrow; have hc1 := hv1.cell; have hf1 := hv1.frozen)
        have hk := kh_app (B := w.heap.size) (R := R) (v' := .slice (some ⟨g', 0, none⟩) (12 + pre.length + 1) cap') hv hrow hgrow hI.x (by omega) (by omega)
        exact ⟨hk2, hk, ⟨⟨_, hv2, by simpa [ints, Nat.add_assoc] using hr2⟩, hB.trans hb2⟩, hI.kh hk hFb hHb hTb ⟨h.fr, h.rh, h.rt, by omega⟩⟩
      case done =>
        rintro D ys W hD hys ⟨⟨⟨v, hv, hrow⟩, hB⟩, hI⟩ hK
        have hc := hv.cell
        gi_wp2
        refine ⟨by simp, .inl ⟨_, _, rfl, run_takeDeferred hK, ?_⟩⟩
        have hl : (card12 ++ places s).length = 12 + ys.length := by rw [← hys]; simp [card12]; omega
        refine ⟨_, results_tmp2 rfl _ _ _, v, w1.heap.size, rfl, by omega, ?_, ?_⟩
        · rw [hl, ← hys]
          exact ownsRow_putObj hrow _ hK rfl
        · exact below_ch (hB.trans (belowK_b (w := w1) (Nat.le_refl _) W D _ _ (by omega) hK rfl rfl)) c1 (by omega)
      case stop =>
        rintro D c pre W _ _ h _
        exact h.elim
theorem hall_any {w : World} {F : Nat → Prop} {H T N R L : Nat} {s : St} {m : List Int} (h : Hx w F H T N R L s m) :
    Calls Try.prog 11 #[.pointer (some ⟨H, 0, none⟩)] w fun e w' => ∃ v B, e = .returned (.tuple #[v, .int .i64 (hall s).2]) ∧ w.heap.size ≤ B ∧ w'.ownsRow B 3 1 v (hall s).1.length (ints (hall s).1) ∧ Ch (fun _ => False) w w' := by
  unfold hall
  by_cases hd : s.dark = true
  · rw [if_pos hd]
    have hp := fun w1 (c : Ch (fun _ => False) w w1) => halive_any (h.gr c)
    rw [show s.pow = 13 by simp [St.pow, hd]] at hp
    refine (hall_dark w H hp).mono ?_
    rintro e w' ⟨rfl, c⟩
    exact ⟨_, w.heap.size, rfl, Nat.le_refl _, World.ownsRow_nil _ _ _ _, c⟩
  · rw [if_neg hd]
    exact hall_live h (by simpa using hd)
end Go.Proofs.Ytjeaidmmhplglaa.Nvm
