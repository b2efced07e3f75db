/- lib.World's callees: a row's clone, a method's flags, the closure that appends a method. -/
import Derived.Test.YtjknnifcbcdjiaaDoorLibB
import Derived.Deep.RegionLaw
import Derived.BigRegion
import Derived.Lib.SliceRun
set_option linter.unusedVariables false
set_option linter.unusedSimpArgs false
namespace Go.Proofs.YtjknnifcbcdjiaaDoor.TabL
open Go.RowKit Go.Proofs.YtjknnifcbcdjiaaDoor.Base Go.Proofs.YtjknnifcbcdjiaaDoorW.PrintWords Go.Proofs.YtjknnifcbcdjiaaDoorW.PrintLast Go.Proofs.YtjknnifcbcdjiaaDoor.Tab
set_option maxRecDepth 100000 in
theorem clonet_any (w : World) (b : Nat) (v : Value) (ts : List (Int × Int)) (hl : ts.length ≤ 1000) (h : Ty w b v ts) : Calls Tryd.prog 14 #[v] w fun e w' => ∃ v', e = .returned v' ∧ Ty w' w.heap.size v' ts ∧ Ch (fun _ => False) w w' := by
  obtain ⟨i0, hi, hz0, hz1, hz2⟩ := info_parts infoT
  rcases own_len h with ⟨A, c, rfl⟩
  cases A with
  | none =>
    have h0 : ts.length = 0 ∧ c = 0 := by
      rcases h.2 with ⟨e, h1⟩ | ⟨g, cap, cur, e, _⟩
      · injection e with _ e1 e2; exact ⟨e1, e2⟩
      · injection e with e _; cases e
    have ht : ts = [] := List.eq_nil_of_length_eq_zero h0.1
    obtain rfl := h0.2
    subst ht
    have he : (binOp .eql 29 (.slice none 0 0) (.slice none 0 0)).run Tryd.prog w = .ok (.bool true) w := Lib.run_eql_slice_nil w 29 33 _ _ _ _ _ Tryd.underlying29
    go_enter Tryd.func14, Tryd.ntmps14
    go_wp2
    go_ret
    exact ⟨_, rfl, own_nil _ _ _ _, Ch.refl _ _⟩
  | some a =>
    have hA : ∃ g, a = ⟨g, 0, none⟩ := by
      rcases h.2 with ⟨e, h1⟩ | ⟨g, cap, cur, e, _⟩
      · injection e with e _; cases e
      · injection e with e _; injection e with e; exact ⟨g, e⟩
    obtain ⟨g, rfl⟩ := hA
    have hn : (w.alloc (.cells #[] 33)).ownsRow w.heap.size 33 2 (.slice (some ⟨w.heap.size, 0, none⟩) 0 0) 0 [] := World.ownsRow_lit w #[] 0 (Nat.le_refl _) (Nat.zero_le _) rfl
    have hs : Ty (w.alloc (.cells #[] 33)) b (.slice (some ⟨g, 0, none⟩) ts.length c) ts := World.ownsRow.alloc h _
    have hm : 0 + ts.length ≤ maxLen := by unfold maxLen; omega
    have he : (binOp .eql 29 (.slice (some ⟨g, 0, none⟩) ts.length c) (.slice none 0 0)).run Tryd.prog w = .ok (.bool false) w := Lib.run_eql_slice_nil w 29 33 _ _ _ _ _ Tryd.underlying29
    go_enter Tryd.func14, Tryd.ntmps14
    go_wp2_with (at_builtin; go_loud (refine wpList_append_src rfl _ _ 29 rfl w.heap.size 33 i0 (.agg #[.int .u8 0, .int .u16 0]) 2 4 Tryd.underlying29 hi hz0 hz1 hz2 rfl (by decide) _ 0 _ rfl hn b _ ts.length _ rfl hs (one_tcells _) hm (by omega) (by simp) ?_); intro v5 w5 ho5 hg5)
    go_ret
    exact ⟨_, rfl, by rw [Nat.zero_add, List.nil_append] at ho5; exact ho5, grow_base (Nat.le_refl _) ((Ch.refl _ w).alloc _) hn hg5⟩
set_option maxRecDepth 100000 in
theorem clonei_any (w : World) (b : Nat) (v : Value) (ts : List Int) (hl : ts.length ≤ 1000) (h : Ints w b v ts) : Calls Tryd.prog 15 #[v] w fun e w' => ∃ v', e = .returned v' ∧ Ints w' w.heap.size v' ts ∧ Ch (fun _ => False) w w' := by
  obtain ⟨i0, hi, hz0, hz1, hz2⟩ := info_parts infoI
  rcases own_len h with ⟨A, c, rfl⟩
  cases A with
  | none =>
    have h0 : ts.length = 0 ∧ c = 0 := by
      rcases h.2 with ⟨e, h1⟩ | ⟨g, cap, cur, e, _⟩
      · injection e with _ e1 e2; exact ⟨e1, e2⟩
      · injection e with e _; cases e
    have ht : ts = [] := List.eq_nil_of_length_eq_zero h0.1
    obtain rfl := h0.2
    subst ht
    have he : (binOp .eql 41 (.slice none 0 0) (.slice none 0 0)).run Tryd.prog w = .ok (.bool true) w := Lib.run_eql_slice_nil w 41 3 _ _ _ _ _ Tryd.underlying41
    go_enter Tryd.func15, Tryd.ntmps15
    go_wp2
    go_ret
    exact ⟨_, rfl, own_nil _ _ _ _, Ch.refl _ _⟩
  | some a =>
    have hA : ∃ g, a = ⟨g, 0, none⟩ := by
      rcases h.2 with ⟨e, h1⟩ | ⟨g, cap, cur, e, _⟩
      · injection e with e _; cases e
      · injection e with e _; injection e with e; exact ⟨g, e⟩
    obtain ⟨g, rfl⟩ := hA
    have hn : (w.alloc (.cells #[] 3)).ownsRow w.heap.size 3 1 (.slice (some ⟨w.heap.size, 0, none⟩) 0 0) 0 [] := World.ownsRow_lit w #[] 0 (Nat.le_refl _) (Nat.zero_le _) rfl
    have hs : Ints (w.alloc (.cells #[] 3)) b (.slice (some ⟨g, 0, none⟩) ts.length c) ts := World.ownsRow.alloc h _
    have hm : 0 + ts.length ≤ maxLen := by unfold maxLen; omega
    have he : (binOp .eql 41 (.slice (some ⟨g, 0, none⟩) ts.length c) (.slice none 0 0)).run Tryd.prog w = .ok (.bool false) w := Lib.run_eql_slice_nil w 41 3 _ _ _ _ _ Tryd.underlying41
    go_enter Tryd.func15, Tryd.ntmps15
    go_wp2_with (at_builtin; go_loud (refine wpList_append_src rfl _ _ 41 rfl w.heap.size 3 i0 (.int .i64 0) 1 8 Tryd.underlying41 hi hz0 hz1 hz2 rfl (by decide) _ 0 _ rfl hn b _ ts.length _ rfl hs (one_icells _) hm (by omega) (by simp) ?_); intro v5 w5 ho5 hg5)
    go_ret
    exact ⟨_, rfl, by rw [Nat.zero_add, List.nil_append] at ho5; exact ho5, grow_base (Nat.le_refl _) ((Ch.refl _ w).alloc _) hn hg5⟩
/-- A method's flags. -/
def flg (n : Int) : Int := if n = 1 ∨ n = 4 then 4 else 1
set_option maxRecDepth 100000 in
theorem flags_any (w : World) (n : Int) : Calls Tryd.prog 17 #[.int .i64 n] w fun e w' => e = .returned (.int .u8 (flg n)) ∧ w' = w := by
  by_cases h : n = 1
  · subst h
    go_enter Tryd.func17, Tryd.ntmps17
    go_wp2
    go_ret
    exact ⟨rfl, rfl⟩
  · have h1 : (n == 1) = false := beq_eq_false_iff_ne.2 h
    by_cases h4 : n = 4
    · subst h4
      go_enter Tryd.func17, Tryd.ntmps17
      go_wp2
      go_ret
      exact ⟨rfl, rfl⟩
    · have h2 : (n == 4) = false := beq_eq_false_iff_ne.2 h4
      have hf : flg n = 1 := if_neg (by omega)
      rw [hf]
      go_enter Tryd.func17, Tryd.ntmps17
      go_wp2
      go_ret
      exact ⟨rfl, rfl⟩
/-- The method that the closure appends. -/
def mth (k : Int) (n : Nat) (f : Int) : MetM := ⟨f, k, sigP n, (sigR n).1, (sigR n).2, (n : Int) + 1⟩
theorem enters11 (C : Array Value) (w : World) : (callFunc 11 C).run Tryd.prog w = .ok (.enter 11 C) w := by simp [callFunc, Tryd.func11, go_sem, Tryd.f11]
set_option maxHeartbeats 1000000 in
set_option maxRecDepth 100000 in
theorem method_any {q : Bool} {w0 wr : World} {Z W1 NB P R Cb X : Nat} {rc : Array Value} {fl su i : Int} {v1 v3 cf cv cx vf vv vx v2 : Value} {nc ne : Nat} {xc xe xm : List Value} {fs : List (Int × Int)} {vs xs : List Int} {ms : List MetM} {w : World}
    (hR : Rd q w0 wr Z W1 NB P R Cb X rc fl su i v1 v3 cf cv cx v2 vf vv vx v2 nc ne xc xe xm fs vs xs ms w) (hG : Gl w0) (k : Int) (n : Nat) (f : Int) (hn : n < 26) (hms : ms.length ≤ 1000) :
    Calls Tryd.prog 11 #[.int .i64 k, .int .i64 ((n : Int) + 1), .int .u8 f, .pointer (some ⟨W1, 0, none⟩)] w fun e w' => e = .returned (.int .i64 (ms.length : Int)) ∧
      ∃ v2' xm', Rd q w0 wr Z W1 NB P R Cb X rc fl su i v1 v3 cf cv cx v2' vf vv vx v2' nc ne xc xe xm' fs vs xs (ms ++ [mth k n f]) w' := by
  obtain ⟨i3, hi3, ha3, hb3, hc3⟩ := info_parts info39w
  obtain ⟨A2, c2, rfl⟩ := own_len hR.om
  have hS := fun w' h => sig_any w' n hn h
  have hM : mth k n f = ⟨f, k, sigP n, (sigR n).1, (sigR n).2, (n : Int) + 1⟩ := rfl
  generalize sigR n = sr at *
  generalize sigP n = sp at *
  generalize mth k n f = mm at *
  subst hM
  obtain ⟨sk, sc⟩ := sr
  have y1 : w.cell? ⟨W1, 1, none⟩ = some (.slice A2 ms.length c2) := hR.w1.cell 1
  have hRd := hR.gr (Ch.refl _ w).drew
  have hq3 : ms.length + 1 ≤ maxLen := by unfold maxLen; omega
  have hq4 : (ms.length + 1) * 128 ≤ 140737488355328 := by omega
  go_enter Tryd.func11, Tryd.ntmps11
  go_wp2_with (fail)
  go_region_law (first | (refine step_append_lies _ rfl (.tmp 9) (.tmp 16) 23 rfl w0.heap.size 39 i3 (.agg #[.int .i64 0, .int .u8 0, .int .i64 0, .slice none 0 0, .int .u8 0, .int .u16 0, .int .i64 0, .int .i64 0, .slice none 0 0, .slice none 0 0, .int .i64 0]) 11 128 Tryd.underlying23 hi3 ha3 hb3 hc3 rfl (by decide) (.slice A2 ms.length c2) _ _ (by simp [Act.eval, Act.put]) hRb.om ⟨w7.heap.size, 0, none⟩ 1 1 [.int .i64 0, .int .u8 f, .int .i64 k, .slice A0 sp.length c0, .int .u8 sk, .int .u16 sc, .int .i64 0, .int .i64 0, .slice none 0 0, .slice none 0 0, .int .i64 ((n : Int) + 1)] (by simp [Act.eval, Act.put]) rfl (World.news_of_block hB.heap) (one_met _ _ _ _ _ _ _ _) (by decide) hq3 hq4 hsb _ rfl ?_; intro g8 cap8 w8 ho8 hg8 hat8 hlt8; have hR8 := hRb.growM (m := ⟨f, k, sp, sk, sc, (n : Int) + 1⟩) hg8 ho8 ⟨_, rfl, own_kp hTn (kp_row hRb.om hg8) (by decide)⟩; have p1 : w8.cell? ⟨W1, 1, none⟩ = some (.slice A2 ms.length c2) := hR8.w1.cell 1; have p2 : w8.frozen? ⟨W1, 1, none⟩ = false := hR8.w1.free 1; have hR9 := hR8.setM (.slice (some ⟨g8, 0, none⟩) (ms.length + 1) cap8); have p5 := hR9.w1.cell 1) |
    (go_simp; go_at_call 12; refine (hS _ (hG.ch hRd.ch)).mono ?_; rintro e w7 ⟨vS, rfl, hT7, c7⟩; obtain ⟨A0, c0, rfl⟩ := own_len hT7; have hRc := hRd.gr c7; have p3 : w7.cell? ⟨W1, 1, none⟩ = some (.slice A2 ms.length c2) := hRc.w1.cell 1; have hB := Blk.new w7 #[.int .i64 0, .int .u8 f, .int .i64 k, .slice A0 sp.length c0, .int .u8 sk, .int .u16 sc, .int .i64 0, .int .i64 0, .slice none 0 0, .slice none 0 0, .int .i64 ((n : Int) + 1)] 39; have hRb := hRc.gr ((Ch.refl _ w7).alloc (.cells #[.int .i64 0, .int .u8 f, .int .i64 k, .slice A0 sp.length c0, .int .u8 sk, .int .u16 sc, .int .i64 0, .int .i64 0, .slice none 0 0, .slice none 0 0, .int .i64 ((n : Int) + 1)] 39)); have hTn : Ty _ w0.heap.size (.slice A0 sp.length c0) sp := own_kp (own_weaken hT7 hRd.ch.size) (kp_ch (T := 0) ((Ch.refl _ w7).alloc (.cells #[.int .i64 0, .int .u8 f, .int .i64 k, .slice A0 sp.length c0, .int .u8 sk, .int .u16 sc, .int .i64 0, .int .i64 0, .slice none 0 0, .slice none 0 0, .int .i64 ((n : Int) + 1)] 39))) (by decide); have hsb := hRb.ch.size; have p4 : (w7.alloc (.cells #[.int .i64 0, .int .u8 f, .int .i64 k, .slice A0 sp.length c0, .int .u8 sk, .int .u16 sc, .int .i64 0, .int .i64 0, .slice none 0 0, .slice none 0 0, .int .i64 ((n : Int) + 1)] 39)).cell? ⟨W1, 1, none⟩ = some (.slice A2 ms.length c2) := hRb.w1.cell 1))
  all_goals (go_wp2_with (fail))
  all_goals (go_ret)
  all_goals (exact ⟨by simp, _, _, hR9⟩)
end Go.Proofs.YtjknnifcbcdjiaaDoor.TabL
