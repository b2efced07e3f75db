/- The calls of txn that write. -/
import Derived.Test.YtjeaidmmhplglaaTxnOps
set_option linter.unusedVariables false
set_option linter.unusedSimpArgs false
namespace Go.Proofs.Ytjeaidmmhplglaa.Nvm
open Go.RowKit Go.Proofs.Ytjeaidmmhplglaa.Base
/-- An entry for a word, if it has none. -/
def fkept (at_ : Int) : St → St × Int := fun s => if hs s.l at_ (cnt s.l).toNat = true then (s, 0) else if 100 ≤ cnt s.l then (s, 12) else fentry (cnt s.l) at_ s
theorem Stp.call {w : World} {F : Nat → Prop} {T N L G : Nat} {f : St → St × Int} {C : Array Value} (h : Stp w F T N L f (.func (.func G) #[] C)) :
    (∀ w : World, (callFunc G C).run Try.prog w = .ok (.enter G C) w) ∧ ∀ w1 s, Ch F w w1 → Tx w1 F T N L s → Calls Try.prog G C w1 (Does w1 F T N L (f s)) := by
  obtain ⟨P, _, _, he, hP, hin, h⟩ := h
  cases he
  exact ⟨hin, fun w1 s c t => h w1 s (fun k hk => c.block k (hP k hk).1 (hP k hk).2.1) t⟩
set_option maxHeartbeats 1600000 in
set_option maxRecDepth 100000 in
theorem kept_has (w : World) (F : Nat → Prop) (T N L : Nat) (s : St) (n : Int) (b : Bool) (at_ : Int) (hx : Tx w F T N L s)
    (ha : Hid (∀ w1 : World, Tx w1 F T N L s → Calls Try.prog 67 #[.pointer (some ⟨T, 0, none⟩)] w1 fun e w' => e = .returned (.int .i64 n) ∧ Ch (fun _ => False) w1 w'))
    (hb : Hid (∀ w1 : World, Tx w1 F T N L s → Calls Try.prog 68 #[.pointer (some ⟨T, 0, none⟩), .int .i64 at_] w1 fun e w' => e = .returned (.bool b) ∧ Ch (fun _ => False) w1 w')) (hh : b = true) :
    Calls Try.prog 49 #[.pointer (some ⟨T, 0, none⟩), .int .i64 at_] w fun e w' => e = .returned (.int .i64 0) ∧ Tx w' F T N L s ∧ Ch F w w' := by
  subst hh
  go_enter Try.func49, Try.ntmps49
  go_wp2_with (fail)
  refine (ha.out _ hx).mono ?_
  rintro e w1 ⟨rfl, c1⟩
  have t0 := hx.gr c1
  go_wp2_with (fail)
  refine (hb.out _ t0).mono ?_
  rintro e w2 ⟨rfl, c2⟩
  have t1 := t0.gr c2
  have d1 := c1.then c2
  go_wp2_with (fail)
  go_ret
  exact ⟨rfl, t1, d1.gr⟩
set_option maxHeartbeats 1600000 in
set_option maxRecDepth 100000 in
theorem kept_full (w : World) (F : Nat → Prop) (T N L : Nat) (s : St) (n : Int) (b : Bool) (at_ : Int) (hx : Tx w F T N L s)
    (ha : Hid (∀ w1 : World, Tx w1 F T N L s → Calls Try.prog 67 #[.pointer (some ⟨T, 0, none⟩)] w1 fun e w' => e = .returned (.int .i64 n) ∧ Ch (fun _ => False) w1 w'))
    (hb : Hid (∀ w1 : World, Tx w1 F T N L s → Calls Try.prog 68 #[.pointer (some ⟨T, 0, none⟩), .int .i64 at_] w1 fun e w' => e = .returned (.bool b) ∧ Ch (fun _ => False) w1 w')) (hh : b = false) (hc : 100 ≤ n) :
    Calls Try.prog 49 #[.pointer (some ⟨T, 0, none⟩), .int .i64 at_] w fun e w' => e = .returned (.int .i64 12) ∧ Tx w' F T N L s ∧ Ch F w w' := by
  subst hh
  go_enter Try.func49, Try.ntmps49
  go_wp2_with (fail)
  refine (ha.out _ hx).mono ?_
  rintro e w1 ⟨rfl, c1⟩
  have t0 := hx.gr c1
  go_wp2_with (fail)
  refine (hb.out _ t0).mono ?_
  rintro e w2 ⟨rfl, c2⟩
  have t1 := t0.gr c2
  have d1 := c1.then c2
  go_wp2_with (fail)
  go_ret
  exact ⟨rfl, t1, d1.gr⟩
set_option maxHeartbeats 1600000 in
set_option maxRecDepth 100000 in
theorem kept_new (w : World) (F : Nat → Prop) (T N L : Nat) (s : St) (n : Int) (b : Bool) (at_ : Int) (hx : Tx w F T N L s) (f : St → St × Int)
    (ha : Hid (∀ w1 : World, Tx w1 F T N L s → Calls Try.prog 67 #[.pointer (some ⟨T, 0, none⟩)] w1 fun e w' => e = .returned (.int .i64 n) ∧ Ch (fun _ => False) w1 w'))
    (hb : Hid (∀ w1 : World, Tx w1 F T N L s → Calls Try.prog 68 #[.pointer (some ⟨T, 0, none⟩), .int .i64 at_] w1 fun e w' => e = .returned (.bool b) ∧ Ch (fun _ => False) w1 w'))
    (he : Hid (∀ w1 : World, Tx w1 F T N L s → Calls Try.prog 51 #[.pointer (some ⟨T, 0, none⟩), .int .i64 n, .int .i64 at_] w1 (GivesStp w1 F T N L f))) (hh : b = false) (hc : ¬ 100 ≤ n) :
    Calls Try.prog 49 #[.pointer (some ⟨T, 0, none⟩), .int .i64 at_] w (Does w F T N L (f s)) := by
  subst hh
  go_enter Try.func49, Try.ntmps49
  go_wp2_with (fail)
  refine (ha.out _ hx).mono ?_
  rintro e w1 ⟨rfl, c1⟩
  have t0 := hx.gr c1
  go_wp2_with (fail)
  refine (hb.out _ t0).mono ?_
  rintro e w2 ⟨rfl, c2⟩
  have t1 := t0.gr c2
  have d1 := c1.then c2
  go_wp2_with (fail)
  refine (he.out _ t1).mono ?_
  rintro e w3 ⟨G, C, rfl, hs, c3⟩
  have t2 := t1.gr c3
  have d2 := d1.then c3
  obtain ⟨hin, hcall⟩ := hs.call
  have HC := Lib.hid (hcall w3 s (Ch.refl _ _) t2)
  clear hcall hs
  generalize hR : f s = R at *
  go_wp2_with (fail)
  refine HC.out.mono ?_
  rintro e w4 ⟨rfl, t4, c4⟩
  go_wp2_with (fail)
  go_ret
  exact ⟨rfl, t4, d2.gr.then c4⟩
theorem kept_tx {w : World} {F : Nat → Prop} {T N L : Nat} {s : St} (hx : Tx w F T N L s) (at_ : Int) (a0 : 0 ≤ at_) (a1 : 2 * at_ + 1 < L) :
    Calls Try.prog 49 #[.pointer (some ⟨T, 0, none⟩), .int .i64 at_] w (Does w F T N L (fkept at_ s)) := by
  have hb := cnt_b hx.ok.by_
  unfold fkept
  by_cases c1 : hs s.l at_ (cnt s.l).toNat = true
  · rw [if_pos c1]
    exact kept_has w F T N L s _ _ at_ hx (Lib.hid (fun w1 h => count_any h)) (Lib.hid (fun w1 h => has_any h at_)) c1
  · rw [if_neg c1]
    have c1' : hs s.l at_ (cnt s.l).toNat = false := by simpa using c1
    by_cases c2 : 100 ≤ cnt s.l
    · rw [if_pos c2]
      exact kept_full w F T N L s _ _ at_ hx (Lib.hid (fun w1 h => count_any h)) (Lib.hid (fun w1 h => has_any h at_)) c1' c2
    · rw [if_neg c2]
      exact kept_new w F T N L s _ _ at_ hx _ (Lib.hid (fun w1 h => count_any h)) (Lib.hid (fun w1 h => has_any h at_)) (Lib.hid (fun w1 h => entries_any h _ at_ hb.1 hb.2 a0 a1)) c1' c2
set_option maxHeartbeats 1600000 in
set_option maxRecDepth 100000 in
theorem put1_any {w : World} {F : Nat → Prop} {T N L B C : Nat} {s : St} {at_ : Int} (hx : Tx w F T N L s) (p0 : Blk w B #[.pointer (some ⟨T, 0, none⟩)] 23) (p1 : Blk w C #[.int .i64 at_] 3)
    (R : St × Int) (ha : Hid (Calls Try.prog 49 #[.pointer (some ⟨T, 0, none⟩), .int .i64 at_] w (Does w F T N L R))) :
    Calls Try.prog 48 #[.pointer (some ⟨B, 0, none⟩), .pointer (some ⟨C, 0, none⟩)] w (Does w F T N L R) := by
  have q0 : w.cell? ⟨B, 0, none⟩ = some (.pointer (some ⟨T, 0, none⟩)) := p0.cell 0
  have q1 : w.cell? ⟨C, 0, none⟩ = some (.int .i64 at_) := p1.cell 0
  clear p0 p1
  go_enter Try.func48, Try.ntmps48
  go_wp2_with (fail)
  refine ha.out.mono ?_
  rintro e w1 ⟨rfl, t1, c1⟩
  go_wp2_with (fail)
  go_ret
  exact ⟨rfl, t1, c1⟩
theorem enters48 (C : Array Value) (w : World) : (callFunc 48 C).run Try.prog w = .ok (.enter 48 C) w := by simp [callFunc, Try.func48, go_sem, Try.f48]
set_option maxHeartbeats 1600000 in
set_option maxRecDepth 100000 in
theorem putby1_any {w : World} {F : Nat → Prop} {T N L B C : Nat} {s : St} {at_ : Int} (hx : Tx w F T N L s) (p0 : Blk w B #[.pointer (some ⟨T, 0, none⟩)] 23) (p1 : Blk w C #[.int .i64 at_] 3)
    (R : St × Int) (ha : Hid (Calls Try.prog 49 #[.pointer (some ⟨T, 0, none⟩), .int .i64 (wrap64 (at_.tdiv 2))] w (Does w F T N L R))) :
    Calls Try.prog 61 #[.pointer (some ⟨B, 0, none⟩), .pointer (some ⟨C, 0, none⟩)] w (Does w F T N L R) := by
  have q0 : w.cell? ⟨B, 0, none⟩ = some (.pointer (some ⟨T, 0, none⟩)) := p0.cell 0
  have q1 : w.cell? ⟨C, 0, none⟩ = some (.int .i64 at_) := p1.cell 0
  clear p0 p1
  go_enter Try.func61, Try.ntmps61
  go_wp2_with (fail)
  refine ha.out.mono ?_
  rintro e w1 ⟨rfl, t1, c1⟩
  go_wp2_with (fail)
  go_ret
  exact ⟨rfl, t1, c1⟩
theorem enters61 (C : Array Value) (w : World) : (callFunc 61 C).run Try.prog w = .ok (.enter 61 C) w := by simp [callFunc, Try.func61, go_sem, Try.f61]
/-- The boxes of a call: its transactions and a number. -/
theorem boxes {w : World} {F : Nat → Prop} {T N L : Nat} {s : St} (hx : Tx w F T N L s) (at_ : Int) :
    Tx ((w.alloc (.cells #[.pointer (some ⟨T, 0, none⟩)] 23)).alloc (.cells #[.int .i64 at_] 3)) F T N L s ∧ Blk ((w.alloc (.cells #[.pointer (some ⟨T, 0, none⟩)] 23)).alloc (.cells #[.int .i64 at_] 3)) w.heap.size #[.pointer (some ⟨T, 0, none⟩)] 23 ∧
    Blk ((w.alloc (.cells #[.pointer (some ⟨T, 0, none⟩)] 23)).alloc (.cells #[.int .i64 at_] 3)) (w.heap.size + 1) #[.int .i64 at_] 3 ∧ Ch (fun _ => False) w ((w.alloc (.cells #[.pointer (some ⟨T, 0, none⟩)] 23)).alloc (.cells #[.int .i64 at_] 3)) := by
  have c : Ch (fun _ => False) w ((w.alloc (.cells #[.pointer (some ⟨T, 0, none⟩)] 23)).alloc (.cells #[.int .i64 at_] 3)) := ((Ch.refl _ _).alloc _).alloc _
  refine ⟨hx.gr c, (Blk.new w _ _).alloc _, ?_, c⟩
  have p1 := Blk.new (w.alloc (.cells #[.pointer (some ⟨T, 0, none⟩)] 23)) #[.int .i64 at_] 3
  rwa [show (w.alloc (.cells #[.pointer (some ⟨T, 0, none⟩)] 23)).heap.size = w.heap.size + 1 from by simp] at p1
set_option maxHeartbeats 1600000 in
set_option maxRecDepth 100000 in
theorem tput_ref {w : World} {F : Nat → Prop} {T N L : Nat} {s : St} (hx : Tx w F T N L s) (at_ v r : Int) (hr : (r != 0) = true)
    (ha : Hid (∀ w1 : World, Tx w1 F T N L s → Calls Try.prog 44 #[.pointer (some ⟨T, 0, none⟩), .int .i64 at_] w1 fun e w' => e = .returned (.int .i64 r) ∧ w1 = w')) :
    Calls Try.prog 22 #[.pointer (some ⟨T, 0, none⟩), .int .i64 at_, .int .u16 v] w (Does w F T N L (s, r)) := by
  obtain ⟨t0, p0, p1, c0⟩ := boxes hx at_
  have n0 : ¬ F w.heap.size := lt_of_F hx (Nat.le_refl _)
  have n1 : ¬ F (w.heap.size + 1) := lt_of_F hx (by omega)
  have q0 := p0.cell 0
  have q1 := p1.cell 0
  simp only [List.getElem?_toArray, List.getElem?_cons_zero] at q0 q1
  have hA := Lib.hid (ha.out _ t0)
  clear p0 p1 ha
  go_enter Try.func22, Try.ntmps22
  go_wp2_with (fail)
  refine hA.out.mono ?_
  rintro e w1 ⟨rfl, rfl⟩
  go_wp2_with (fail)
  go_ret
  exact ⟨rfl, t0, c0.gr⟩
set_option maxHeartbeats 1600000 in
set_option maxRecDepth 100000 in
theorem tputby_ref {w : World} {F : Nat → Prop} {T N L : Nat} {s : St} (hx : Tx w F T N L s) (at_ v r : Int) (hr : (r != 0) = true)
    (ha : Hid (∀ w1 : World, Tx w1 F T N L s → Calls Try.prog 54 #[.pointer (some ⟨T, 0, none⟩), .int .i64 at_] w1 fun e w' => e = .returned (.int .i64 r) ∧ w1 = w')) :
    Calls Try.prog 39 #[.pointer (some ⟨T, 0, none⟩), .int .i64 at_, .int .u8 v] w (Does w F T N L (s, r)) := by
  obtain ⟨t0, p0, p1, c0⟩ := boxes hx at_
  have n0 : ¬ F w.heap.size := lt_of_F hx (Nat.le_refl _)
  have n1 : ¬ F (w.heap.size + 1) := lt_of_F hx (by omega)
  have q0 := p0.cell 0
  have q1 := p1.cell 0
  simp only [List.getElem?_toArray, List.getElem?_cons_zero] at q0 q1
  have hA := Lib.hid (ha.out _ t0)
  clear p0 p1 ha
  go_enter Try.func39, Try.ntmps39
  go_wp2_with (fail)
  refine hA.out.mono ?_
  rintro e w1 ⟨rfl, rfl⟩
  go_wp2_with (fail)
  go_ret
  exact ⟨rfl, t0, c0.gr⟩
set_option maxHeartbeats 1600000 in
set_option maxRecDepth 100000 in
theorem tput_open {w : World} {F : Nat → Prop} {T N L : Nat} {s : St} (hx : Tx w F T N L s) (at_ v : Int) (f g : St → St × Int)
    (ha : Hid (∀ w1 : World, Tx w1 F T N L s → Calls Try.prog 44 #[.pointer (some ⟨T, 0, none⟩), .int .i64 at_] w1 fun e w' => e = .returned (.int .i64 0) ∧ w1 = w'))
    (ho : Hid (∀ w1 : World, Tx w1 F T N L s → Calls Try.prog 46 #[.pointer (some ⟨T, 0, none⟩)] w1 fun e w' => e = .returned (.bool true) ∧ Ch (fun _ => False) w1 w'))
    (hk : Hid (∀ (w1 : World) (s1 : St), Tx w1 F T N L s1 → Calls Try.prog 49 #[.pointer (some ⟨T, 0, none⟩), .int .i64 at_] w1 (Does w1 F T N L (f s1))))
    (hw : Hid (∀ w1 : World, Tx w1 F T N L s → Calls Try.prog 50 #[.pointer (some ⟨T, 0, none⟩), .int .i64 at_, .int .u16 v] w1 (GivesStp w1 F T N L g))) :
    Calls Try.prog 22 #[.pointer (some ⟨T, 0, none⟩), .int .i64 at_, .int .u16 v] w (Does w F T N L (runs [f, g] s)) := by
  have hmf := hmf
  obtain ⟨t0, p0, p1, c0⟩ := boxes hx at_
  have n0 : ¬ F w.heap.size := lt_of_F hx (Nat.le_refl _)
  have n1 : ¬ F (w.heap.size + 1) := lt_of_F hx (by omega)
  have q0 := p0.cell 0
  have q1 := p1.cell 0
  simp only [List.getElem?_toArray, List.getElem?_cons_zero] at q0 q1
  have hA := Lib.hid (ha.out _ t0)
  have hO := Lib.hid (ho.out _ t0)
  clear ha ho
  generalize hR : runs [f, g] s = R at *
  go_enter Try.func22, Try.ntmps22
  go_wp2_with (fail)
  refine hA.out.mono ?_
  rintro e w1 ⟨rfl, rfl⟩
  go_wp2_with (fail)
  refine hO.out.mono ?_
  rintro e w2 ⟨rfl, c2⟩
  have t2 := t0.gr c2
  have d2 := c0.then c2
  have q0' := (c2.cell (p := ⟨w.heap.size, 0, none⟩) p0.lt (fun h => h)).trans q0
  have q1' := (c2.cell (p := ⟨w.heap.size + 1, 0, none⟩) p1.lt (fun h => h)).trans q1
  have hs1 : Stp w2 F T N L f (.func (.func 48) #[] #[.pointer (some ⟨w.heap.size, 0, none⟩), .pointer (some ⟨w.heap.size + 1, 0, none⟩)]) :=
    ⟨fun k => k = w.heap.size ∨ k = w.heap.size + 1, _, _, rfl, fun k hk => ⟨by have := (p1.ch c2 (fun h => h)).lt; omega, by rcases hk with rfl | rfl; exact n0; exact n1, by rcases hk with rfl | rfl; exact Blk.not_steps (p0.ch c2 (fun h => h)) (by decide); exact Blk.not_steps (p1.ch c2 (fun h => h)) (by decide)⟩, enters48 _, fun w3 s3 c3 t3 => put1_any t3 ⟨(c3 _ (Or.inl rfl)).trans (p0.ch c2 (fun h => h)).heap⟩ ⟨(c3 _ (Or.inr rfl)).trans (p1.ch c2 (fun h => h)).heap⟩ _ (Lib.hid (hk.out w3 s3 t3))⟩
  have HS1 := Lib.hid hs1
  clear hs1 p0 p1 q0 q1 hk
  go_wp2_with (fail)
  refine (hw.out _ t2).mono ?_
  rintro e w3 ⟨G, C, rfl, hs2, c3⟩
  have t3 := t2.gr c3
  have d3 := d2.then c3
  have HD := do_two t3 (HS1.out.ch c3.gr) hs2
  rw [hR] at HD
  have HD' := Lib.hid HD
  clear HD HS1 hs2
  go_wp2_with (fail)
  refine HD'.out.mono ?_
  rintro e w4 ⟨rfl, t4, c4⟩
  go_wp2_with (fail)
  go_ret
  exact ⟨rfl, t4, d3.gr.then c4⟩
/-- Three steps in a literal. -/
theorem do_three {w : World} {F : Nat → Prop} {T N L : Nat} {s : St} {f g h : St → St × Int} {u v x : Value} (hx : Tx w F T N L s) (hf : Stp w F T N L f u) (hg : Stp w F T N L g v) (hh : Stp w F T N L h x) :
    Calls Try.prog 47 #[.slice (some ⟨w.heap.size, 0, none⟩) 3 3] (w.alloc (.cells #[u, v, x] 99)) fun e w' => e = .returned (.int .i64 (runs [f, g, h] s).2) ∧ Tx w' F T N L (runs [f, g, h] s).1 ∧ Ch F w w' := by
  have c : Ch (fun _ => False) w (w.alloc (.cells #[u, v, x] 99)) := (Ch.refl _ _).alloc _
  have hB := Blk.new w #[u, v, x] 99
  refine (do_any _ F T N L s w.heap.size 0 3 3 [f, g, h] rfl (by omega) (hx.gr c) hB.lt (lt_of_F hx (Nat.le_refl _)) (fun j hj => ?_)).mono ?_
  · rcases (by omega : j = 0 ∨ j = 1 ∨ j = 2) with rfl | rfl | rfl
    · exact ⟨u, hB.cell 0, hf.ch c.gr⟩
    · exact ⟨v, hB.cell 1, hg.ch c.gr⟩
    · exact ⟨x, hB.cell 2, hh.ch c.gr⟩
  · rintro e w' ⟨rfl, h, k⟩
    exact ⟨rfl, h, c.gr.then k⟩
set_option maxHeartbeats 1600000 in
set_option maxRecDepth 100000 in
theorem tput_shut {w : World} {F : Nat → Prop} {T N L : Nat} {s : St} (hx : Tx w F T N L s) (at_ v : Int) (f g h : St → St × Int)
    (ha : Hid (∀ w1 : World, Tx w1 F T N L s → Calls Try.prog 44 #[.pointer (some ⟨T, 0, none⟩), .int .i64 at_] w1 fun e w' => e = .returned (.int .i64 0) ∧ w1 = w'))
    (ho : Hid (∀ w1 : World, Tx w1 F T N L s → Calls Try.prog 46 #[.pointer (some ⟨T, 0, none⟩)] w1 fun e w' => e = .returned (.bool false) ∧ Ch (fun _ => False) w1 w'))
    (he : Hid (∀ w1 : World, Tx w1 F T N L s → Calls Try.prog 51 #[.pointer (some ⟨T, 0, none⟩), .int .i64 0, .int .i64 at_] w1 (GivesStp w1 F T N L f)))
    (hw : Hid (∀ w1 : World, Tx w1 F T N L s → Calls Try.prog 50 #[.pointer (some ⟨T, 0, none⟩), .int .i64 at_, .int .u16 v] w1 (GivesStp w1 F T N L g)))
    (hp : Hid (∀ w1 : World, Tx w1 F T N L s → Calls Try.prog 52 #[.pointer (some ⟨T, 0, none⟩), .int .i64 0, .int .u8 0] w1 (GivesStp w1 F T N L h))) :
    Calls Try.prog 22 #[.pointer (some ⟨T, 0, none⟩), .int .i64 at_, .int .u16 v] w (Does w F T N L (runs [f, g, h] s)) := by
  obtain ⟨t0, p0, p1, c0⟩ := boxes hx at_
  have n0 : ¬ F w.heap.size := lt_of_F hx (Nat.le_refl _)
  have n1 : ¬ F (w.heap.size + 1) := lt_of_F hx (by omega)
  have q0 := p0.cell 0
  have q1 := p1.cell 0
  simp only [List.getElem?_toArray, List.getElem?_cons_zero] at q0 q1
  have hA := Lib.hid (ha.out _ t0)
  have hO := Lib.hid (ho.out _ t0)
  clear ha ho
  generalize hR0 : runs [f, g, h] s = R at *
  have hR := Lib.hid hR0
  clear hR0
  go_enter Try.func22, Try.ntmps22
  go_wp2_with (fail)
  refine hA.out.mono ?_
  rintro e w1 ⟨rfl, rfl⟩
  go_wp2_with (fail)
  refine hO.out.mono ?_
  rintro e w2 ⟨rfl, c2⟩
  have t2 := t0.gr c2
  have d2 := c0.then c2
  have z0 := (c2.cell (p := ⟨w.heap.size, 0, none⟩) p0.lt (fun h => h)).trans q0
  have z1 := (c2.cell (p := ⟨w.heap.size + 1, 0, none⟩) p1.lt (fun h => h)).trans q1
  have hkk := Lib.hid (fun (wy : World) (d : Ch F w2 wy) => show wy.cell? ⟨w.heap.size, 0, none⟩ = some (.pointer (some ⟨T, 0, none⟩)) ∧ wy.cell? ⟨w.heap.size + 1, 0, none⟩ = some (.int .i64 at_) from
    ⟨(d.cell (p := ⟨w.heap.size, 0, none⟩) (p0.ch c2 (fun h => h)).lt n0).trans z0, (d.cell (p := ⟨w.heap.size + 1, 0, none⟩) (p1.ch c2 (fun h => h)).lt n1).trans z1⟩)
  clear p0 p1 q0 q1 hA hO c2
  go_wp2_with (fail)
  go_region_held3 (fun w' => w'.cell? ⟨w.heap.size, 0, none⟩ = some (.pointer (some ⟨T, 0, none⟩)) ∧ w'.cell? ⟨w.heap.size + 1, 0, none⟩ = some (.int .i64 at_)) (first | exact ⟨z0, z1⟩ | exact hkk.out _ e5 | exact hkk.out _ e4.gr | exact hkk.out _ e4.gr.drew | exact hkk.out _ (e4.gr.alloc _) | exact hkk.out _ (e4.gr.drew.alloc _) | exact hkk.out _ e3.gr | exact hkk.out _ e3.gr.drew | exact hkk.out _ (e3.gr.alloc _) | exact hkk.out _ (e3.gr.drew.alloc _) | exact hkk.out _ e2.gr | exact hkk.out _ e2.gr.drew | exact hkk.out _ (e2.gr.alloc _) | exact hkk.out _ (e2.gr.drew.alloc _)) (first | (go_at_call 47; have hd := do_three (t2.gr e4) (s3.ch (j4.then j5).gr) (s4.ch j5.gr) s5; rw [hR.out] at hd; refine hd.mono ?_; rintro e w6 ⟨rfl, t6, c6⟩; have e5 := (e4.gr (S := F)).then c6) | (go_at_call 52; refine (hp.out _ (by first | exact t2.gr e3 | exact (t2.gr e3).drew)).mono ?_; rintro e w5 ⟨g5, k5, rfl, s5', c5⟩; have s5 := s5'; have j5 : Ch (fun _ => False) w4 w5 := (by first | exact c5 | exact c5.undrew | exact c5.undrewN); have e4 := e3.then j5) | (go_at_call 50; refine (hw.out _ (by first | exact t2.gr e2 | exact (t2.gr e2).drew)).mono ?_; rintro e w4 ⟨g4, k4, rfl, s4', c4⟩; have s4 := s4'; have j4 : Ch (fun _ => False) w3 w4 := (by first | exact c4 | exact c4.undrew | exact c4.undrewN); have e3 := e2.then j4) | (go_at_call 51; refine (he.out _ (by first | exact t2 | exact t2.drew)).mono ?_; rintro e w3 ⟨g3, k3, rfl, s3', c3⟩; have s3 := s3'; have j3 : Ch (fun _ => False) w2 w3 := (by first | exact c3 | exact c3.undrew | exact c3.undrewN); have e2 := j3))
  all_goals (go_wp2; go_ret; exact ⟨rfl, by first | exact t6 | exact t6.drewN _, by first | exact d2.gr.then e5 | exact d2.gr.then (e5.drewN _)⟩)
set_option maxHeartbeats 1600000 in
set_option maxRecDepth 100000 in
theorem tputby_open {w : World} {F : Nat → Prop} {T N L : Nat} {s : St} (hx : Tx w F T N L s) (at_ v : Int) (f g : St → St × Int)
    (ha : Hid (∀ w1 : World, Tx w1 F T N L s → Calls Try.prog 54 #[.pointer (some ⟨T, 0, none⟩), .int .i64 at_] w1 fun e w' => e = .returned (.int .i64 0) ∧ w1 = w'))
    (ho : Hid (∀ w1 : World, Tx w1 F T N L s → Calls Try.prog 46 #[.pointer (some ⟨T, 0, none⟩)] w1 fun e w' => e = .returned (.bool true) ∧ Ch (fun _ => False) w1 w'))
    (hk : Hid (∀ (w1 : World) (s1 : St), Tx w1 F T N L s1 → Calls Try.prog 49 #[.pointer (some ⟨T, 0, none⟩), .int .i64 (wrap64 (at_.tdiv 2))] w1 (Does w1 F T N L (f s1))))
    (hw : Hid (∀ w1 : World, Tx w1 F T N L s → Calls Try.prog 52 #[.pointer (some ⟨T, 0, none⟩), .int .i64 at_, .int .u8 v] w1 (GivesStp w1 F T N L g))) :
    Calls Try.prog 39 #[.pointer (some ⟨T, 0, none⟩), .int .i64 at_, .int .u8 v] w (Does w F T N L (runs [f, g] s)) := by
  have hmf := hmf
  obtain ⟨t0, p0, p1, c0⟩ := boxes hx at_
  have n0 : ¬ F w.heap.size := lt_of_F hx (Nat.le_refl _)
  have n1 : ¬ F (w.heap.size + 1) := lt_of_F hx (by omega)
  have q0 := p0.cell 0
  have q1 := p1.cell 0
  simp only [List.getElem?_toArray, List.getElem?_cons_zero] at q0 q1
  have hA := Lib.hid (ha.out _ t0)
  have hO := Lib.hid (ho.out _ t0)
  clear ha ho
  generalize hR : runs [f, g] s = R at *
  go_enter Try.func39, Try.ntmps39
  go_wp2_with (fail)
  refine hA.out.mono ?_
  rintro e w1 ⟨rfl, rfl⟩
  go_wp2_with (fail)
  refine hO.out.mono ?_
  rintro e w2 ⟨rfl, c2⟩
  have t2 := t0.gr c2
  have d2 := c0.then c2
  have q0' := (c2.cell (p := ⟨w.heap.size, 0, none⟩) p0.lt (fun h => h)).trans q0
  have q1' := (c2.cell (p := ⟨w.heap.size + 1, 0, none⟩) p1.lt (fun h => h)).trans q1
  have hs1 : Stp w2 F T N L f (.func (.func 61) #[] #[.pointer (some ⟨w.heap.size, 0, none⟩), .pointer (some ⟨w.heap.size + 1, 0, none⟩)]) :=
    ⟨fun k => k = w.heap.size ∨ k = w.heap.size + 1, _, _, rfl, fun k hk => ⟨by have := (p1.ch c2 (fun h => h)).lt; omega, by rcases hk with rfl | rfl; exact n0; exact n1, by rcases hk with rfl | rfl; exact Blk.not_steps (p0.ch c2 (fun h => h)) (by decide); exact Blk.not_steps (p1.ch c2 (fun h => h)) (by decide)⟩, enters61 _, fun w3 s3 c3 t3 => putby1_any t3 ⟨(c3 _ (Or.inl rfl)).trans (p0.ch c2 (fun h => h)).heap⟩ ⟨(c3 _ (Or.inr rfl)).trans (p1.ch c2 (fun h => h)).heap⟩ _ (Lib.hid (hk.out w3 s3 t3))⟩
  have HS1 := Lib.hid hs1
  clear hs1 p0 p1 q0 q1 hk
  go_wp2_with (fail)
  refine (hw.out _ t2).mono ?_
  rintro e w3 ⟨G, C, rfl, hs2, c3⟩
  have t3 := t2.gr c3
  have d3 := d2.then c3
  have HD := do_two t3 (HS1.out.ch c3.gr) hs2
  rw [hR] at HD
  have HD' := Lib.hid HD
  clear HD HS1 hs2
  go_wp2_with (fail)
  refine HD'.out.mono ?_
  rintro e w4 ⟨rfl, t4, c4⟩
  go_wp2_with (fail)
  go_ret
  exact ⟨rfl, t4, d3.gr.then c4⟩
set_option maxHeartbeats 1600000 in
set_option maxRecDepth 100000 in
theorem tputby_shut {w : World} {F : Nat → Prop} {T N L : Nat} {s : St} (hx : Tx w F T N L s) (at_ v : Int) (g : St → St × Int)
    (ha : Hid (∀ w1 : World, Tx w1 F T N L s → Calls Try.prog 54 #[.pointer (some ⟨T, 0, none⟩), .int .i64 at_] w1 fun e w' => e = .returned (.int .i64 0) ∧ w1 = w'))
    (ho : Hid (∀ w1 : World, Tx w1 F T N L s → Calls Try.prog 46 #[.pointer (some ⟨T, 0, none⟩)] w1 fun e w' => e = .returned (.bool false) ∧ Ch (fun _ => False) w1 w'))
    (hw : Hid (∀ w1 : World, Tx w1 F T N L s → Calls Try.prog 52 #[.pointer (some ⟨T, 0, none⟩), .int .i64 at_, .int .u8 v] w1 (GivesStp w1 F T N L g))) :
    Calls Try.prog 39 #[.pointer (some ⟨T, 0, none⟩), .int .i64 at_, .int .u8 v] w (Does w F T N L (g s)) := by
  obtain ⟨t0, p0, p1, c0⟩ := boxes hx at_
  have n0 : ¬ F w.heap.size := lt_of_F hx (Nat.le_refl _)
  have n1 : ¬ F (w.heap.size + 1) := lt_of_F hx (by omega)
  have q0 := p0.cell 0
  have q1 := p1.cell 0
  simp only [List.getElem?_toArray, List.getElem?_cons_zero] at q0 q1
  have hA := Lib.hid (ha.out _ t0)
  have hO := Lib.hid (ho.out _ t0)
  clear ha ho
  go_enter Try.func39, Try.ntmps39
  go_wp2_with (fail)
  refine hA.out.mono ?_
  rintro e w1 ⟨rfl, rfl⟩
  go_wp2_with (fail)
  refine hO.out.mono ?_
  rintro e w2 ⟨rfl, c2⟩
  have t2 := t0.gr c2
  have d2 := c0.then c2
  have q0' := (c2.cell (p := ⟨w.heap.size, 0, none⟩) p0.lt (fun h => h)).trans q0
  have q1' := (c2.cell (p := ⟨w.heap.size + 1, 0, none⟩) p1.lt (fun h => h)).trans q1
  clear p0 p1 q0 q1
  go_wp2_with (fail)
  refine (hw.out _ t2).mono ?_
  rintro e w3 ⟨G, C, rfl, hs2, c3⟩
  have t3 := t2.gr c3
  have d3 := d2.then c3
  obtain ⟨hin, hcall⟩ := hs2.call
  have HC := Lib.hid (hcall w3 s (Ch.refl _ _) t3)
  clear hcall hs2
  generalize g s = R at *
  go_wp2_with (fail)
  refine HC.out.mono ?_
  rintro e w4 ⟨rfl, t4, c4⟩
  go_wp2_with (fail)
  go_ret
  exact ⟨rfl, t4, d3.gr.then c4⟩
end Go.Proofs.Ytjeaidmmhplglaa.Nvm
