/- The walks of heap: its small functions. -/
import Derived.Test.YtjeaidmmhplglaaHeapM
set_option linter.unusedVariables false
set_option linter.unusedSimpArgs false
namespace Go.Proofs.Ytjeaidmmhplglaa.Nvm
open Go.RowKit Go.Proofs.Ytjeaidmmhplglaa.Base
/-- The heap at block H: over the transactions at T, the memory at N, the ram at R. -/
structure Hx (w : World) (F : Nat → Prop) (H T N R L : Nat) (s : St) (m : List Int) : Prop where
  h : Blk w H #[.pointer (some ⟨T, 0, none⟩), .pointer (some ⟨R, 0, none⟩)] 33
  t : Tx w F T N L s
  r : Blk w R (Ram.cp true m) 31
  ml : m.length = 1024
  mb : By m
  fh : ¬ F H
  fr : ¬ F R
theorem Hx.rh {w : World} {F : Nat → Prop} {H T N R L : Nat} {s : St} {m : List Int} (h : Hx w F H T N R L s m) : R ≠ H := Ne.symm (h.h.uniq h.r (by simp [Ram.cp, h.ml]))
theorem Hx.rt {w : World} {F : Nat → Prop} {H T N R L : Nat} {s : St} {m : List Int} (h : Hx w F H T N R L s m) : R ≠ T := Ne.symm (h.t.t.uniq h.r (by simp [Ram.cp, h.ml]))
theorem Hx.ht {w : World} {F : Nat → Prop} {H T N R L : Nat} {s : St} {m : List Int} (h : Hx w F H T N R L s m) : H ≠ T := h.h.uniq h.t.t (by simp)
/-- The blocks of the heap. -/
def Hb (F : Nat → Prop) (H T R : Nat) (k : Nat) : Prop := F k ∨ k = H ∨ k = T ∨ k = R
theorem Hx.ch {w w' : World} {F S : Nat → Prop} {H T N R L : Nat} {s : St} {m : List Int} (h : Hx w F H T N R L s m) (c : Ch S w w') (hs : ∀ k, Hb F H T R k → ¬ S k) : Hx w' F H T N R L s m :=
  ⟨h.h.ch c (hs _ (Or.inr (Or.inl rfl))), h.t.ch c (fun k hk => hs k (Or.inl hk)) (hs _ (Or.inr (Or.inr (Or.inl rfl)))), h.r.ch c (hs _ (Or.inr (Or.inr (Or.inr rfl)))), h.ml, h.mb, h.fh, h.fr⟩
theorem Hx.gr {w w' : World} {F : Nat → Prop} {H T N R L : Nat} {s : St} {m : List Int} (h : Hx w F H T N R L s m) (c : Ch (fun _ => False) w w') : Hx w' F H T N R L s m := h.ch c (fun _ _ h => h)
theorem Hx.c0 {w : World} {F : Nat → Prop} {H T N R L : Nat} {s : St} {m : List Int} (h : Hx w F H T N R L s m) : w.cell? ⟨H, 0, none⟩ = some (.pointer (some ⟨T, 0, none⟩)) := h.h.cell 0
theorem Hx.c1 {w : World} {F : Nat → Prop} {H T N R L : Nat} {s : St} {m : List Int} (h : Hx w F H T N R L s m) : w.cell? ⟨H, 1, none⟩ = some (.pointer (some ⟨R, 0, none⟩)) := h.h.cell 1
theorem Hx.ok {w : World} {F : Nat → Prop} {H T N R L : Nat} {s : St} {m : List Int} (h : Hx w F H T N R L s m) : Ok s := h.t.ok
theorem Hx.lt {w : World} {F : Nat → Prop} {H T N R L : Nat} {s : St} {m : List Int} (h : Hx w F H T N R L s m) : ∀ k, Hb F H T R k → k < w.heap.size := fun k hk => by
  rcases hk with hk | rfl | rfl | rfl
  · exact h.t.n.fb k hk
  · exact h.h.lt
  · exact h.t.t.lt
  · exact h.r.lt
set_option maxHeartbeats 400000 in
set_option maxRecDepth 100000 in
theorem hoff_some (w : World) (H T : Nat) (c0 : w.cell? ⟨H, 0, none⟩ = some (.pointer (some ⟨T, 0, none⟩))) :
    Calls Try.prog 24 #[.pointer (some ⟨H, 0, none⟩)] w fun e w' => e = .returned (.bool false) ∧ w = w' := by
  go_enter Try.func24, Try.ntmps24
  go_wp2
  go_ret
  exact ⟨rfl, rfl⟩
set_option maxHeartbeats 400000 in
set_option maxRecDepth 100000 in
theorem hword_core (w : World) (H T : Nat) (at_ v r : Int) (v0 : 0 ≤ v) (v1 : v ≤ 65535) (c0 : w.cell? ⟨H, 0, none⟩ = some (.pointer (some ⟨T, 0, none⟩)))
    (ha : Hid (Calls Try.prog 21 #[.pointer (some ⟨T, 0, none⟩), .int .i64 at_] w fun e w' => e = .returned (.tuple #[.int .u16 v, .int .i64 r]) ∧ Ch (fun _ => False) w w')) :
    Calls Try.prog 27 #[.pointer (some ⟨H, 0, none⟩), .int .i64 at_] w fun e w' => e = .returned (.int .i64 v) ∧ Ch (fun _ => False) w w' := by
  go_enter Try.func27, Try.ntmps27
  go_wp2_with (go_at_call 21; refine ha.out.mono ?_; rintro e w' ⟨rfl, c1⟩)
  go_ret
  exact ⟨rfl, c1⟩
theorem hword_any {w : World} {F : Nat → Prop} {H T N R L : Nat} {s : St} {m : List Int} (h : Hx w F H T N R L s m) (at_ : Int) :
    Calls Try.prog 27 #[.pointer (some ⟨H, 0, none⟩), .int .i64 at_] w fun e w' => e = .returned (.int .i64 (hw s at_)) ∧ Ch (fun _ => False) w w' := by
  have hb := hw_b h.ok at_
  exact hword_core w H T at_ _ _ hb.1 hb.2 h.c0 (word_tx h.t at_)
set_option maxHeartbeats 400000 in
set_option maxRecDepth 100000 in
theorem halive_core (w : World) (H T : Nat) (v r : Int) (c0 : w.cell? ⟨H, 0, none⟩ = some (.pointer (some ⟨T, 0, none⟩)))
    (ha : Hid (Calls Try.prog 21 #[.pointer (some ⟨T, 0, none⟩), .int .i64 256] w fun e w' => e = .returned (.tuple #[.int .u16 v, .int .i64 r]) ∧ Ch (fun _ => False) w w')) :
    Calls Try.prog 26 #[.pointer (some ⟨H, 0, none⟩)] w fun e w' => e = .returned (.int .i64 r) ∧ Ch (fun _ => False) w w' := by
  go_enter Try.func26, Try.ntmps26
  go_wp2_with (first | (go_at_call 24; refine (hoff_some _ _ _ c0).mono ?_; rintro e w' ⟨rfl, rfl⟩) | (go_at_call 21; refine ha.out.mono ?_; rintro e w' ⟨rfl, c1⟩))
  go_ret
  exact ⟨rfl, c1⟩
theorem tword_pow {s : St} (h : Ok s) : (tword s 256).2 = s.pow := by
  have h0 := h.len0
  unfold tword task
  rw [if_neg (c := (256 : Int) < 256) (by omega), if_neg (c := (s.l.length : Int) / 2 ≤ 256) (by omega)]
  split
  · rename_i hp; exact hp.symm
  · rfl
theorem halive_any {w : World} {F : Nat → Prop} {H T N R L : Nat} {s : St} {m : List Int} (h : Hx w F H T N R L s m) :
    Calls Try.prog 26 #[.pointer (some ⟨H, 0, none⟩)] w fun e w' => e = .returned (.int .i64 s.pow) ∧ Ch (fun _ => False) w w' := by
  rw [← tword_pow h.ok]
  exact halive_core w H T _ _ h.c0 (word_tx h.t 256)
set_option maxHeartbeats 400000 in
set_option maxRecDepth 100000 in
theorem hkind_any (w : World) (x : Hd) :
    Calls Try.prog 28 #[enc x] w fun e w' => e = .returned (.int .i64 (ksz x.kind)) ∧ Ch (fun _ => False) w w' := by
  obtain ⟨k, c, el, o, f, n⟩ := x
  unfold enc ksz
  dsimp only
  by_cases h5 : k = 5
  · subst h5
    go_enter Try.func28, Try.ntmps28
    go_wp2
    go_ret
    exact ⟨rfl, (Ch.refl _ w).alloc _⟩
  · by_cases h6 : k = 6
    · subst h6
      go_enter Try.func28, Try.ntmps28
      go_wp2
      go_ret
      exact ⟨rfl, (Ch.refl _ w).alloc _⟩
    · have b5 : (k == 5) = false := beq_eq_false_iff_ne.2 h5
      have b6 : (k == 6) = false := beq_eq_false_iff_ne.2 h6
      rw [if_neg (by omega)]
      go_enter Try.func28, Try.ntmps28
      go_wp2
      go_ret
      exact ⟨rfl, (Ch.refl _ w).alloc _⟩
end Go.Proofs.Ytjeaidmmhplglaa.Nvm
