/- The walks of heap: Room, New. -/
import Derived.Test.YtjeaidmmhplglaaHeapI
import Derived.Stop.RegionWithIn
set_option linter.unusedVariables false
set_option linter.unusedSimpArgs false
namespace Go.Proofs.Ytjeaidmmhplglaa.Nvm
open Go.RowKit Go.Proofs.Ytjeaidmmhplglaa.Base Go.Shelf
attribute [local go_sem] Oper.semAt_some
set_option maxHeartbeats 800000 in
set_option maxRecDepth 100000 in
theorem hroom_dark (w : World) (H : Nat) (ha : Hid (∀ w1, Ch (fun _ => False) w w1 → Calls Try.prog 26 #[.pointer (some ⟨H, 0, none⟩)] w1 fun e w' => e = .returned (.int .i64 13) ∧ Ch (fun _ => False) w1 w')) :
    Calls Try.prog 12 #[.pointer (some ⟨H, 0, none⟩)] w fun e w' => e = .returned (.tuple #[.int .i64 0, .int .i64 0, .int .i64 13]) ∧ Ch (fun _ => False) w w' := by
  go_enter Try.func12, Try.ntmps12
  go_wp2_with (go_at_call 26; refine (ha.out _ (Ch.refl _ _)).mono ?_; rintro e w' ⟨rfl, c1⟩)
  refine bodyPost_ret (v := .tuple #[.int .i64 0, .int .i64 0, .int .i64 13]) (by simp [results, Try.results12, go_sem]) rfl ⟨rfl, c1⟩
set_option maxHeartbeats 1600000 in
set_option maxRecDepth 100000 in
theorem hroom_live {w : World} {F : Nat → Prop} {H T N R L : Nat} {s : St} {m : List Int} (h : Hx w F H T N R L s m) (hd0 : s.dark = false) :
    Calls Try.prog 12 #[.pointer (some ⟨H, 0, none⟩)] w fun e w' => e = .returned (.tuple #[.int .i64 (max 0 ((L : Int) / 2 - hw s 256)), .int .i64 (max 0 (1024 - hw s 257)), .int .i64 0]) ∧ Ch (fun _ => False) w w' := by
  have hp0 : s.pow = 0 := by simp [St.pow, hd0]
  have ha := halive_any h
  rw [hp0] at ha
  have HA := Lib.hid ha
  have b6 := hw_b h.ok 256
  have b7 := hw_b h.ok 257
  have hl := h.t.len
  have hl1 := h.ok.len1
  have K := Lib.hid (fun (wy : World) (c : Ch (fun _ => False) w wy) => show wy.cell? ⟨H, 0, none⟩ = some (.pointer (some ⟨T, 0, none⟩)) from (h.gr c).c0)
  clear ha
  go_enter Try.func12, Try.ntmps12
  go_wp2_with (first | (go_at_call 26; refine HA.out.mono ?_; rintro e w1 ⟨rfl, c1⟩; have k0 := K.out _ c1) | (go_at_call 19; refine (nvm_core _ T N (h.gr c1).t.c0).mono ?_; rintro e w2 ⟨rfl, rfl⟩) | (go_at_call 23; refine (size_any (h.gr c1).t.n).mono ?_; rintro e w2 ⟨rfl, rfl⟩) | (go_at_call 27; refine (hword_any (h.gr c1) _).mono ?_; rintro e w2 ⟨rfl, c2⟩; replace c1 := c1.then c2))
  refine bodyPost_ret (v := .tuple #[.int .i64 (max 0 ((L : Int) / 2 - hw s 256)), .int .i64 (max 0 (1024 - hw s 257)), .int .i64 0]) (by simp [results, Try.results12, go_sem]) rfl ⟨rfl, c1⟩
theorem hroom_any {w : World} {F : Nat → Prop} {H T N R L : Nat} {s : St} {m : List Int} (h : Hx w F H T N R L s m) :
    Calls Try.prog 12 #[.pointer (some ⟨H, 0, none⟩)] w fun e w' => e = .returned (.tuple #[.int .i64 (hroom s).1, .int .i64 (hroom s).2.1, .int .i64 (hroom s).2.2]) ∧ Ch (fun _ => False) w w' := by
  unfold hroom
  by_cases hd : s.dark = true
  · rw [if_pos hd]
    have hp := fun w1 (c : Ch (fun _ => False) w w1) => halive_any (h.gr c)
    rw [show s.pow = 13 by simp [St.pow, hd]] at hp
    exact hroom_dark w H hp
  · rw [if_neg hd, h.t.len]
    exact hroom_live h (by simpa using hd)
set_option maxHeartbeats 1600000 in
set_option maxRecDepth 100000 in
theorem hnew_core {w : World} {F : Nat → Prop} {T N R L : Nat} {s s1 s2 : St} {m : List Int} (ht : Tx w F T N L s) (hr : Blk w R (Ram.cp true m) 31) (hl : m.length = 1024) (fr : ¬ F R) (rt : R ≠ T)
    (h0 : tword s 256 = (0, 0)) (h1 : tput s 256 512 = (s1, 0)) (h2 : tput s1 257 284 = (s2, 0)) :
    Calls Try.prog 4 #[.pointer (some ⟨T, 0, none⟩), .pointer (some ⟨R, 0, none⟩)] w fun e w' => ∃ H, e = .returned (.tuple #[.pointer (some ⟨H, 0, none⟩), .int .i64 0]) ∧ w.heap.size ≤ H ∧ Blk w' H #[.pointer (some ⟨T, 0, none⟩), .pointer (some ⟨R, 0, none⟩)] 33 ∧ Tx w' F T N L s2 ∧ Blk w' R (Ram.cp true m) 31 ∧ Ch F w w' := by
  have hw := fun (wx : World) (hx : Tx wx F T N L s) => word_tx hx 256
  have hp := fun (wx : World) (hx : Tx wx F T N L s) => tput_tx hx 256 512 (by omega) (by omega)
  have hp2 := fun (wx : World) (hx : Tx wx F T N L s1) => tput_tx hx 257 284 (by omega) (by omega)
  rw [h0] at hw
  rw [h1] at hp
  rw [h2] at hp2
  have HW := Lib.hid hw
  have HP := Lib.hid hp
  have HP2 := Lib.hid hp2
  clear hw hp hp2 h0 h1 h2
  have hby := Ram.bytes_ok w R m hr hl
  have c0 := ht.c0
  go_enter Try.func4, Try.ntmps4
  go_wp2_with (first | (go_at_call 19; refine (nvm_core _ T N c0).mono ?_; rintro e w1 ⟨rfl, rfl⟩) | (go_at_call 20; refine hby.mono ?_; rintro e w1 ⟨rfl, rfl⟩; have ht1 := ht.gr ((Ch.refl _ w).alloc (.cells (cr m) 29))) | (go_at_call 21; refine (HW.out _ ht1).mono ?_; rintro e w2 ⟨rfl, c2⟩; have ht2 := ht1.gr c2) | (go_at_call 22; refine (HP.out _ ht2).mono ?_; clear HP; rintro e w3 ⟨rfl, ht3, c3⟩) | (go_at_call 22; refine (HP2.out _ ht3).mono ?_; rintro e w4 ⟨rfl, ht4, c4⟩))
  have C : Ch F w w4 := ((((Ch.refl F w).alloc (.cells (cr m) 29)).then c2.gr).then c3).then c4
  have hh : Blk (w4.alloc (.cells #[.pointer (some ⟨T, 0, none⟩), .pointer (some ⟨R, 0, none⟩)] 33)) w4.heap.size #[.pointer (some ⟨T, 0, none⟩), .pointer (some ⟨R, 0, none⟩)] 33 := Blk.new _ _ _
  have ht5 := ht4.gr ((Ch.refl (fun _ => False) w4).alloc (.cells #[.pointer (some ⟨T, 0, none⟩), .pointer (some ⟨R, 0, none⟩)] 33))
  have hr5 := hr.ch (C.alloc (.cells #[.pointer (some ⟨T, 0, none⟩), .pointer (some ⟨R, 0, none⟩)] 33)) fr
  have hs := C.size
  refine bodyPost_ret (v := .tuple #[.pointer (some ⟨w4.heap.size, 0, none⟩), .int .i64 0]) (by simp [results, Try.results4, go_sem]) rfl ⟨_, rfl, hs, hh, ht5, hr5, C.alloc _⟩
end Go.Proofs.Ytjeaidmmhplglaa.Nvm
