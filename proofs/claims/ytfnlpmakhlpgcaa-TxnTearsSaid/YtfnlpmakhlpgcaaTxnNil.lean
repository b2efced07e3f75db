/- What the statements' own works tells (txn), and the refusals, joined. -/
import Derived.Test.YtfnlpmakhlpgcaaTxnZero
namespace Go.Proofs.Ytfnlpmakhlpgcaa.Nvm
open Go.RowKit Go.Proofs.Ytfnlpmakhlpgcaa.Base
theorem wk_gen (s0 : St) (h : (tput s0 256 5).2 = 0 ∧ (tbegin (tput s0 256 5).1).2 = 0 ∧ (tput (tbegin (tput s0 256 5).1).1 256 6).2 = 0 ∧ (tput (tput (tbegin (tput s0 256 5).1).1 256 6).1 257 7).2 = 0 ∧ (tword (tput (tput (tbegin (tput s0 256 5).1).1 256 6).1 257 7).1 256).1 = 6 ∧ (tabort (tput (tput (tbegin (tput s0 256 5).1).1 256 6).1 257 7).1).2 = 0 ∧ (tword (tabort (tput (tput (tbegin (tput s0 256 5).1).1 256 6).1 257 7).1).1 256).1 = 5 ∧ (tword (tabort (tput (tput (tbegin (tput s0 256 5).1).1 256 6).1 257 7).1).1 257).1 = 0 ∧ (tput (tabort (tput (tput (tbegin (tput s0 256 5).1).1 256 6).1 257 7).1).1 255 1).2 = 2 ∧ (tcommit (tput (tabort (tput (tput (tbegin (tput s0 256 5).1).1 256 6).1 257 7).1).1 255 1).1).2 = 10) : ∃ (s1 s2 s3 s4 s5 s6 s7 : St) (x y z : Int), tput s0 256 5 = (s1, 0) ∧ tbegin s1 = (s2, 0) ∧ tput s2 256 6 = (s3, 0) ∧ tput s3 257 7 = (s4, 0) ∧ tword s4 256 = (6, x) ∧ tabort s4 = (s5, 0) ∧ tword s5 256 = (5, y) ∧ tword s5 257 = (0, z) ∧
    tput s5 255 1 = (s6, 2) ∧ tcommit s6 = (s7, 10) := by
  obtain ⟨h1, h2, h3, h4, h5, h6, h7, h8, h9, h10⟩ := h
  exact ⟨_, _, _, _, _, _, _, _, _, _, Prod.ext rfl h1, Prod.ext rfl h2, Prod.ext rfl h3, Prod.ext rfl h4, Prod.ext h5 rfl, Prod.ext rfl h6, Prod.ext h7 rfl, Prod.ext h8 rfl, Prod.ext rfl h9, Prod.ext rfl h10⟩
set_option maxRecDepth 100000 in
theorem wk_val : (tput (fresh 4096) 256 5).2 = 0 ∧ (tbegin (tput (fresh 4096) 256 5).1).2 = 0 ∧ (tput (tbegin (tput (fresh 4096) 256 5).1).1 256 6).2 = 0 ∧ (tput (tput (tbegin (tput (fresh 4096) 256 5).1).1 256 6).1 257 7).2 = 0 ∧ (tword (tput (tput (tbegin (tput (fresh 4096) 256 5).1).1 256 6).1 257 7).1 256).1 = 6 ∧ (tabort (tput (tput (tbegin (tput (fresh 4096) 256 5).1).1 256 6).1 257 7).1).2 = 0 ∧ (tword (tabort (tput (tput (tbegin (tput (fresh 4096) 256 5).1).1 256 6).1 257 7).1).1 256).1 = 5 ∧ (tword (tabort (tput (tput (tbegin (tput (fresh 4096) 256 5).1).1 256 6).1 257 7).1).1 257).1 = 0 ∧ (tput (tabort (tput (tput (tbegin (tput (fresh 4096) 256 5).1).1 256 6).1 257 7).1).1 255 1).2 = 2 ∧ (tcommit (tput (tabort (tput (tput (tbegin (tput (fresh 4096) 256 5).1).1 256 6).1 257 7).1).1 255 1).1).2 = 10 := by decide +kernel
theorem wk : ∃ (s1 s2 s3 s4 s5 s6 s7 : St) (x y z : Int), tput (fresh 4096) 256 5 = (s1, 0) ∧ tbegin s1 = (s2, 0) ∧ tput s2 256 6 = (s3, 0) ∧ tput s3 257 7 = (s4, 0) ∧ tword s4 256 = (6, x) ∧ tabort s4 = (s5, 0) ∧ tword s5 256 = (5, y) ∧ tword s5 257 = (0, z) ∧
    tput s5 255 1 = (s6, 2) ∧ tcommit s6 = (s7, 10) := wk_gen _ wk_val
set_option maxHeartbeats 4000000 in
set_option maxRecDepth 100000 in
theorem works_ok (w : World) : Calls Try.prog 20 #[] w fun e w' => e = .returned (.bool true) ∧ Ch (fun _ => False) w w' := by
  obtain ⟨s1, s2, s3, s4, s5, s6, s7, x, y, z, E1, E2, E3, E4, E5, E6, E7, E8, E9, E10⟩ := wk
  have H := Lib.hid (new_ok w 4096 (by omega) (by omega) (by omega))
  have L1 : (fresh 4096).l.length = 4096 := by simp [fresh]
  generalize fresh 4096 = s0 at *
  have F1 := Lib.hid E1
  have F2 := Lib.hid E2
  have F3 := Lib.hid E3
  have F4 := Lib.hid E4
  have F5 := Lib.hid E5
  have F6 := Lib.hid E6
  have F7 := Lib.hid E7
  have F8 := Lib.hid E8
  have F9 := Lib.hid E9
  have F10 := Lib.hid E10
  clear E1 E2 E3 E4 E5 E6 E7 E8 E9 E10
  go_enter Try.func20, Try.ntmps20
  go_wp2_with (fail)
  refine H.out.mono ?_
  rintro e wa ⟨F, N, rfl, n0, lo, c0⟩
  clear H
  have HN := Lib.hid (newt_tx n0)
  go_wp2_with (fail)
  refine HN.out.mono ?_
  rintro e wb ⟨rfl, t0, cb⟩
  rw [L1] at t0
  generalize wa.heap.size = T at *
  have d0 : Ch (fun k => w.heap.size ≤ k) w wb := (c0.gr (S := fun k => w.heap.size ≤ k)).then cb.gr
  have HL := Lib.hid lo
  clear HN n0 c0 cb L1 lo
  have K1 := tput_tx t0 256 5 (by omega) (by omega)
  rw [F1.out] at K1
  have J1 := Lib.hid K1
  clear K1 F1
  go_wp2_with (fail)
  refine J1.out.mono ?_
  rintro e w1 ⟨rfl, t1, c1⟩
  have d1 : Ch (fun k => w.heap.size ≤ k) w w1 := d0.then (c1.mono HL.out)
  clear J1 c1 d0 t0
  have K2 := tbegin_tx t1
  rw [F2.out] at K2
  have J2 := Lib.hid K2
  clear K2 F2
  go_wp2_with (fail)
  refine J2.out.mono ?_
  rintro e w2 ⟨rfl, t2, c2⟩
  have d2 : Ch (fun k => w.heap.size ≤ k) w w2 := d1.then (c2.mono HL.out)
  clear J2 c2 d1 t1
  have K3 := tput_tx t2 256 6 (by omega) (by omega)
  rw [F3.out] at K3
  have J3 := Lib.hid K3
  clear K3 F3
  go_wp2_with (fail)
  refine J3.out.mono ?_
  rintro e w3 ⟨rfl, t3, c3⟩
  have d3 : Ch (fun k => w.heap.size ≤ k) w w3 := d2.then (c3.mono HL.out)
  clear J3 c3 d2 t2
  have K4 := tput_tx t3 257 7 (by omega) (by omega)
  rw [F4.out] at K4
  have J4 := Lib.hid K4
  clear K4 F4
  go_wp2_with (fail)
  refine J4.out.mono ?_
  rintro e w4 ⟨rfl, t4, c4⟩
  have d4 : Ch (fun k => w.heap.size ≤ k) w w4 := d3.then (c4.mono HL.out)
  clear J4 c4 d3 t3
  have K5 := word_tx t4 256
  rw [F5.out] at K5
  have J5 := Lib.hid K5
  clear K5 F5
  go_wp2_with (fail)
  refine J5.out.mono ?_
  rintro e w5 ⟨rfl, c5⟩
  have t5 := t4.gr c5
  have d5 : Ch (fun k => w.heap.size ≤ k) w w5 := d4.then c5.gr
  clear J5 c5 d4 t4
  have K6 := tabort_tx t5
  rw [F6.out] at K6
  have J6 := Lib.hid K6
  clear K6 F6
  go_wp2_with (fail)
  refine J6.out.mono ?_
  rintro e w6 ⟨rfl, t6, c6⟩
  have d6 : Ch (fun k => w.heap.size ≤ k) w w6 := d5.then (c6.mono HL.out)
  clear J6 c6 d5 t5
  have K7 := word_tx t6 256
  rw [F7.out] at K7
  have J7 := Lib.hid K7
  clear K7 F7
  go_wp2_with (fail)
  refine J7.out.mono ?_
  rintro e w7 ⟨rfl, c7⟩
  have t7 := t6.gr c7
  have d7 : Ch (fun k => w.heap.size ≤ k) w w7 := d6.then c7.gr
  clear J7 c7 d6 t6
  have K8 := word_tx t7 257
  rw [F8.out] at K8
  have J8 := Lib.hid K8
  clear K8 F8
  go_wp2_with (fail)
  refine J8.out.mono ?_
  rintro e w8 ⟨rfl, c8⟩
  have t8 := t7.gr c8
  have d8 : Ch (fun k => w.heap.size ≤ k) w w8 := d7.then c8.gr
  clear J8 c8 d7 t7
  have K9 := tput_tx t8 255 1 (by omega) (by omega)
  rw [F9.out] at K9
  have J9 := Lib.hid K9
  clear K9 F9
  go_wp2_with (fail)
  refine J9.out.mono ?_
  rintro e w9 ⟨rfl, t9, c9⟩
  have d9 : Ch (fun k => w.heap.size ≤ k) w w9 := d8.then (c9.mono HL.out)
  clear J9 c9 d8 t8
  have K10 := tcommit_tx t9
  rw [F10.out] at K10
  have J10 := Lib.hid K10
  clear K10 F10
  go_wp2_with (fail)
  refine J10.out.mono ?_
  rintro e w10 ⟨rfl, t10, c10⟩
  have d10 : Ch (fun k => w.heap.size ≤ k) w w10 := d9.then (c10.mono HL.out)
  clear J10 c10 d9 t9
  go_wp2_with (fail)
  go_ret
  exact ⟨rfl, ⟨d10.os, d10.tape, d10.output, d10.size, fun k hk _ => d10.block k hk (by omega)⟩⟩
set_option maxHeartbeats 4000000 in
set_option maxRecDepth 100000 in
theorem nil_false (w : World) (at_ v : Int) (v0 : 0 ≤ v) (v1 : v ≤ 65535) : Calls Try.prog 3 #[.int .i64 at_, .int .u16 v, .bool false] w fun e w' => e = .returned (.bool true) ∧ Ch (fun _ => False) w w' := by
  have zn : Zn w none := Or.inl rfl
  have z0 : Zt w none := Or.inl rfl
  have d0 := Ch.refl (fun _ => False) w
  go_enter Try.func3, Try.ntmps3
  go_wp2_with (fail)
  refine (newt_zero zn).mono ?_
  rintro e wa ⟨rfl, rfl⟩
  go_wp2_with (fail)
  refine (word_zero z0 at_).mono ?_
  rintro e wb ⟨rfl, rfl⟩
  go_wp2_with (fail)
  refine (tbyte_zero z0 at_).mono ?_
  rintro e wc ⟨rfl, rfl⟩
  go_wp2_with (fail)
  refine (put_zero z0 at_ v).mono ?_
  rintro e w1 ⟨rfl, c1⟩
  have z1 := z0.gr c1
  have d1 := d0.then c1
  go_wp2_with (fail)
  refine (putb_zero z1 at_ _).mono ?_
  rintro e w2 ⟨rfl, c2⟩
  have z2 := z1.gr c2
  have d2 := d1.then c2
  go_wp2_with (fail)
  refine (raw_zero z2 at_ _).mono ?_
  rintro e w3 ⟨rfl, rfl⟩
  go_wp2_with (fail)
  refine (begin_zero z2).mono ?_
  rintro e w4 ⟨rfl, rfl⟩
  go_wp2_with (fail)
  refine (commit_zero z2).mono ?_
  rintro e w5 ⟨rfl, rfl⟩
  go_wp2_with (fail)
  refine (abort_zero z2).mono ?_
  rintro e w6 ⟨rfl, rfl⟩
  go_wp2_with (fail)
  refine (recover_zero z2).mono ?_
  rintro e w7 ⟨rfl, rfl⟩
  go_wp2_with (fail)
  refine (open_zero z2).mono ?_
  rintro e w8 ⟨rfl, rfl⟩
  go_wp2_with (fail)
  refine (room_zero z2).mono ?_
  rintro e w9 ⟨rfl, rfl⟩
  go_wp2_with (fail)
  refine (nvm_zero z2).mono ?_
  rintro e w10 ⟨rfl, rfl⟩
  go_wp2_with (fail)
  refine (works_ok _).mono ?_
  rintro e wz ⟨rfl, cz⟩
  go_wp2_with (fail)
  go_ret
  exact ⟨rfl, d2.then cz⟩
set_option maxHeartbeats 4000000 in
set_option maxRecDepth 100000 in
theorem nil_true (w : World) (at_ v : Int) (v0 : 0 ≤ v) (v1 : v ≤ 65535) : Calls Try.prog 3 #[.int .i64 at_, .int .u16 v, .bool true] w fun e w' => e = .returned (.bool true) ∧ Ch (fun _ => False) w w' := by
  have d0 : Ch (fun _ => False) w ((w.alloc (.cells #[.slice none 0 0, .pointer none, .bool false, .int .i64 0] 28)).alloc (.cells #[.pointer none] 30)) := ((Ch.refl _ _).alloc _).alloc _
  have zn : Zn ((w.alloc (.cells #[.slice none 0 0, .pointer none, .bool false, .int .i64 0] 28)).alloc (.cells #[.pointer none] 30)) (some ⟨w.heap.size, 0, none⟩) := Or.inr ⟨_, rfl, (Blk.new w _ _).alloc _⟩
  have z0 : Zt ((w.alloc (.cells #[.slice none 0 0, .pointer none, .bool false, .int .i64 0] 28)).alloc (.cells #[.pointer none] 30)) (some ⟨w.heap.size + 1, 0, none⟩) := by
    have := Blk.new (w.alloc (.cells #[.slice none 0 0, .pointer none, .bool false, .int .i64 0] 28)) #[.pointer none] 30
    rw [show (w.alloc (.cells #[.slice none 0 0, .pointer none, .bool false, .int .i64 0] 28)).heap.size = w.heap.size + 1 from by simp] at this
    exact Or.inr ⟨_, rfl, this⟩
  go_enter Try.func3, Try.ntmps3
  go_wp2_with (fail)
  refine (newt_zero zn).mono ?_
  rintro e wa ⟨rfl, rfl⟩
  go_wp2_with (fail)
  refine (word_zero z0 at_).mono ?_
  rintro e wb ⟨rfl, rfl⟩
  go_wp2_with (fail)
  refine (tbyte_zero z0 at_).mono ?_
  rintro e wc ⟨rfl, rfl⟩
  go_wp2_with (fail)
  refine (put_zero z0 at_ v).mono ?_
  rintro e w1 ⟨rfl, c1⟩
  have z1 := z0.gr c1
  have d1 := d0.then c1
  go_wp2_with (fail)
  refine (putb_zero z1 at_ _).mono ?_
  rintro e w2 ⟨rfl, c2⟩
  have z2 := z1.gr c2
  have d2 := d1.then c2
  go_wp2_with (fail)
  refine (raw_zero z2 at_ _).mono ?_
  rintro e w3 ⟨rfl, rfl⟩
  go_wp2_with (fail)
  refine (begin_zero z2).mono ?_
  rintro e w4 ⟨rfl, rfl⟩
  go_wp2_with (fail)
  refine (commit_zero z2).mono ?_
  rintro e w5 ⟨rfl, rfl⟩
  go_wp2_with (fail)
  refine (abort_zero z2).mono ?_
  rintro e w6 ⟨rfl, rfl⟩
  go_wp2_with (fail)
  refine (recover_zero z2).mono ?_
  rintro e w7 ⟨rfl, rfl⟩
  go_wp2_with (fail)
  refine (open_zero z2).mono ?_
  rintro e w8 ⟨rfl, rfl⟩
  go_wp2_with (fail)
  refine (room_zero z2).mono ?_
  rintro e w9 ⟨rfl, rfl⟩
  go_wp2_with (fail)
  refine (nvm_zero z2).mono ?_
  rintro e w10 ⟨rfl, rfl⟩
  go_wp2_with (fail)
  refine (works_ok _).mono ?_
  rintro e wz ⟨rfl, cz⟩
  go_wp2_with (fail)
  go_ret
  exact ⟨rfl, d2.then cz⟩
theorem nil_law (w : World) (at_ v : Int) (b : Bool) (v0 : 0 ≤ v) (v1 : v ≤ 65535) : Calls Try.prog 3 #[.int .i64 at_, .int .u16 v, .bool b] w fun e w' => e = .returned (.bool true) ∧ Below w.heap.size w w' := by
  cases b
  · exact (nil_false w at_ v v0 v1).mono (by rintro e w' ⟨rfl, c⟩; exact ⟨rfl, c.below (fun _ h => h.elim) (Nat.le_refl _)⟩)
  · exact (nil_true w at_ v v0 v1).mono (by rintro e w' ⟨rfl, c⟩; exact ⟨rfl, c.below (fun _ h => h.elim) (Nat.le_refl _)⟩)
end Go.Proofs.Ytfnlpmakhlpgcaa.Nvm
