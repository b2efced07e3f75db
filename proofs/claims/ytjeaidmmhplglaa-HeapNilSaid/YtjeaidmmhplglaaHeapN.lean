/- Both heaps, begun. -/
import Derived.Test.YtjeaidmmhplglaaHeapL
import Derived.Test.YtjeaidmmhplglaaTxnRefQ
import Derived.Test.YtjeaidmmhplglaaRamRef
set_option linter.unusedVariables false
set_option linter.unusedSimpArgs false
namespace Go.Proofs.Ytjeaidmmhplglaa.Nvm
open Go.RowKit Go.Proofs.Ytjeaidmmhplglaa.Base
/-- The reference's heap at block H. -/
structure Ry (w : World) (F : Nat → Prop) (H T N R L : Nat) (s : St) (m : List Int) : Prop where
  h : Blk w H #[.pointer (some ⟨T, 0, none⟩), .pointer (some ⟨R, 0, none⟩)] 125
  t : Rx w F T N L s
  r : Blk w R (cr m) 119
  ml : m.length = 1024
  mb : By m
  fh : ¬ F H
  fr : ¬ F R
set_option maxHeartbeats 1600000 in
set_option maxRecDepth 100000 in
theorem rhnew_core {w : World} {F : Nat → Prop} {T N R L : Nat} {s s1 s2 : St} {m : List Int} (ht : Rx w F T N L s) (hr : Blk w R (cr m) 119) (hl : m.length = 1024) (hb : By m) (fr : ¬ F R)
    (h0 : tword s 256 = (0, 0)) (h1 : tput s 256 512 = (s1, 0)) (h2 : tput s1 257 284 = (s2, 0)) :
    Calls Try.prog 63 #[.pointer (some ⟨T, 0, none⟩), .pointer (some ⟨R, 0, none⟩)] w fun e w' => ∃ H, e = .returned (.tuple #[.pointer (some ⟨H, 0, none⟩), .int .i64 0]) ∧ w.heap.size ≤ H ∧ H < w'.heap.size ∧ Ry w' F H T N R L s2 m ∧ Ch F w w' := by
  have hw := fun (wx : World) (hx : Rx wx F T N L s) => rtword_tx hx 256
  have hp := fun (wx : World) (hx : Rx wx F T N L s) => trput_tx hx 256 512 (by omega) (by omega)
  have hp2 := fun (wx : World) (hx : Rx wx F T N L s1) => trput_tx hx 257 284 (by omega) (by omega)
  rw [h0] at hw
  rw [h1] at hp
  rw [h2] at hp2
  have HW := Lib.hid hw
  have HP := Lib.hid hp
  have HP2 := Lib.hid hp2
  have hfb := ht.n.fb
  clear hw hp hp2 h0 h1 h2
  go_enter Try.func63, Try.ntmps63
  go_wp2_with (first | (go_at_call 74; refine (HW.out _ ht).mono ?_; rintro e w2 ⟨rfl, c2⟩; have ht2 := ht.gr c2) | (go_at_call 75; refine (HP.out _ ht2).mono ?_; clear HP; rintro e w3 ⟨rfl, ht3, c3⟩) | (go_at_call 75; refine (HP2.out _ ht3).mono ?_; rintro e w4 ⟨rfl, ht4, c4⟩))
  have C : Ch F w w4 := (c2.gr.then c3).then c4
  have hh : Blk (w4.alloc (.cells #[.pointer (some ⟨T, 0, none⟩), .pointer (some ⟨R, 0, none⟩)] 125)) w4.heap.size #[.pointer (some ⟨T, 0, none⟩), .pointer (some ⟨R, 0, none⟩)] 125 := Blk.new _ _ _
  have ht5 := ht4.gr ((Ch.refl (fun _ => False) w4).alloc (.cells #[.pointer (some ⟨T, 0, none⟩), .pointer (some ⟨R, 0, none⟩)] 125))
  have hr5 := hr.ch (C.alloc (.cells #[.pointer (some ⟨T, 0, none⟩), .pointer (some ⟨R, 0, none⟩)] 125)) fr
  have hs := C.size
  refine bodyPost_ret (v := .tuple #[.pointer (some ⟨w4.heap.size, 0, none⟩), .int .i64 0]) (by simp [results, Try.results63, go_sem]) rfl ⟨_, rfl, hs, by simp, ⟨hh, ht5, hr5, hl, hb, fun hk => by have := hfb _ hk; omega, fr⟩, C.alloc _⟩
/-- Both heaps, the program's at block A of the pair, the reference's at B. -/
structure Both (w : World) (base : Nat) (P : Nat) (s t : St) (m r : List Int) (L : Nat) : Prop where
  ex : ∃ F H T N R G H' T' N' R', Hx w F H T N R L s m ∧ Ry w G H' T' N' R' L t r ∧ Blk w P #[.pointer (some ⟨H, 0, none⟩), .pointer (some ⟨H', 0, none⟩)] 95 ∧
    (∀ k, Hb F H T R k → base ≤ k) ∧ (∀ k, Hb G H' T' R' k → base ≤ k) ∧ (∀ k, Hb F H T R k → ¬ Hb G H' T' R' k) ∧ base ≤ P ∧ ¬ Hb F H T R P ∧ ¬ Hb G H' T' R' P
theorem hzs_len : Ram.zs.length = 1024 := by rw [Ram.zs, List.length_replicate]
set_option maxHeartbeats 4000000 in
set_option maxRecDepth 100000 in
theorem begun_ok (w : World) (n : Nat) (h0 : 4096 ≤ n) (h1 : n ≤ 65536) (h2 : n % 2 = 0) {s1 s2 : St} (e0 : tword (fresh n) 256 = (0, 0)) (e1 : tput (fresh n) 256 512 = (s1, 0)) (e2 : tput s1 257 284 = (s2, 0)) :
    Calls Try.prog 41 #[.int .i64 n] w fun e w' => ∃ P, e = .returned (.tuple #[.pointer (some ⟨P, 0, none⟩), .bool true]) ∧ Both w' w.heap.size P s2 s2 Ram.zs Ram.zs n ∧ Ch (fun _ => False) w w' := by
  have hlen : (fresh n).l.length = n := by simp [fresh]
  have HN := Lib.hid (new_ok w n h0 h1 h2)
  have HR := Lib.hid (fun wx => rnew_ok wx n h0 h1 h2)
  have HE0 := Lib.hid e0
  have HE1 := Lib.hid e1
  have HE2 := Lib.hid e2
  have HL := Lib.hid hlen
  have Hz := Lib.hid hzs_len
  clear h0 h1 h2 e0 e1 e2 hlen
  generalize fresh n = s0 at *
  generalize hzs : Ram.zs = zs at *
  go_enter Try.func41, Try.ntmps41
  go_wp2_with (fail)
  refine HN.out.mono ?_
  rintro e wa ⟨F, N, rfl, n0, lo, c0⟩
  have HT := Lib.hid (newt_tx n0)
  have HLO := Lib.hid lo
  clear HN n0 lo
  go_wp2_with (fail)
  refine HT.out.mono ?_
  rintro e wb ⟨rfl, t0, c1⟩
  rw [HL.out] at t0
  have HA := Lib.hid (Nat.lt_of_lt_of_le (by simp : wa.heap.size < wa.heap.size + 1) (show wa.heap.size + 1 ≤ wb.heap.size from t0.t.lt))
  have hTlt := t0.t.lt
  have c01 := c0.then c1
  have HS0 := Lib.hid (show w.heap.size ≤ wa.heap.size from c0.size)
  generalize wa.heap.size = T at *
  clear HT c0 c1
  go_wp2_with (fail)
  refine (Ram.new_calls wb).mono ?_
  rintro e wc ⟨rfl, rfl⟩
  rw [hzs]
  have r0 := Blk.new wb (Ram.cp true zs) 31
  have t1 := t0.gr ((Ch.refl _ wb).alloc (.cells (Ram.cp true zs) 31))
  have c2 := c01.alloc (.cells (Ram.cp true zs) 31)
  have hfr : ¬ F wb.heap.size := fun hk => Nat.lt_irrefl _ (t0.n.fb _ hk)
  have hRT : wb.heap.size ≠ T := by omega
  have HSb := Lib.hid (show w.heap.size ≤ wb.heap.size from c01.size)
  generalize wb.alloc (.cells (Ram.cp true zs) 31) = wc at *
  generalize wb.heap.size = R at *
  clear t0 c01
  have HH := Lib.hid (hnew_core t1 r0 Hz.out hfr hRT HE0.out HE1.out HE2.out)
  go_wp2_with (fail)
  refine HH.out.mono ?_
  rintro e wd ⟨H, rfl, hH, hb, t2, r2, c3⟩
  have c4 : Ch (fun _ => False) w wd := c2.trans (T := F) c3 (fun _ h => h) (fun k hk => Or.inr (HLO.out k hk))
  have HSH := Lib.hid (show w.heap.size ≤ H from Nat.le_trans c2.size hH)
  have hx : Hx wd F H T N R n s2 zs := ⟨hb, t2, r2, Hz.out, hzs ▸ Ram.By.zs, fun hk => by have := t1.n.fb _ hk; omega, hfr⟩
  clear HH t1 r0 c2 c3 hb t2 r2 hH
  go_wp2_with (fail)
  refine (HR.out _).mono ?_
  rintro e we ⟨G, N', rfl, n1, lo', c5⟩
  have hx2 := hx.gr c5
  have HLO' := Lib.hid lo'
  have hsz := Lib.hid (hx.lt)
  clear HR hx lo'
  have hnb := Lib.hid n1.fb
  have hwe := Lib.hid (show wd.heap.size ≤ we.heap.size from c5.size)
  have hzc : Try.zeroCells119 = cr zs := by rw [← hzs]; kernel_rfl
  have HZC := Lib.hid hzc
  clear hzc
  go_wp2_with (fail)
  rw [HZC.out]
  have c6 : Ch (fun _ => False) we ((we.alloc (.cells #[.pointer (some ⟨N', 0, none⟩)] 116)).alloc (.cells (cr zs) 119)) := ((Ch.refl _ we).alloc _).alloc _
  have bt : Blk ((we.alloc (.cells #[.pointer (some ⟨N', 0, none⟩)] 116)).alloc (.cells (cr zs) 119)) we.heap.size #[.pointer (some ⟨N', 0, none⟩)] 116 := (Blk.new we _ _).alloc _
  have br : Blk ((we.alloc (.cells #[.pointer (some ⟨N', 0, none⟩)] 116)).alloc (.cells (cr zs) 119)) (we.heap.size + 1) (cr zs) 119 := by
    have := Blk.new (we.alloc (.cells #[.pointer (some ⟨N', 0, none⟩)] 116)) (cr zs) 119
    rwa [show (we.alloc (.cells #[.pointer (some ⟨N', 0, none⟩)] 116)).heap.size = we.heap.size + 1 from by simp] at this
  have hsz2 : ((we.alloc (.cells #[.pointer (some ⟨N', 0, none⟩)] 116)).alloc (.cells (cr zs) 119)).heap.size = we.heap.size + 2 := by simp
  have hx3 := hx2.gr c6
  have n2 := n1.ch c6 (fun _ _ h => h)
  have HS2 := Lib.hid hsz2
  have c56 := c5.then c6
  generalize (we.alloc (.cells #[.pointer (some ⟨N', 0, none⟩)] 116)).alloc (.cells (cr zs) 119) = wf at *
  generalize we.heap.size = T' at *
  clear c5 c6 hx2 n1 hsz2
  have rx : Rx wf G T' N' n s0 := ⟨bt, n2, fun hk => Nat.lt_irrefl _ (hnb.out _ hk), HL.out⟩
  have HH := Lib.hid (rhnew_core rx br Hz.out (hzs ▸ Ram.By.zs) (fun hk => by have := hnb.out _ hk; omega) HE0.out HE1.out HE2.out)
  clear bt br n2 rx
  go_wp2_with (fail)
  refine HH.out.mono ?_
  rintro e wg ⟨H', rfl, hH, hlt, hy, c7⟩
  have hx4 : Hx wg F H T N R n s2 zs := hx3.ch c7 (fun k hk hg => by have := hsz.out k hk; have := HLO'.out k hg; omega)
  have C : Ch (fun _ => False) w wg := (c4.then c56).trans (T := G) c7 (fun _ h => h) (fun k hk => Or.inr (by have := HLO'.out k hk; have := c4.size; omega))
  have hs4 := c4.size
  have hgs := c7.size
  have h2s := HS2.out
  clear HH c4 c56 c7 hx3
  go_wp2_with (fail)
  have hP := Blk.new wg #[.pointer (some ⟨H, 0, none⟩), .pointer (some ⟨H', 0, none⟩)] 95
  have hC : Ch (fun _ => False) wg (wg.alloc (.cells #[.pointer (some ⟨H, 0, none⟩), .pointer (some ⟨H', 0, none⟩)] 95)) := (Ch.refl _ wg).alloc _
  have hwe' := hwe.out
  have hl1 := hsz.out
  have hg1 : ∀ k, Hb G H' T' (T' + 1) k → wd.heap.size ≤ k ∧ k < wg.heap.size := fun k hk => by
    rcases hk with hk | rfl | rfl | rfl
    · exact ⟨HLO'.out k hk, by have := hnb.out k hk; omega⟩
    · exact ⟨by omega, by omega⟩
    · exact ⟨by omega, by omega⟩
    · exact ⟨by omega, by omega⟩
  refine bodyPost_ret (v := .tuple #[.pointer (some ⟨wg.heap.size, 0, none⟩), .bool true]) (by simp [results, Try.results41, go_sem]) rfl ⟨wg.heap.size, rfl, ⟨F, H, T, N, R, G, H', T', N', T' + 1, hx4.gr hC, ?_, hP, ?_, ?_, ?_, ?_, ?_, ?_⟩, C.alloc _⟩
  · exact ⟨hy.h.ch hC (fun h => h), hy.t.gr hC, hy.r.ch hC (fun h => h), hy.ml, hy.mb, hy.fh, hy.fr⟩
  · intro k hk
    rcases hk with hk | rfl | rfl | rfl
    · exact HLO.out k hk
    · exact HSH.out
    · exact HS0.out
    · exact HSb.out
  · exact fun k hk => Nat.le_trans hs4 (hg1 k hk).1
  · exact fun k hk hk2 => by have := hl1 k hk; have := (hg1 k hk2).1; omega
  · omega
  · exact fun hk => by have := hl1 _ hk; omega
  · exact fun hk => by have := (hg1 _ hk).2; omega
end Go.Proofs.Ytjeaidmmhplglaa.Nvm
