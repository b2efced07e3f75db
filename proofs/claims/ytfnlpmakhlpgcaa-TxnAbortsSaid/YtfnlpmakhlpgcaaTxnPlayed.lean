/- The walks of begun, same, played: both stand in one state. -/
import Derived.Test.YtfnlpmakhlpgcaaTxnActs
namespace Go.Proofs.Ytfnlpmakhlpgcaa.Nvm
open Go.RowKit Go.Proofs.Ytfnlpmakhlpgcaa.Base
set_option maxHeartbeats 4000000 in
set_option maxRecDepth 100000 in
theorem begun_any (w : World) : Calls Try.prog 47 #[] w fun e w' => ∃ F G P T Q N M, e = .returned (.tuple #[.pointer (some ⟨P, 0, none⟩), .bool true]) ∧ Tw w F G P T Q N M (fresh 4096) w' := by
  have H1 := Lib.hid (new_ok w 4096 (by omega) (by omega) (by omega))
  have H2 := Lib.hid (fun wx : World => rnew_ok wx 4096 (by omega) (by omega) (by omega))
  have hlen : (fresh 4096).l.length = 4096 := by simp [fresh]
  generalize fresh 4096 = s0 at *
  have HL := Lib.hid hlen
  clear hlen
  go_enter Try.func47, Try.ntmps47
  go_wp2_with fail
  refine H1.out.mono ?_
  rintro e w1 ⟨F, N, rfl, p1, l1, c1⟩
  go_wp2_with fail
  refine (newt_tx p1).mono ?_
  rintro e w2 ⟨rfl, t2, c2⟩
  rw [HL.out] at t2
  generalize w1.heap.size = T at *
  go_wp2_with fail
  refine (H2.out w2).mono ?_
  rintro e w3 ⟨G, M, rfl, p3, l3, c3⟩
  go_wp2_with fail
  go_ret2
  have t3 := t2.gr c3
  have d3 : Ch (fun _ => False) w w3 := (c1.then c2).then c3
  have hq := Blk.new w3 #[.pointer (some ⟨M, 0, none⟩)] 77
  have hp := Blk.new (w3.alloc (.cells #[.pointer (some ⟨M, 0, none⟩)] 77)) #[.pointer (some ⟨T, 0, none⟩), .pointer (some ⟨w3.heap.size, 0, none⟩)] 52
  have k4 : Ch (fun _ => False) w3 ((w3.alloc (.cells #[.pointer (some ⟨M, 0, none⟩)] 77)).alloc (.cells #[.pointer (some ⟨T, 0, none⟩), .pointer (some ⟨w3.heap.size, 0, none⟩)] 52)) := ((Ch.refl _ _).alloc _).alloc _
  rw [show (w3.alloc (.cells #[.pointer (some ⟨M, 0, none⟩)] 77)).heap.size = w3.heap.size + 1 from by simp] at hp
  refine ⟨F, G, w3.heap.size + 1, T, w3.heap.size, N, M, rfl, hp, t3.gr k4, ⟨hq.alloc _, p3.ch k4 (fun _ _ h => h), fun h => by have := p3.fb _ h; omega, HL.out⟩, ?_, ?_, ?_, ?_, ?_, l1, ?_, d3.then k4⟩
  · intro k hk hg
    have := t2.n.fb k hk
    have := l3 k hg
    omega
  · intro hg
    have := l3 _ hg
    have := t2.t.lt
    omega
  · intro hf
    have := t3.n.fb _ hf
    omega
  · intro hf
    have := t3.n.fb _ hf
    omega
  · intro hf
    have := p3.fb _ hf
    omega
  · intro k hk
    have := l3 k hk
    have := (c1.then c2).size
    omega
theorem same_blk {w : World} {B E n c d : Nat} {l : List Int} (hB : Blk w B (cr l) 5) (hE : Blk w E (cr l) 5) (hl : l.length = n) (hn : n ≤ 1000000) :
    Calls Try.prog 27 #[.slice (some ⟨B, 0, none⟩) n c, .slice (some ⟨E, 0, none⟩) n d] w fun e w' => e = .returned (.bool true) ∧ Ch (fun _ => False) w w' := by
  refine (same_ok w B E n c d 0 0 (fun j => l.getD j 0) hn (fun j hj => ?_) (fun j hj => ?_)).mono ?_
  · rw [Nat.zero_add, hB.cell]; exact cr_get _ _ (by omega)
  · rw [Nat.zero_add, hE.cell]; exact cr_get _ _ (by omega)
  · rintro e w' ⟨rfl, m, rfl⟩
    exact ⟨rfl, (Ch.refl _ _).drewN m⟩
theorem bytes_blk {w : World} {F : Nat → Prop} {T N L : Nat} {s : St} (h : Tx w F T N L s) :
    Calls Try.prog 52 #[.pointer (some ⟨N, 0, none⟩)] w fun e w' => ∃ B, e = .returned (.slice (some ⟨B, 0, none⟩) L L) ∧ w.heap.size ≤ B ∧ Blk w' B (cr s.l) 5 ∧ Ch (fun _ => False) w w' := by
  refine (bytes_any h.n).mono ?_
  rintro e w' ⟨rfl, rfl⟩
  exact ⟨_, by rw [h.len], Nat.le_refl _, Blk.new _ _ _, (Ch.refl _ _).alloc _⟩
theorem Rx.hdr {w : World} {F : Nat → Prop} {T N L : Nat} {s : St} (h : Rx w F T N L s) : ∃ E, Blk w E (cr s.l) 5 ∧ w.cell? ⟨N, 0, none⟩ = some (.slice (some ⟨E, 0, none⟩) L L) := by
  obtain ⟨D, r⟩ := h.n
  have := r.n.cell 0
  rw [h.len] at this
  exact ⟨D, r.d, this⟩
theorem Tw.heads {w : World} {F G : Nat → Prop} {P T Q N M : Nat} {s : St} {w0 : World} (h : Tw w F G P T Q N M s w0) :
    w0.cell? ⟨P, 0, none⟩ = some (.pointer (some ⟨T, 0, none⟩)) ∧ w0.cell? ⟨P, 1, none⟩ = some (.pointer (some ⟨Q, 0, none⟩)) ∧ w0.cell? ⟨Q, 0, none⟩ = some (.pointer (some ⟨M, 0, none⟩)) :=
  ⟨h.p.cell 0, h.p.cell 1, h.r.t.cell 0⟩
set_option maxHeartbeats 8000000 in
set_option maxRecDepth 100000 in
theorem same_any {w w0 : World} {F G : Nat → Prop} {P T Q N M : Nat} {s : St} (h : Tw w F G P T Q N M s w0) :
    Calls Try.prog 49 #[.pointer (some ⟨P, 0, none⟩)] w0 fun e w' => e = .returned (.bool true) ∧ Ch (fun _ => False) w0 w' := by
  obtain ⟨E, hE, hM⟩ := h.r.hdr
  have hk := Lib.hid (fun (wy : World) (c : Ch (fun _ => False) w0 wy) => show wy.cell? ⟨P, 0, none⟩ = some (.pointer (some ⟨T, 0, none⟩)) ∧ wy.cell? ⟨P, 1, none⟩ = some (.pointer (some ⟨Q, 0, none⟩)) ∧ wy.cell? ⟨Q, 0, none⟩ = some (.pointer (some ⟨M, 0, none⟩)) ∧ wy.cell? ⟨M, 0, none⟩ = some (.slice (some ⟨E, 0, none⟩) 4096 4096) from
    have k := (h.gr c).heads
    ⟨k.1, k.2.1, k.2.2, (c.cell (p := ⟨M, 0, none⟩) (World.lt_of_cell hM) (fun h => h)).trans hM⟩)
  have B1 := Lib.hid (fun (wx : World) (c : Ch (fun _ => False) w0 wx) => nvm_core wx T N (h.gr c).t.c0)
  have B2 := Lib.hid (fun (wx : World) (c : Ch (fun _ => False) w0 wx) => bytes_blk (h.gr c).t)
  have hl := h.t.len
  have B3 := Lib.hid (fun (wx : World) (B : Nat) (c : Ch (fun _ => False) w0 wx) (hB : Blk wx B (cr s.l) 5) => same_blk (c := 4096) (d := 4096) hB (hE.ch c (fun h => h)) hl (by omega))
  have B4 := Lib.hid (fun (wx : World) (c : Ch (fun _ => False) w0 wx) => open_tx (h.gr c).t)
  have B5 := Lib.hid (fun (wx : World) (c : Ch (fun _ => False) w0 wx) => ropen_any (h.gr c).r)
  have B6 := Lib.hid (fun (wx : World) (c : Ch (fun _ => False) w0 wx) => room_tx (h.gr c).t)
  have B7 := Lib.hid (fun (wx : World) (c : Ch (fun _ => False) w0 wx) => rroom_any (h.gr c).r)
  obtain ⟨y0, y1, y2, y3⟩ := hk.out _ (Ch.refl _ _)
  have d0 : Ch (fun _ => False) w0 w0 := Ch.refl _ _
  clear hE hM hl h
  generalize hcr : cr s.l = cs at *
  generalize hop : s.opn = op at *
  generalize hro : 100 - cnt s.l = ro at *
  clear hcr hop hro
  go_enter Try.func49, Try.ntmps49
  go_wp2_with (fail)
  go_region_held3 (fun w' => w'.cell? ⟨P, 0, none⟩ = some (.pointer (some ⟨T, 0, none⟩)) ∧ w'.cell? ⟨P, 1, none⟩ = some (.pointer (some ⟨Q, 0, none⟩)) ∧ w'.cell? ⟨Q, 0, none⟩ = some (.pointer (some ⟨M, 0, none⟩)) ∧ w'.cell? ⟨M, 0, none⟩ = some (.slice (some ⟨E, 0, none⟩) 4096 4096)) (first | exact ⟨y0, y1, y2, y3⟩ | exact hk.out _ d6 | exact hk.out _ d4 | exact hk.out _ d3 | exact hk.out _ d2 | exact hk.out _ d4.drew | exact hk.out _ d3.drew | exact hk.out _ d2.drew) (first | (go_at_call 72; refine (B7.out _ (by first | exact d6 | exact d6.drew | exact d6.drewN _)).mono ?_; rintro e w7 ⟨rfl, rfl⟩) | (go_at_call 18; refine (B6.out _ (by first | exact d4 | exact d4.drew | exact d4.drewN _)).mono ?_; rintro e w6 ⟨rfl, c6⟩; have d6 := (by first | exact d4.then c6 | exact d4.drew.then c6 | exact (d4.drewN _).then c6 : Ch (fun _ => False) w0 w6)) | (go_at_call 71; refine (B5.out _ (by first | exact d4 | exact d4.drew | exact d4.drewN _)).mono ?_; rintro e w5 ⟨rfl, rfl⟩) | (go_at_call 17; refine (B4.out _ (by first | exact d3 | exact d3.drew | exact d3.drewN _)).mono ?_; rintro e w4 ⟨rfl, c4⟩; have d4 := (by first | exact d3.then c4 | exact d3.drew.then c4 | exact (d3.drewN _).then c4 : Ch (fun _ => False) w0 w4)) | (go_at_call 27; refine (B3.out _ _ (by first | exact d2 | exact d2.drew | exact d2.drewN _) (by first | exact b2 | exact b2.drew | exact b2.drewN _)).mono ?_; rintro e w3 ⟨rfl, c3⟩; have d3 := (by first | exact d2.then c3 | exact d2.drew.then c3 | exact (d2.drewN _).then c3 : Ch (fun _ => False) w0 w3)) | (go_at_call 52; refine (B2.out _ (by first | exact d0 | exact d0.drew | exact d0.drewN _)).mono ?_; rintro e w2 ⟨B, rfl, l2, b2, c2⟩; have d2 := (by first | exact d0.then c2 | exact d0.drew.then c2 | exact (d0.drewN _).then c2 : Ch (fun _ => False) w0 w2)) | (go_at_call 19; refine (B1.out _ (by first | exact d0 | exact d0.drew | exact d0.drewN _)).mono ?_; rintro e w1 ⟨rfl, rfl⟩))
  all_goals (go_wp2; go_ret; exact ⟨rfl, by first | exact d6 | exact d6.drewN _⟩)
end Go.Proofs.Ytfnlpmakhlpgcaa.Nvm
