/- The reference's txn: what it asks, and its writes. -/
import Derived.Test.YtjeaidmmhplglaaTxnAll
import Derived.Test.YtjeaidmmhplglaaNvmRef
set_option linter.unusedVariables false
set_option linter.unusedSimpArgs false
namespace Go.Proofs.Ytjeaidmmhplglaa.Nvm
open Go.RowKit Go.Proofs.Ytjeaidmmhplglaa.Base
/-- The reference's transactions at block T. -/
structure Rx (w : World) (F : Nat → Prop) (T N L : Nat) (s : St) : Prop where
  t : Blk w T #[.pointer (some ⟨N, 0, none⟩)] 116
  n : Rv w F N s
  ft : ¬ F T
  len : s.l.length = L
theorem Rx.ch {w w' : World} {F S : Nat → Prop} {T N L : Nat} {s : St} (h : Rx w F T N L s) (c : Ch S w w') (hs : ∀ k, F k → ¬ S k) (ht : ¬ S T) : Rx w' F T N L s := ⟨h.t.ch c ht, h.n.ch c hs, h.ft, h.len⟩
theorem Rx.gr {w w' : World} {F : Nat → Prop} {T N L : Nat} {s : St} (h : Rx w F T N L s) (c : Ch (fun _ => False) w w') : Rx w' F T N L s := h.ch c (fun _ _ h => h) (fun h => h)
theorem Rx.drew {w : World} {F : Nat → Prop} {T N L : Nat} {s : St} (h : Rx w F T N L s) : Rx w.drew F T N L s := h.gr (Ch.refl _ w).drew
theorem Rx.drewN {w : World} {F : Nat → Prop} {T N L : Nat} {s : St} (h : Rx w F T N L s) (m : Nat) : Rx (w.drewN m) F T N L s := h.gr ((Ch.refl _ w).drewN m)
theorem Rx.c0 {w : World} {F : Nat → Prop} {T N L : Nat} {s : St} (h : Rx w F T N L s) : w.cell? ⟨T, 0, none⟩ = some (.pointer (some ⟨N, 0, none⟩)) := h.t.cell 0
theorem Rx.ok {w : World} {F : Nat → Prop} {T N L : Nat} {s : St} (h : Rx w F T N L s) : Ok s := h.n.ok
theorem Rx.cells {w : World} {F : Nat → Prop} {T N L : Nat} {s : St} (h : Rx w F T N L s) : ∃ D, w.cell? ⟨N, 0, none⟩ = some (.slice (some ⟨D, 0, none⟩) L L) ∧ w.cell? ⟨N, 2, none⟩ = some (.bool s.dark) ∧ ∀ k, k < L → w.cell? ⟨D, k, none⟩ = some (.int .u8 (s.l.getD k 0)) := by
  obtain ⟨D, r⟩ := h.n
  have hl := h.len
  refine ⟨D, ?_, r.n.cell 2, fun k hk => (r.d.cell k).trans (cr_get _ _ (by omega))⟩
  have := r.n.cell 0
  rw [hl] at this
  exact this
def Rds (w : World) (F : Nat → Prop) (T N L : Nat) (p : St × Int) (e : Ending) (w' : World) : Prop := e = .returned (.int .i64 p.2) ∧ Rx w' F T N L p.1 ∧ Ch F w w'
set_option maxHeartbeats 1600000 in
set_option maxRecDepth 100000 in
theorem ropen_core (w : World) (T N D L : Nat) (x : Int) (h1 : 1 < L) (c0 : w.cell? ⟨T, 0, none⟩ = some (.pointer (some ⟨N, 0, none⟩))) (c1 : w.cell? ⟨N, 0, none⟩ = some (.slice (some ⟨D, 0, none⟩) L L)) (ck : w.cell? ⟨D, 1, none⟩ = some (.int .u8 x)) :
    Calls Try.prog 79 #[.pointer (some ⟨T, 0, none⟩)] w fun e w' => e = .returned (.bool (x != 0)) ∧ w = w' := by
  go_enter Try.func79, Try.ntmps79
  go_wp2
  go_ret
  exact ⟨rfl, rfl⟩
theorem ropen_any {w : World} {F : Nat → Prop} {T N L : Nat} {s : St} (h : Rx w F T N L s) : Calls Try.prog 79 #[.pointer (some ⟨T, 0, none⟩)] w fun e w' => e = .returned (.bool s.opn) ∧ w = w' := by
  obtain ⟨D, c1, _, ck⟩ := h.cells
  have := h.ok.len0
  have := h.len
  exact ropen_core w T N D L _ (by omega) h.c0 c1 (ck 1 (by omega))
set_option maxHeartbeats 1600000 in
set_option maxRecDepth 100000 in
theorem rcount_hi (w : World) (T N D L : Nat) (x : Int) (h1 : 1 < L) (x0 : 0 ≤ x) (x1 : x ≤ 255) (c0 : w.cell? ⟨T, 0, none⟩ = some (.pointer (some ⟨N, 0, none⟩))) (c1 : w.cell? ⟨N, 0, none⟩ = some (.slice (some ⟨D, 0, none⟩) L L)) (ck : w.cell? ⟨D, 0, none⟩ = some (.int .u8 x)) (h : 100 < x) :
    Calls Try.prog 85 #[.pointer (some ⟨T, 0, none⟩)] w fun e w' => e = .returned (.int .i64 100) ∧ w = w' := by
  go_enter Try.func85, Try.ntmps85
  go_wp2
  go_ret
  exact ⟨rfl, rfl⟩
set_option maxHeartbeats 1600000 in
set_option maxRecDepth 100000 in
theorem rcount_lo (w : World) (T N D L : Nat) (x : Int) (h1 : 1 < L) (x0 : 0 ≤ x) (x1 : x ≤ 255) (c0 : w.cell? ⟨T, 0, none⟩ = some (.pointer (some ⟨N, 0, none⟩))) (c1 : w.cell? ⟨N, 0, none⟩ = some (.slice (some ⟨D, 0, none⟩) L L)) (ck : w.cell? ⟨D, 0, none⟩ = some (.int .u8 x)) (h : ¬ 100 < x) :
    Calls Try.prog 85 #[.pointer (some ⟨T, 0, none⟩)] w fun e w' => e = .returned (.int .i64 x) ∧ w = w' := by
  go_enter Try.func85, Try.ntmps85
  go_wp2
  go_ret
  exact ⟨rfl, rfl⟩
theorem rcount_any {w : World} {F : Nat → Prop} {T N L : Nat} {s : St} (h : Rx w F T N L s) : Calls Try.prog 85 #[.pointer (some ⟨T, 0, none⟩)] w fun e w' => e = .returned (.int .i64 (cnt s.l)) ∧ w = w' := by
  obtain ⟨D, c1, _, ck⟩ := h.cells
  have := h.ok.len0
  have := h.len
  have hb := h.ok.by_.get 0
  unfold cnt
  by_cases c : 100 < s.l.getD 0 0
  · rw [show min (s.l.getD 0 0) 100 = 100 from by omega]
    exact rcount_hi w T N D L _ (by omega) hb.1 hb.2 h.c0 c1 (ck 0 (by omega)) c
  · rw [show min (s.l.getD 0 0) 100 = s.l.getD 0 0 from by omega]
    exact rcount_lo w T N D L _ (by omega) hb.1 hb.2 h.c0 c1 (ck 0 (by omega)) c
set_option maxHeartbeats 1600000 in
set_option maxRecDepth 100000 in
theorem rtwo_core (w : World) (T N D L k : Nat) (x y : Int) (hk : (k : Int) + 1 < (L : Int)) (hL : L ≤ 65536) (x0 : 0 ≤ x) (x1 : x ≤ 255) (y0 : 0 ≤ y) (y1 : y ≤ 255) (c0 : w.cell? ⟨T, 0, none⟩ = some (.pointer (some ⟨N, 0, none⟩))) (c1 : w.cell? ⟨N, 0, none⟩ = some (.slice (some ⟨D, 0, none⟩) L L)) (ck : w.cell? ⟨D, k, none⟩ = some (.int .u8 x)) (cl : w.cell? ⟨D, k + 1, none⟩ = some (.int .u8 y)) :
    Calls Try.prog 78 #[.pointer (some ⟨T, 0, none⟩), .int .i64 k] w fun e w' => e = .returned (.int .i64 (256 * x + y)) ∧ Ch (fun _ => False) w w' := by
  go_enter Try.func78, Try.ntmps78
  go_wp2_with (fail)
  go_quiet (fail)
  go_wp2
  go_ret
  exact ⟨rfl, (Ch.refl _ _).drewN _⟩
theorem rtwo_any {w : World} {F : Nat → Prop} {T N L : Nat} {s : St} (h : Rx w F T N L s) (k : Nat) (hk : k + 1 < L) : Calls Try.prog 78 #[.pointer (some ⟨T, 0, none⟩), .int .i64 k] w fun e w' => e = .returned (.int .i64 (pr s.l k)) ∧ Ch (fun _ => False) w w' := by
  obtain ⟨D, c1, _, ck⟩ := h.cells
  have := h.ok.len1
  have := h.len
  have hb := h.ok.by_.get k
  have hc := h.ok.by_.get (k + 1)
  exact rtwo_core w T N D L k _ _ (by omega) (by omega) hb.1 hb.2 hc.1 hc.2 h.c0 c1 (ck k (by omega)) (ck (k + 1) (by omega))
set_option maxHeartbeats 1600000 in
set_option maxRecDepth 100000 in
theorem rwords_core (w : World) (T N D L : Nat) (hL : L ≤ 65536) (c0 : w.cell? ⟨T, 0, none⟩ = some (.pointer (some ⟨N, 0, none⟩))) (c1 : w.cell? ⟨N, 0, none⟩ = some (.slice (some ⟨D, 0, none⟩) L L)) :
    Calls Try.prog 84 #[.pointer (some ⟨T, 0, none⟩)] w fun e w' => e = .returned (.int .i64 ((L : Int) / 2)) ∧ w = w' := by
  go_enter Try.func84, Try.ntmps84
  go_wp2
  go_ret
  exact ⟨rfl, rfl⟩
theorem rwords_any {w : World} {F : Nat → Prop} {T N L : Nat} {s : St} (h : Rx w F T N L s) : Calls Try.prog 84 #[.pointer (some ⟨T, 0, none⟩)] w fun e w' => e = .returned (.int .i64 ((L : Int) / 2)) ∧ w = w' := by
  obtain ⟨D, c1, _, ck⟩ := h.cells
  have := h.ok.len1
  have := h.len
  exact rwords_core w T N D L (by omega) h.c0 c1
set_option maxHeartbeats 1600000 in
set_option maxRecDepth 100000 in
theorem ris_low (w : World) (T N L : Nat) (at_ : Int) (d : Bool) (hL : L ≤ 65536) (c0 : w.cell? ⟨T, 0, none⟩ = some (.pointer (some ⟨N, 0, none⟩))) (c2 : w.cell? ⟨N, 2, none⟩ = some (.bool d)) (ha : Hid (Calls Try.prog 84 #[.pointer (some ⟨T, 0, none⟩)] w fun e w' => e = .returned (.int .i64 ((L : Int) / 2)) ∧ w = w')) (h : at_ < 256) :
    Calls Try.prog 77 #[.pointer (some ⟨T, 0, none⟩), .int .i64 at_] w fun e w' => e = .returned (.int .i64 2) ∧ w = w' := by
  go_enter Try.func77, Try.ntmps77
  go_wp2_with (go_at_call 84; refine ha.out.mono ?_; rintro e w' ⟨rfl, rfl⟩)
  go_ret
  exact ⟨rfl, rfl⟩
set_option maxHeartbeats 1600000 in
set_option maxRecDepth 100000 in
theorem ris_high (w : World) (T N L : Nat) (at_ : Int) (d : Bool) (hL : L ≤ 65536) (c0 : w.cell? ⟨T, 0, none⟩ = some (.pointer (some ⟨N, 0, none⟩))) (c2 : w.cell? ⟨N, 2, none⟩ = some (.bool d)) (ha : Hid (Calls Try.prog 84 #[.pointer (some ⟨T, 0, none⟩)] w fun e w' => e = .returned (.int .i64 ((L : Int) / 2)) ∧ w = w')) (h : ¬ at_ < 256) (h2 : (L : Int) / 2 ≤ at_) :
    Calls Try.prog 77 #[.pointer (some ⟨T, 0, none⟩), .int .i64 at_] w fun e w' => e = .returned (.int .i64 2) ∧ w = w' := by
  go_enter Try.func77, Try.ntmps77
  go_wp2_with (go_at_call 84; refine ha.out.mono ?_; rintro e w' ⟨rfl, rfl⟩)
  go_ret
  exact ⟨rfl, rfl⟩
set_option maxHeartbeats 1600000 in
set_option maxRecDepth 100000 in
theorem ris_dark (w : World) (T N L : Nat) (at_ : Int) (d : Bool) (hL : L ≤ 65536) (c0 : w.cell? ⟨T, 0, none⟩ = some (.pointer (some ⟨N, 0, none⟩))) (c2 : w.cell? ⟨N, 2, none⟩ = some (.bool d)) (ha : Hid (Calls Try.prog 84 #[.pointer (some ⟨T, 0, none⟩)] w fun e w' => e = .returned (.int .i64 ((L : Int) / 2)) ∧ w = w')) (h : ¬ at_ < 256) (h2 : ¬ (L : Int) / 2 ≤ at_) (hd : d = true) :
    Calls Try.prog 77 #[.pointer (some ⟨T, 0, none⟩), .int .i64 at_] w fun e w' => e = .returned (.int .i64 13) ∧ w = w' := by
  subst hd
  go_enter Try.func77, Try.ntmps77
  go_wp2_with (go_at_call 84; refine ha.out.mono ?_; rintro e w' ⟨rfl, rfl⟩)
  go_ret
  exact ⟨rfl, rfl⟩
set_option maxHeartbeats 1600000 in
set_option maxRecDepth 100000 in
theorem ris_in (w : World) (T N L : Nat) (at_ : Int) (d : Bool) (hL : L ≤ 65536) (c0 : w.cell? ⟨T, 0, none⟩ = some (.pointer (some ⟨N, 0, none⟩))) (c2 : w.cell? ⟨N, 2, none⟩ = some (.bool d)) (ha : Hid (Calls Try.prog 84 #[.pointer (some ⟨T, 0, none⟩)] w fun e w' => e = .returned (.int .i64 ((L : Int) / 2)) ∧ w = w')) (h : ¬ at_ < 256) (h2 : ¬ (L : Int) / 2 ≤ at_) (hd : d = false) :
    Calls Try.prog 77 #[.pointer (some ⟨T, 0, none⟩), .int .i64 at_] w fun e w' => e = .returned (.int .i64 0) ∧ w = w' := by
  subst hd
  go_enter Try.func77, Try.ntmps77
  go_wp2_with (go_at_call 84; refine ha.out.mono ?_; rintro e w' ⟨rfl, rfl⟩)
  go_ret
  exact ⟨rfl, rfl⟩
theorem ris_any {w : World} {F : Nat → Prop} {T N L : Nat} {s : St} (h : Rx w F T N L s) (at_ : Int) : Calls Try.prog 77 #[.pointer (some ⟨T, 0, none⟩), .int .i64 at_] w fun e w' => e = .returned (.int .i64 (task s at_)) ∧ w = w' := by
  obtain ⟨D, _, c2, _⟩ := h.cells
  have h1 := h.ok.len1
  have hl := h.len
  have ha := rwords_any h
  unfold task St.pow
  rw [hl]
  by_cases a : at_ < 256
  · rw [if_pos a]; exact ris_low w T N L at_ _ (by omega) h.c0 c2 ha a
  · by_cases b : (L : Int) / 2 ≤ at_
    · rw [if_neg a, if_pos b]; exact ris_high w T N L at_ _ (by omega) h.c0 c2 ha a b
    · rw [if_neg a, if_neg b]
      by_cases d : s.dark = true
      · rw [if_pos d]; exact ris_dark w T N L at_ _ (by omega) h.c0 c2 ha a b d
      · rw [if_neg d]; exact ris_in w T N L at_ _ (by omega) h.c0 c2 ha a b (by simpa using d)
end Go.Proofs.Ytjeaidmmhplglaa.Nvm
