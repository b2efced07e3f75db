/- The reference's txn: its calls, whole. -/
import Derived.Test.YtjeaidmmhplglaaTxnRefP
set_option linter.unusedVariables false
set_option linter.unusedSimpArgs false
namespace Go.Proofs.Ytjeaidmmhplglaa.Nvm
open Go.RowKit Go.Proofs.Ytjeaidmmhplglaa.Base
theorem trput_tx {w : World} {F : Nat → Prop} {T N L : Nat} {s : St} (hx : Rx w F T N L s) (at_ v : Int) (v0 : 0 ≤ v) (v1 : v ≤ 65535) :
    Calls Try.prog 75 #[.pointer (some ⟨T, 0, none⟩), .int .i64 at_, .int .u16 v] w (Rds w F T N L (tput s at_ v)) := by
  have hl := hx.len
  have h1 := hx.ok.len1
  have ha := ris_any hx at_
  have ho := ropen_any hx
  unfold tput
  by_cases c : task s at_ = 0
  · rw [if_neg (by simp [c])]
    rw [c] at ha
    obtain ⟨_, a0, a1⟩ := task_ok c
    by_cases o : s.opn = true
    · rw [if_pos o, tput_open_eq hx.ok.by_ (by omega) (by omega)]
      rw [o] at ho
      have hk := rkept_any hx at_ (by omega) (by omega)
      by_cases k : kcode s at_ = 0
      · rw [if_pos k]
        rw [k] at hk
        exact trput_open hx at_ v _ (kws_len _ _) (by omega) (by omega) v0 v1 ha ho hk
      · rw [if_neg k]
        exact trput_kref hx at_ v _ _ (by rw [bne_iff_ne]; exact k) ha ho hk
    · rw [if_neg o, tput_shut_eq (by omega) (by omega)]
      have o' : s.opn = false := by simpa using o
      rw [o'] at ho
      exact trput_shut hx at_ v _ rfl (by omega) (by omega) v0 v1 ha ho (rentry_any hx 0 at_ (by omega) (by omega) (by omega) (by omega))
  · rw [if_pos c]
    exact trput_ref hx at_ v _ (by rw [bne_iff_ne]; exact c) ha
theorem one_fp (at_ v : Int) (s : St) : runs ([(at_, v)].map fp) s = s.put at_ v := by
  show (if (s.put at_ v).2 = 0 then ((s.put at_ v).1, 0) else s.put at_ v) = _
  split
  · rename_i h; exact Prod.ext rfl h.symm
  · rfl
set_option maxHeartbeats 1600000 in
set_option maxRecDepth 100000 in
theorem rtword_no (w : World) (T : Nat) (at_ r : Int) (hr : (r != 0) = true) (ha : Hid (Calls Try.prog 77 #[.pointer (some ⟨T, 0, none⟩), .int .i64 at_] w fun e w' => e = .returned (.int .i64 r) ∧ w = w')) :
    Calls Try.prog 74 #[.pointer (some ⟨T, 0, none⟩), .int .i64 at_] w fun e w' => e = .returned (.tuple #[.int .u16 0, .int .i64 r]) ∧ w = w' := by
  go_enter Try.func74, Try.ntmps74
  go_wp2_with (go_at_call 77; refine ha.out.mono ?_; rintro e w' ⟨rfl, rfl⟩)
  go_ret2
  exact ⟨rfl, rfl⟩
set_option maxHeartbeats 1600000 in
set_option maxRecDepth 100000 in
theorem rtword_yes (w : World) (T : Nat) (at_ v : Int) (a0 : 0 ≤ at_) (a1 : at_ ≤ 32767) (v0 : 0 ≤ v) (v1 : v ≤ 65535) (ha : Hid (Calls Try.prog 77 #[.pointer (some ⟨T, 0, none⟩), .int .i64 at_] w fun e w' => e = .returned (.int .i64 0) ∧ w = w'))
    (hb : Hid (Calls Try.prog 78 #[.pointer (some ⟨T, 0, none⟩), .int .i64 (2 * at_)] w fun e w' => e = .returned (.int .i64 v) ∧ Ch (fun _ => False) w w')) :
    Calls Try.prog 74 #[.pointer (some ⟨T, 0, none⟩), .int .i64 at_] w fun e w' => e = .returned (.tuple #[.int .u16 v, .int .i64 0]) ∧ Ch (fun _ => False) w w' := by
  go_enter Try.func74, Try.ntmps74
  go_wp2_with (first | (go_at_call 77; refine ha.out.mono ?_; rintro e w' ⟨rfl, rfl⟩) | (go_at_call 78; refine hb.out.mono ?_; rintro e w' ⟨rfl, c1⟩))
  go_ret2
  exact ⟨rfl, c1⟩
theorem rtword_tx {w : World} {F : Nat → Prop} {T N L : Nat} {s : St} (h : Rx w F T N L s) (at_ : Int) :
    Calls Try.prog 74 #[.pointer (some ⟨T, 0, none⟩), .int .i64 at_] w fun e w' => e = .returned (.tuple #[.int .u16 (tword s at_).1, .int .i64 (tword s at_).2]) ∧ Ch (fun _ => False) w w' := by
  have ha := ris_any h at_
  have hl := h.len
  have h1 := h.ok.len1
  unfold tword
  by_cases c : task s at_ = 0
  · rw [if_pos c]
    rw [c] at ha
    obtain ⟨_, g1, g2⟩ := task_ok c
    have hw := rtwo_any h (2 * at_).toNat (by omega)
    rw [show (((2 * at_).toNat : Nat) : Int) = 2 * at_ from by omega] at hw
    have hp := pr_by h.ok.by_ (2 * at_).toNat
    exact rtword_yes w T at_ _ (by omega) (by omega) hp.1 hp.2 ha hw
  · rw [if_neg c]
    refine (rtword_no w T at_ _ (by rw [bne_iff_ne]; exact c) ha).mono ?_
    rintro e w' ⟨rfl, rfl⟩
    exact ⟨rfl, Ch.refl _ _⟩
end Go.Proofs.Ytjeaidmmhplglaa.Nvm
