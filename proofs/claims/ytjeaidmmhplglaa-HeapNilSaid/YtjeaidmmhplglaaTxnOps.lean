/- The calls of txn, one by one. -/
import Derived.Test.YtjeaidmmhplglaaTxnEntry
set_option linter.unusedVariables false
set_option linter.unusedSimpArgs false
namespace Go.Proofs.Ytjeaidmmhplglaa.Nvm
open Go.RowKit Go.Proofs.Ytjeaidmmhplglaa.Base

def task (s : St) (at_ : Int) : Int := if at_ < 256 then 2 else if (s.l.length : Int) / 2 ≤ at_ then 2 else s.pow
def taskB (s : St) (at_ : Int) : Int := if at_ < 0 then 2 else task s (at_ / 2)
def St.opn (s : St) : Bool := s.l.getD 1 0 != 0
/-- What a call does. -/
def Does (w : World) (F : Nat → Prop) (T N L : Nat) (p : St × Int) (e : Ending) (w' : World) : Prop := e = .returned (.int .i64 p.2) ∧ Tx w' F T N L p.1 ∧ Ch F w w'
set_option maxHeartbeats 800000 in
set_option maxRecDepth 100000 in
theorem task_low (w : World) (T N n : Nat) (at_ r : Int) (hn : n ≤ 65536) (c0 : w.cell? ⟨T, 0, none⟩ = some (.pointer (some ⟨N, 0, none⟩)))
    (ha : Hid (Calls Try.prog 23 #[.pointer (some ⟨N, 0, none⟩)] w fun e w' => e = .returned (.int .i64 n) ∧ w = w')) (hb : Hid (Calls Try.prog 64 #[.pointer (some ⟨T, 0, none⟩)] w fun e w' => e = .returned (.int .i64 r) ∧ w = w')) (h : at_ < 256) :
    Calls Try.prog 44 #[.pointer (some ⟨T, 0, none⟩), .int .i64 at_] w fun e w' => e = .returned (.int .i64 2) ∧ w = w' := by
  go_enter Try.func44, Try.ntmps44
  go_wp2_with (first | (go_at_call 42; refine (toff_some _ _ _ c0).mono ?_; rintro e w' ⟨rfl, rfl⟩) | (go_at_call 23; refine ha.out.mono ?_; rintro e w' ⟨rfl, rfl⟩) | (go_at_call 64; refine hb.out.mono ?_; rintro e w' ⟨rfl, rfl⟩))
  go_ret
  exact ⟨rfl, rfl⟩
set_option maxHeartbeats 800000 in
set_option maxRecDepth 100000 in
theorem task_high (w : World) (T N n : Nat) (at_ r : Int) (hn : n ≤ 65536) (c0 : w.cell? ⟨T, 0, none⟩ = some (.pointer (some ⟨N, 0, none⟩)))
    (ha : Hid (Calls Try.prog 23 #[.pointer (some ⟨N, 0, none⟩)] w fun e w' => e = .returned (.int .i64 n) ∧ w = w')) (hb : Hid (Calls Try.prog 64 #[.pointer (some ⟨T, 0, none⟩)] w fun e w' => e = .returned (.int .i64 r) ∧ w = w')) (h : ¬ at_ < 256) (h2 : (n : Int) / 2 ≤ at_) :
    Calls Try.prog 44 #[.pointer (some ⟨T, 0, none⟩), .int .i64 at_] w fun e w' => e = .returned (.int .i64 2) ∧ w = w' := by
  go_enter Try.func44, Try.ntmps44
  go_wp2_with (first | (go_at_call 42; refine (toff_some _ _ _ c0).mono ?_; rintro e w' ⟨rfl, rfl⟩) | (go_at_call 23; refine ha.out.mono ?_; rintro e w' ⟨rfl, rfl⟩) | (go_at_call 64; refine hb.out.mono ?_; rintro e w' ⟨rfl, rfl⟩))
  go_ret
  exact ⟨rfl, rfl⟩
set_option maxHeartbeats 800000 in
set_option maxRecDepth 100000 in
theorem task_in (w : World) (T N n : Nat) (at_ r : Int) (hn : n ≤ 65536) (c0 : w.cell? ⟨T, 0, none⟩ = some (.pointer (some ⟨N, 0, none⟩)))
    (ha : Hid (Calls Try.prog 23 #[.pointer (some ⟨N, 0, none⟩)] w fun e w' => e = .returned (.int .i64 n) ∧ w = w')) (hb : Hid (Calls Try.prog 64 #[.pointer (some ⟨T, 0, none⟩)] w fun e w' => e = .returned (.int .i64 r) ∧ w = w')) (h : ¬ at_ < 256) (h2 : ¬ (n : Int) / 2 ≤ at_) :
    Calls Try.prog 44 #[.pointer (some ⟨T, 0, none⟩), .int .i64 at_] w fun e w' => e = .returned (.int .i64 r) ∧ w = w' := by
  go_enter Try.func44, Try.ntmps44
  go_wp2_with (first | (go_at_call 42; refine (toff_some _ _ _ c0).mono ?_; rintro e w' ⟨rfl, rfl⟩) | (go_at_call 23; refine ha.out.mono ?_; rintro e w' ⟨rfl, rfl⟩) | (go_at_call 64; refine hb.out.mono ?_; rintro e w' ⟨rfl, rfl⟩))
  go_ret
  exact ⟨rfl, rfl⟩
theorem ask_tx {w : World} {F : Nat → Prop} {T N L : Nat} {s : St} (h : Tx w F T N L s) (at_ : Int) :
    Calls Try.prog 44 #[.pointer (some ⟨T, 0, none⟩), .int .i64 at_] w fun e w' => e = .returned (.int .i64 (task s at_)) ∧ w = w' := by
  have ha := size_any h.n
  have hb := power_any h
  have h1 := h.ok.len1
  unfold task
  by_cases c1 : at_ < 256
  · rw [if_pos c1]; exact task_low w T N _ at_ _ h1 h.c0 ha hb c1
  · by_cases c2 : (s.l.length : Int) / 2 ≤ at_
    · rw [if_neg c1, if_pos c2]; exact task_high w T N _ at_ _ h1 h.c0 ha hb c1 c2
    · rw [if_neg c1, if_neg c2]; exact task_in w T N _ at_ _ h1 h.c0 ha hb c1 c2
set_option maxHeartbeats 800000 in
set_option maxRecDepth 100000 in
theorem askB_neg (w : World) (T : Nat) (at_ : Int) (h : at_ < 0) (ha : Hid (Calls Try.prog 44 #[.pointer (some ⟨T, 0, none⟩), .int .i64 (-1)] w fun e w' => e = .returned (.int .i64 2) ∧ w = w')) :
    Calls Try.prog 54 #[.pointer (some ⟨T, 0, none⟩), .int .i64 at_] w fun e w' => e = .returned (.int .i64 2) ∧ w = w' := by
  go_enter Try.func54, Try.ntmps54
  go_wp2_with (go_at_call 44; refine ha.out.mono ?_; rintro e w' ⟨rfl, rfl⟩)
  go_ret
  exact ⟨rfl, rfl⟩
set_option maxHeartbeats 800000 in
set_option maxRecDepth 100000 in
theorem askB_pos (w : World) (T : Nat) (at_ r : Int) (h : ¬ at_ < 0) (h2 : 0 ≤ at_) (ha : Hid (Calls Try.prog 44 #[.pointer (some ⟨T, 0, none⟩), .int .i64 (wrap64 (at_.tdiv 2))] w fun e w' => e = .returned (.int .i64 r) ∧ w = w')) :
    Calls Try.prog 54 #[.pointer (some ⟨T, 0, none⟩), .int .i64 at_] w fun e w' => e = .returned (.int .i64 r) ∧ w = w' := by
  go_enter Try.func54, Try.ntmps54
  go_wp2_with (go_at_call 44; refine ha.out.mono ?_; rintro e w' ⟨rfl, rfl⟩)
  go_ret
  exact ⟨rfl, rfl⟩
theorem half {x : Int} (h0 : 0 ≤ x) (h1 : x ≤ 9223372036854775807) : wrap64 (x.tdiv 2) = x / 2 := by
  rw [Int.tdiv_eq_ediv_of_nonneg h0]
  unfold wrap64
  omega
theorem askB_tx {w : World} {F : Nat → Prop} {T N L : Nat} {s : St} (h : Tx w F T N L s) (at_ : Int) (h1 : at_ ≤ 9223372036854775807) :
    Calls Try.prog 54 #[.pointer (some ⟨T, 0, none⟩), .int .i64 at_] w fun e w' => e = .returned (.int .i64 (taskB s at_)) ∧ w = w' := by
  unfold taskB
  by_cases c : at_ < 0
  · rw [if_pos c]; exact askB_neg w T at_ c (ask_tx h (-1))
  · rw [if_neg c]; exact askB_pos w T at_ _ c (by omega) (Lib.hid (by rw [half (by omega) h1]; exact ask_tx h _))
set_option maxHeartbeats 800000 in
set_option maxRecDepth 100000 in
theorem open_core (w : World) (T N : Nat) (x : Int) (c0 : w.cell? ⟨T, 0, none⟩ = some (.pointer (some ⟨N, 0, none⟩))) (ha : Hid (Calls Try.prog 66 #[.pointer (some ⟨T, 0, none⟩), .int .i64 1] w fun e w' => e = .returned (.int .u8 x) ∧ Ch (fun _ => False) w w')) :
    Calls Try.prog 46 #[.pointer (some ⟨T, 0, none⟩)] w fun e w' => e = .returned (.bool (x != 0)) ∧ Ch (fun _ => False) w w' := by
  go_enter Try.func46, Try.ntmps46
  go_wp2_with (first | (go_at_call 42; refine (toff_some _ _ _ c0).mono ?_; rintro e w' ⟨rfl, rfl⟩) | (go_at_call 66; refine ha.out.mono ?_; rintro e w' ⟨rfl, c1⟩))
  go_ret
  exact ⟨rfl, c1⟩
theorem open_tx {w : World} {F : Nat → Prop} {T N L : Nat} {s : St} (h : Tx w F T N L s) :
    Calls Try.prog 46 #[.pointer (some ⟨T, 0, none⟩)] w fun e w' => e = .returned (.bool s.opn) ∧ Ch (fun _ => False) w w' := by
  have h0 := h.ok.len0
  exact open_core w T N _ h.c0 (byte_any h 1 (by have := h.len; omega))
theorem cnt_b {l : List Int} (h : By l) : 0 ≤ cnt l ∧ cnt l ≤ 100 := by have := h.get 0; unfold cnt; omega
set_option maxHeartbeats 800000 in
set_option maxRecDepth 100000 in
theorem nvm_core (w : World) (T N : Nat) (c0 : w.cell? ⟨T, 0, none⟩ = some (.pointer (some ⟨N, 0, none⟩))) :
    Calls Try.prog 19 #[.pointer (some ⟨T, 0, none⟩)] w fun e w' => e = .returned (.pointer (some ⟨N, 0, none⟩)) ∧ w = w' := by
  go_enter Try.func19, Try.ntmps19
  go_wp2_with (go_at_call 42; refine (toff_some _ _ _ c0).mono ?_; rintro e w' ⟨rfl, rfl⟩)
  go_ret
  exact ⟨rfl, rfl⟩
set_option maxHeartbeats 800000 in
set_option maxRecDepth 100000 in
theorem newt_core (w : World) (N n : Nat) (hn : ((n : Int) == 0) = false) (ha : Hid (Calls Try.prog 23 #[.pointer (some ⟨N, 0, none⟩)] w fun e w' => e = .returned (.int .i64 n) ∧ w = w')) :
    Calls Try.prog 7 #[.pointer (some ⟨N, 0, none⟩)] w fun e w' => e = .returned (.tuple #[.pointer (some ⟨w.heap.size, 0, none⟩), .int .i64 0]) ∧ w' = w.alloc (.cells #[.pointer (some ⟨N, 0, none⟩)] 28) := by
  go_enter Try.func7, Try.ntmps7
  go_wp2_with (go_at_call 23; refine ha.out.mono ?_; rintro e w' ⟨rfl, rfl⟩)
  go_ret2
  exact ⟨rfl, rfl⟩
theorem newt_tx {w : World} {F : Nat → Prop} {N : Nat} {s : St} (h : Nv w F N s) :
    Calls Try.prog 7 #[.pointer (some ⟨N, 0, none⟩)] w fun e w' => e = .returned (.tuple #[.pointer (some ⟨w.heap.size, 0, none⟩), .int .i64 0]) ∧ Tx w' F w.heap.size N s.l.length s ∧ Ch (fun _ => False) w w' := by
  have h0 := h.ok.len0
  refine (newt_core w N s.l.length (by rw [beq_eq_false_iff_ne]; omega) (size_any h)).mono ?_
  rintro e w' ⟨rfl, rfl⟩
  exact ⟨rfl, ⟨Blk.new w _ _, h.alloc _, fun hf => by have := h.fb _ hf; omega, rfl⟩, (Ch.refl _ _).alloc _⟩
def tstate (s : St) (b : Bool) : Int := if s.opn = b then s.pow else 10
set_option maxHeartbeats 800000 in
set_option maxRecDepth 100000 in
theorem word_ref (w : World) (T : Nat) (at_ r : Int) (hr : (r != 0) = true) (ha : Hid (Calls Try.prog 44 #[.pointer (some ⟨T, 0, none⟩), .int .i64 at_] w fun e w' => e = .returned (.int .i64 r) ∧ w = w')) :
    Calls Try.prog 21 #[.pointer (some ⟨T, 0, none⟩), .int .i64 at_] w fun e w' => e = .returned (.tuple #[.int .u16 0, .int .i64 r]) ∧ w = w' := by
  go_enter Try.func21, Try.ntmps21
  go_wp2_with (go_at_call 44; refine ha.out.mono ?_; rintro e w' ⟨rfl, rfl⟩)
  go_ret2
  exact ⟨rfl, rfl⟩
set_option maxHeartbeats 800000 in
set_option maxRecDepth 100000 in
theorem word_ok (w : World) (T : Nat) (at_ v : Int) (ha : Hid (Calls Try.prog 44 #[.pointer (some ⟨T, 0, none⟩), .int .i64 at_] w fun e w' => e = .returned (.int .i64 0) ∧ w = w'))
    (hb : Hid (Calls Try.prog 45 #[.pointer (some ⟨T, 0, none⟩), .int .i64 at_] w fun e w' => e = .returned (.int .u16 v) ∧ Ch (fun _ => False) w w')) :
    Calls Try.prog 21 #[.pointer (some ⟨T, 0, none⟩), .int .i64 at_] w fun e w' => e = .returned (.tuple #[.int .u16 v, .int .i64 0]) ∧ Ch (fun _ => False) w w' := by
  go_enter Try.func21, Try.ntmps21
  go_wp2_with (first | (go_at_call 44; refine ha.out.mono ?_; rintro e w' ⟨rfl, rfl⟩) | (go_at_call 45; refine hb.out.mono ?_; rintro e w' ⟨rfl, c1⟩))
  go_ret2
  exact ⟨rfl, c1⟩
/-- A word is asked for. -/
def tword (s : St) (at_ : Int) : Int × Int := if task s at_ = 0 then (pr s.l (2 * at_).toNat, 0) else (0, task s at_)
theorem task_ok {s : St} {at_ : Int} (h : task s at_ = 0) : s.dark = false ∧ 256 ≤ at_ ∧ 2 * at_ + 1 < s.l.length := by
  unfold task at h
  split at h
  · simp at h
  · split at h
    · simp at h
    · unfold St.pow at h
      split at h
      · simp at h
      · rename_i h1 h2 h3
        refine ⟨by simpa using h3, by omega, by omega⟩
theorem word_tx {w : World} {F : Nat → Prop} {T N L : Nat} {s : St} (h : Tx w F T N L s) (at_ : Int) :
    Calls Try.prog 21 #[.pointer (some ⟨T, 0, none⟩), .int .i64 at_] w fun e w' => e = .returned (.tuple #[.int .u16 (tword s at_).1, .int .i64 (tword s at_).2]) ∧ Ch (fun _ => False) w w' := by
  have ha := ask_tx h at_
  unfold tword
  by_cases c : task s at_ = 0
  · rw [if_pos c]
    rw [c] at ha
    obtain ⟨_, h1, h2⟩ := task_ok c
    have hw := was_any h at_.toNat (by have := h.len; omega)
    rw [show ((at_.toNat : Nat) : Int) = at_ from by omega, show 2 * at_.toNat = (2 * at_).toNat from by omega] at hw
    exact word_ok w T at_ _ ha hw
  · rw [if_neg c]
    refine (word_ref w T at_ _ (by rw [bne_iff_ne]; exact c) ha).mono ?_
    rintro e w' ⟨rfl, rfl⟩
    exact ⟨rfl, Ch.refl _ _⟩
set_option maxHeartbeats 800000 in
set_option maxRecDepth 100000 in
theorem tbyte_ref (w : World) (T : Nat) (at_ r : Int) (hr : (r != 0) = true) (ha : Hid (Calls Try.prog 54 #[.pointer (some ⟨T, 0, none⟩), .int .i64 at_] w fun e w' => e = .returned (.int .i64 r) ∧ w = w')) :
    Calls Try.prog 36 #[.pointer (some ⟨T, 0, none⟩), .int .i64 at_] w fun e w' => e = .returned (.tuple #[.int .u8 0, .int .i64 r]) ∧ w = w' := by
  go_enter Try.func36, Try.ntmps36
  go_wp2_with (go_at_call 54; refine ha.out.mono ?_; rintro e w' ⟨rfl, rfl⟩)
  go_ret2
  exact ⟨rfl, rfl⟩
set_option maxHeartbeats 800000 in
set_option maxRecDepth 100000 in
theorem tbyte_ok (w : World) (T N : Nat) (at_ v r : Int) (c0 : w.cell? ⟨T, 0, none⟩ = some (.pointer (some ⟨N, 0, none⟩))) (ha : Hid (Calls Try.prog 54 #[.pointer (some ⟨T, 0, none⟩), .int .i64 at_] w fun e w' => e = .returned (.int .i64 0) ∧ w = w'))
    (hb : Hid (Calls Try.prog 57 #[.pointer (some ⟨N, 0, none⟩), .int .i64 at_] w fun e w' => e = .returned (.tuple #[.int .u8 v, .int .i64 r]) ∧ w = w')) :
    Calls Try.prog 36 #[.pointer (some ⟨T, 0, none⟩), .int .i64 at_] w fun e w' => e = .returned (.tuple #[.int .u8 v, .int .i64 r]) ∧ w = w' := by
  go_enter Try.func36, Try.ntmps36
  go_wp2_with (first | (go_at_call 54; refine ha.out.mono ?_; rintro e w' ⟨rfl, rfl⟩) | (go_at_call 57; refine hb.out.mono ?_; rintro e w' ⟨rfl, rfl⟩))
  go_ret2
  exact ⟨rfl, rfl⟩
def tbyte (s : St) (at_ : Int) : Int × Int := if taskB s at_ = 0 then s.get at_ else (0, taskB s at_)
theorem tbyte_tx {w : World} {F : Nat → Prop} {T N L : Nat} {s : St} (h : Tx w F T N L s) (at_ : Int) (h1 : at_ ≤ 9223372036854775807) :
    Calls Try.prog 36 #[.pointer (some ⟨T, 0, none⟩), .int .i64 at_] w fun e w' => e = .returned (.tuple #[.int .u8 (tbyte s at_).1, .int .i64 (tbyte s at_).2]) ∧ w = w' := by
  have ha := askB_tx h at_ h1
  unfold tbyte
  by_cases c : taskB s at_ = 0
  · rw [if_pos c]
    rw [c] at ha
    exact tbyte_ok w T N at_ _ _ h.c0 ha (get_any h.n at_)
  · rw [if_neg c]
    exact tbyte_ref w T at_ _ (by rw [bne_iff_ne]; exact c) ha
end Go.Proofs.Ytjeaidmmhplglaa.Nvm
