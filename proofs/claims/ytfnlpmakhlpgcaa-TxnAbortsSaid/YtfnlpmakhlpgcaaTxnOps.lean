/- The calls of txn, one by one. -/
import Derived.Test.YtfnlpmakhlpgcaaTxnEntry
namespace Go.Proofs.Ytfnlpmakhlpgcaa.Nvm
open Go.RowKit Go.Proofs.Ytfnlpmakhlpgcaa.Base

def task (s : St) (at_ : Int) : Int := if at_ < 256 then 2 else if (s.l.length : Int) / 2 ≤ at_ then 2 else s.pow
def taskB (s : St) (at_ : Int) : Int := if at_ < 0 then 2 else task s (at_ / 2)
def St.opn (s : St) : Bool := s.l.getD 1 0 != 0
/-- What a call does. -/
def Does (w : World) (F : Nat → Prop) (T N L : Nat) (p : St × Int) (e : Ending) (w' : World) : Prop := e = .returned (.int .i64 p.2) ∧ Tx w' F T N L p.1 ∧ Ch F w w'
set_option maxHeartbeats 800000 in
set_option maxRecDepth 100000 in
theorem task_low (w : World) (T N n : Nat) (at_ r : Int) (hn : n ≤ 65536) (c0 : w.cell? ⟨T, 0, none⟩ = some (.pointer (some ⟨N, 0, none⟩)))
    (ha : Hid (Calls Try.prog 28 #[.pointer (some ⟨N, 0, none⟩)] w fun e w' => e = .returned (.int .i64 n) ∧ w = w')) (hb : Hid (Calls Try.prog 43 #[.pointer (some ⟨T, 0, none⟩)] w fun e w' => e = .returned (.int .i64 r) ∧ w = w')) (h : at_ < 256) :
    Calls Try.prog 29 #[.pointer (some ⟨T, 0, none⟩), .int .i64 at_] w fun e w' => e = .returned (.int .i64 2) ∧ w = w' := by
  go_enter Try.func29, Try.ntmps29
  go_wp2_with (first | (go_at_call 42; refine (toff_some _ _ _ c0).mono ?_; rintro e w' ⟨rfl, rfl⟩) | (go_at_call 28; refine ha.out.mono ?_; rintro e w' ⟨rfl, rfl⟩) | (go_at_call 43; refine hb.out.mono ?_; rintro e w' ⟨rfl, rfl⟩))
  go_ret
  exact ⟨rfl, rfl⟩
set_option maxHeartbeats 800000 in
set_option maxRecDepth 100000 in
theorem task_high (w : World) (T N n : Nat) (at_ r : Int) (hn : n ≤ 65536) (c0 : w.cell? ⟨T, 0, none⟩ = some (.pointer (some ⟨N, 0, none⟩)))
    (ha : Hid (Calls Try.prog 28 #[.pointer (some ⟨N, 0, none⟩)] w fun e w' => e = .returned (.int .i64 n) ∧ w = w')) (hb : Hid (Calls Try.prog 43 #[.pointer (some ⟨T, 0, none⟩)] w fun e w' => e = .returned (.int .i64 r) ∧ w = w')) (h : ¬ at_ < 256) (h2 : (n : Int) / 2 ≤ at_) :
    Calls Try.prog 29 #[.pointer (some ⟨T, 0, none⟩), .int .i64 at_] w fun e w' => e = .returned (.int .i64 2) ∧ w = w' := by
  go_enter Try.func29, Try.ntmps29
  go_wp2_with (first | (go_at_call 42; refine (toff_some _ _ _ c0).mono ?_; rintro e w' ⟨rfl, rfl⟩) | (go_at_call 28; refine ha.out.mono ?_; rintro e w' ⟨rfl, rfl⟩) | (go_at_call 43; refine hb.out.mono ?_; rintro e w' ⟨rfl, rfl⟩))
  go_ret
  exact ⟨rfl, rfl⟩
set_option maxHeartbeats 800000 in
set_option maxRecDepth 100000 in
theorem task_in (w : World) (T N n : Nat) (at_ r : Int) (hn : n ≤ 65536) (c0 : w.cell? ⟨T, 0, none⟩ = some (.pointer (some ⟨N, 0, none⟩)))
    (ha : Hid (Calls Try.prog 28 #[.pointer (some ⟨N, 0, none⟩)] w fun e w' => e = .returned (.int .i64 n) ∧ w = w')) (hb : Hid (Calls Try.prog 43 #[.pointer (some ⟨T, 0, none⟩)] w fun e w' => e = .returned (.int .i64 r) ∧ w = w')) (h : ¬ at_ < 256) (h2 : ¬ (n : Int) / 2 ≤ at_) :
    Calls Try.prog 29 #[.pointer (some ⟨T, 0, none⟩), .int .i64 at_] w fun e w' => e = .returned (.int .i64 r) ∧ w = w' := by
  go_enter Try.func29, Try.ntmps29
  go_wp2_with (first | (go_at_call 42; refine (toff_some _ _ _ c0).mono ?_; rintro e w' ⟨rfl, rfl⟩) | (go_at_call 28; refine ha.out.mono ?_; rintro e w' ⟨rfl, rfl⟩) | (go_at_call 43; refine hb.out.mono ?_; rintro e w' ⟨rfl, rfl⟩))
  go_ret
  exact ⟨rfl, rfl⟩
theorem ask_tx {w : World} {F : Nat → Prop} {T N L : Nat} {s : St} (h : Tx w F T N L s) (at_ : Int) :
    Calls Try.prog 29 #[.pointer (some ⟨T, 0, none⟩), .int .i64 at_] w fun e w' => e = .returned (.int .i64 (task s at_)) ∧ w = w' := by
  have ha := size_any h.n
  have hb := power_any h
  have h1 := h.ok.len1
  unfold task
  by_cases c1 : at_ < 256
  · rw [if_pos c1]; exact task_low w T N _ at_ _ h1 h.c0 ha hb c1
  · by_cases c2 : (s.l.length : Int) / 2 ≤ at_
    · rw [if_neg c1, if_pos c2]; exact task_high w T N _ at_ _ h1 h.c0 ha hb c1 c2
    · rw [if_neg c1, if_neg c2]; exact task_in w T N _ at_ _ h1 h.c0 ha hb c1 c2
set_option maxHeartbeats 800000 in
set_option maxRecDepth 100000 in
theorem askB_neg (w : World) (T : Nat) (at_ : Int) (h : at_ < 0) (ha : Hid (Calls Try.prog 29 #[.pointer (some ⟨T, 0, none⟩), .int .i64 (-1)] w fun e w' => e = .returned (.int .i64 2) ∧ w = w')) :
    Calls Try.prog 31 #[.pointer (some ⟨T, 0, none⟩), .int .i64 at_] w fun e w' => e = .returned (.int .i64 2) ∧ w = w' := by
  go_enter Try.func31, Try.ntmps31
  go_wp2_with (go_at_call 29; refine ha.out.mono ?_; rintro e w' ⟨rfl, rfl⟩)
  go_ret
  exact ⟨rfl, rfl⟩
set_option maxHeartbeats 800000 in
set_option maxRecDepth 100000 in
theorem askB_pos (w : World) (T : Nat) (at_ r : Int) (h : ¬ at_ < 0) (h2 : 0 ≤ at_) (ha : Hid (Calls Try.prog 29 #[.pointer (some ⟨T, 0, none⟩), .int .i64 (wrap64 (at_.tdiv 2))] w fun e w' => e = .returned (.int .i64 r) ∧ w = w')) :
    Calls Try.prog 31 #[.pointer (some ⟨T, 0, none⟩), .int .i64 at_] w fun e w' => e = .returned (.int .i64 r) ∧ w = w' := by
  go_enter Try.func31, Try.ntmps31
  go_wp2_with (go_at_call 29; refine ha.out.mono ?_; rintro e w' ⟨rfl, rfl⟩)
  go_ret
  exact ⟨rfl, rfl⟩
theorem half {x : Int} (h0 : 0 ≤ x) (h1 : x ≤ 9223372036854775807) : wrap64 (x.tdiv 2) = x / 2 := by
  rw [Int.tdiv_eq_ediv_of_nonneg h0]
  unfold wrap64
  omega
theorem askB_tx {w : World} {F : Nat → Prop} {T N L : Nat} {s : St} (h : Tx w F T N L s) (at_ : Int) (h1 : at_ ≤ 9223372036854775807) :
    Calls Try.prog 31 #[.pointer (some ⟨T, 0, none⟩), .int .i64 at_] w fun e w' => e = .returned (.int .i64 (taskB s at_)) ∧ w = w' := by
  unfold taskB
  by_cases c : at_ < 0
  · rw [if_pos c]; exact askB_neg w T at_ c (ask_tx h (-1))
  · rw [if_neg c]; exact askB_pos w T at_ _ c (by omega) (Lib.hid (by rw [half (by omega) h1]; exact ask_tx h _))
set_option maxHeartbeats 800000 in
set_option maxRecDepth 100000 in
theorem open_core (w : World) (T N : Nat) (x : Int) (c0 : w.cell? ⟨T, 0, none⟩ = some (.pointer (some ⟨N, 0, none⟩))) (ha : Hid (Calls Try.prog 44 #[.pointer (some ⟨T, 0, none⟩), .int .i64 1] w fun e w' => e = .returned (.int .u8 x) ∧ Ch (fun _ => False) w w')) :
    Calls Try.prog 17 #[.pointer (some ⟨T, 0, none⟩)] w fun e w' => e = .returned (.bool (x != 0)) ∧ Ch (fun _ => False) w w' := by
  go_enter Try.func17, Try.ntmps17
  go_wp2_with (first | (go_at_call 42; refine (toff_some _ _ _ c0).mono ?_; rintro e w' ⟨rfl, rfl⟩) | (go_at_call 44; refine ha.out.mono ?_; rintro e w' ⟨rfl, c1⟩))
  go_ret
  exact ⟨rfl, c1⟩
theorem open_tx {w : World} {F : Nat → Prop} {T N L : Nat} {s : St} (h : Tx w F T N L s) :
    Calls Try.prog 17 #[.pointer (some ⟨T, 0, none⟩)] w fun e w' => e = .returned (.bool s.opn) ∧ Ch (fun _ => False) w w' := by
  have h0 := h.ok.len0
  exact open_core w T N _ h.c0 (byte_any h 1 (by have := h.len; omega))
set_option maxHeartbeats 800000 in
set_option maxRecDepth 100000 in
theorem room_core (w : World) (T N : Nat) (x : Int) (x0 : 0 ≤ x) (x1 : x ≤ 100) (c0 : w.cell? ⟨T, 0, none⟩ = some (.pointer (some ⟨N, 0, none⟩))) (ha : Hid (Calls Try.prog 45 #[.pointer (some ⟨T, 0, none⟩)] w fun e w' => e = .returned (.int .i64 x) ∧ Ch (fun _ => False) w w')) :
    Calls Try.prog 18 #[.pointer (some ⟨T, 0, none⟩)] w fun e w' => e = .returned (.int .i64 (100 - x)) ∧ Ch (fun _ => False) w w' := by
  go_enter Try.func18, Try.ntmps18
  go_wp2_with (first | (go_at_call 42; refine (toff_some _ _ _ c0).mono ?_; rintro e w' ⟨rfl, rfl⟩) | (go_at_call 45; refine ha.out.mono ?_; rintro e w' ⟨rfl, c1⟩))
  go_ret
  exact ⟨rfl, c1⟩
theorem cnt_b {l : List Int} (h : By l) : 0 ≤ cnt l ∧ cnt l ≤ 100 := by have := h.get 0; unfold cnt; omega
theorem room_tx {w : World} {F : Nat → Prop} {T N L : Nat} {s : St} (h : Tx w F T N L s) :
    Calls Try.prog 18 #[.pointer (some ⟨T, 0, none⟩)] w fun e w' => e = .returned (.int .i64 (100 - cnt s.l)) ∧ Ch (fun _ => False) w w' := by
  have hb := cnt_b h.ok.by_
  exact room_core w T N _ hb.1 hb.2 h.c0 (count_any h)
set_option maxHeartbeats 800000 in
set_option maxRecDepth 100000 in
theorem nvm_core (w : World) (T N : Nat) (c0 : w.cell? ⟨T, 0, none⟩ = some (.pointer (some ⟨N, 0, none⟩))) :
    Calls Try.prog 19 #[.pointer (some ⟨T, 0, none⟩)] w fun e w' => e = .returned (.pointer (some ⟨N, 0, none⟩)) ∧ w = w' := by
  go_enter Try.func19, Try.ntmps19
  go_wp2_with (go_at_call 42; refine (toff_some _ _ _ c0).mono ?_; rintro e w' ⟨rfl, rfl⟩)
  go_ret
  exact ⟨rfl, rfl⟩
set_option maxHeartbeats 800000 in
set_option maxRecDepth 100000 in
theorem newt_core (w : World) (N n : Nat) (hn : ((n : Int) == 0) = false) (ha : Hid (Calls Try.prog 28 #[.pointer (some ⟨N, 0, none⟩)] w fun e w' => e = .returned (.int .i64 n) ∧ w = w')) :
    Calls Try.prog 7 #[.pointer (some ⟨N, 0, none⟩)] w fun e w' => e = .returned (.tuple #[.pointer (some ⟨w.heap.size, 0, none⟩), .int .i64 0]) ∧ w' = w.alloc (.cells #[.pointer (some ⟨N, 0, none⟩)] 30) := by
  go_enter Try.func7, Try.ntmps7
  go_wp2_with (go_at_call 28; refine ha.out.mono ?_; rintro e w' ⟨rfl, rfl⟩)
  go_ret2
  exact ⟨rfl, rfl⟩
theorem newt_tx {w : World} {F : Nat → Prop} {N : Nat} {s : St} (h : Nv w F N s) :
    Calls Try.prog 7 #[.pointer (some ⟨N, 0, none⟩)] w fun e w' => e = .returned (.tuple #[.pointer (some ⟨w.heap.size, 0, none⟩), .int .i64 0]) ∧ Tx w' F w.heap.size N s.l.length s ∧ Ch (fun _ => False) w w' := by
  have h0 := h.ok.len0
  refine (newt_core w N s.l.length (by rw [beq_eq_false_iff_ne]; omega) (size_any h)).mono ?_
  rintro e w' ⟨rfl, rfl⟩
  exact ⟨rfl, ⟨Blk.new w _ _, h.alloc _, fun hf => by have := h.fb _ hf; omega, rfl⟩, (Ch.refl _ _).alloc _⟩
set_option maxHeartbeats 800000 in
set_option maxRecDepth 100000 in
theorem state_ne (w : World) (T N : Nat) (b o : Bool) (r : Int) (F : Nat → Prop) (L : Nat) (s : St) (hx : Tx w F T N L s) (c0 : w.cell? ⟨T, 0, none⟩ = some (.pointer (some ⟨N, 0, none⟩))) (ha : Hid (Calls Try.prog 17 #[.pointer (some ⟨T, 0, none⟩)] w fun e w' => e = .returned (.bool o) ∧ Ch (fun _ => False) w w'))
    (hb : Hid (∀ w1 : World, Tx w1 F T N L s → Calls Try.prog 43 #[.pointer (some ⟨T, 0, none⟩)] w1 fun e w' => e = .returned (.int .i64 r) ∧ w1 = w')) (h : o = !b) :
    Calls Try.prog 40 #[.pointer (some ⟨T, 0, none⟩), .bool b] w fun e w' => e = .returned (.int .i64 10) ∧ Ch (fun _ => False) w w' := by
  subst h
  cases b
  all_goals
    go_enter Try.func40, Try.ntmps40
    go_wp2_with (first | (go_at_call 42; refine (toff_some _ _ _ c0).mono ?_; rintro e w' ⟨rfl, rfl⟩) | (go_at_call 17; refine ha.out.mono ?_; rintro e w' ⟨rfl, c1⟩) | (go_at_call 43; refine (hb.out _ (hx.gr c1)).mono ?_; rintro e w' ⟨rfl, rfl⟩))
    go_ret
    exact ⟨rfl, c1⟩
set_option maxHeartbeats 800000 in
set_option maxRecDepth 100000 in
theorem state_eq (w : World) (T N : Nat) (b o : Bool) (r : Int) (F : Nat → Prop) (L : Nat) (s : St) (hx : Tx w F T N L s) (c0 : w.cell? ⟨T, 0, none⟩ = some (.pointer (some ⟨N, 0, none⟩))) (ha : Hid (Calls Try.prog 17 #[.pointer (some ⟨T, 0, none⟩)] w fun e w' => e = .returned (.bool o) ∧ Ch (fun _ => False) w w'))
    (hb : Hid (∀ w1 : World, Tx w1 F T N L s → Calls Try.prog 43 #[.pointer (some ⟨T, 0, none⟩)] w1 fun e w' => e = .returned (.int .i64 r) ∧ w1 = w')) (h : o = b) :
    Calls Try.prog 40 #[.pointer (some ⟨T, 0, none⟩), .bool b] w fun e w' => e = .returned (.int .i64 r) ∧ Ch (fun _ => False) w w' := by
  subst h
  cases o
  all_goals
    go_enter Try.func40, Try.ntmps40
    go_wp2_with (first | (go_at_call 42; refine (toff_some _ _ _ c0).mono ?_; rintro e w' ⟨rfl, rfl⟩) | (go_at_call 17; refine ha.out.mono ?_; rintro e w' ⟨rfl, c1⟩) | (go_at_call 43; refine (hb.out _ (hx.gr c1)).mono ?_; rintro e w' ⟨rfl, rfl⟩))
    go_ret
    exact ⟨rfl, c1⟩
def tstate (s : St) (b : Bool) : Int := if s.opn = b then s.pow else 10
theorem state_tx {w : World} {F : Nat → Prop} {T N L : Nat} {s : St} (h : Tx w F T N L s) (b : Bool) :
    Calls Try.prog 40 #[.pointer (some ⟨T, 0, none⟩), .bool b] w fun e w' => e = .returned (.int .i64 (tstate s b)) ∧ Ch (fun _ => False) w w' := by
  unfold tstate
  by_cases c : s.opn = b
  · rw [if_pos c]; exact state_eq w T N b _ _ F L s h h.c0 (open_tx h) (Lib.hid (fun w1 h1 => power_any h1)) c
  · rw [if_neg c]; exact state_ne w T N b _ _ F L s h h.c0 (open_tx h) (Lib.hid (fun w1 h1 => power_any h1)) (by revert c; cases s.opn <;> cases b <;> simp)
set_option maxHeartbeats 800000 in
set_option maxRecDepth 100000 in
theorem word_ref (w : World) (T : Nat) (at_ r : Int) (hr : (r != 0) = true) (ha : Hid (Calls Try.prog 29 #[.pointer (some ⟨T, 0, none⟩), .int .i64 at_] w fun e w' => e = .returned (.int .i64 r) ∧ w = w')) :
    Calls Try.prog 8 #[.pointer (some ⟨T, 0, none⟩), .int .i64 at_] w fun e w' => e = .returned (.tuple #[.int .u16 0, .int .i64 r]) ∧ w = w' := by
  go_enter Try.func8, Try.ntmps8
  go_wp2_with (go_at_call 29; refine ha.out.mono ?_; rintro e w' ⟨rfl, rfl⟩)
  go_ret2
  exact ⟨rfl, rfl⟩
set_option maxHeartbeats 800000 in
set_option maxRecDepth 100000 in
theorem word_ok (w : World) (T : Nat) (at_ v : Int) (ha : Hid (Calls Try.prog 29 #[.pointer (some ⟨T, 0, none⟩), .int .i64 at_] w fun e w' => e = .returned (.int .i64 0) ∧ w = w'))
    (hb : Hid (Calls Try.prog 30 #[.pointer (some ⟨T, 0, none⟩), .int .i64 at_] w fun e w' => e = .returned (.int .u16 v) ∧ Ch (fun _ => False) w w')) :
    Calls Try.prog 8 #[.pointer (some ⟨T, 0, none⟩), .int .i64 at_] w fun e w' => e = .returned (.tuple #[.int .u16 v, .int .i64 0]) ∧ Ch (fun _ => False) w w' := by
  go_enter Try.func8, Try.ntmps8
  go_wp2_with (first | (go_at_call 29; refine ha.out.mono ?_; rintro e w' ⟨rfl, rfl⟩) | (go_at_call 30; refine hb.out.mono ?_; rintro e w' ⟨rfl, c1⟩))
  go_ret2
  exact ⟨rfl, c1⟩
/-- A word is asked for. -/
def tword (s : St) (at_ : Int) : Int × Int := if task s at_ = 0 then (pr s.l (2 * at_).toNat, 0) else (0, task s at_)
theorem task_ok {s : St} {at_ : Int} (h : task s at_ = 0) : s.dark = false ∧ 256 ≤ at_ ∧ 2 * at_ + 1 < s.l.length := by
  unfold task at h
  split at h
  · simp at h
  · split at h
    · simp at h
    · unfold St.pow at h
      split at h
      · simp at h
      · rename_i h1 h2 h3
        refine ⟨by simpa using h3, by omega, by omega⟩
theorem word_tx {w : World} {F : Nat → Prop} {T N L : Nat} {s : St} (h : Tx w F T N L s) (at_ : Int) :
    Calls Try.prog 8 #[.pointer (some ⟨T, 0, none⟩), .int .i64 at_] w fun e w' => e = .returned (.tuple #[.int .u16 (tword s at_).1, .int .i64 (tword s at_).2]) ∧ Ch (fun _ => False) w w' := by
  have ha := ask_tx h at_
  unfold tword
  by_cases c : task s at_ = 0
  · rw [if_pos c]
    rw [c] at ha
    obtain ⟨_, h1, h2⟩ := task_ok c
    have hw := was_any h at_.toNat (by have := h.len; omega)
    rw [show ((at_.toNat : Nat) : Int) = at_ from by omega, show 2 * at_.toNat = (2 * at_).toNat from by omega] at hw
    exact word_ok w T at_ _ ha hw
  · rw [if_neg c]
    refine (word_ref w T at_ _ (by rw [bne_iff_ne]; exact c) ha).mono ?_
    rintro e w' ⟨rfl, rfl⟩
    exact ⟨rfl, Ch.refl _ _⟩
set_option maxHeartbeats 800000 in
set_option maxRecDepth 100000 in
theorem tbyte_ref (w : World) (T : Nat) (at_ r : Int) (hr : (r != 0) = true) (ha : Hid (Calls Try.prog 31 #[.pointer (some ⟨T, 0, none⟩), .int .i64 at_] w fun e w' => e = .returned (.int .i64 r) ∧ w = w')) :
    Calls Try.prog 9 #[.pointer (some ⟨T, 0, none⟩), .int .i64 at_] w fun e w' => e = .returned (.tuple #[.int .u8 0, .int .i64 r]) ∧ w = w' := by
  go_enter Try.func9, Try.ntmps9
  go_wp2_with (go_at_call 31; refine ha.out.mono ?_; rintro e w' ⟨rfl, rfl⟩)
  go_ret2
  exact ⟨rfl, rfl⟩
set_option maxHeartbeats 800000 in
set_option maxRecDepth 100000 in
theorem tbyte_ok (w : World) (T N : Nat) (at_ v r : Int) (c0 : w.cell? ⟨T, 0, none⟩ = some (.pointer (some ⟨N, 0, none⟩))) (ha : Hid (Calls Try.prog 31 #[.pointer (some ⟨T, 0, none⟩), .int .i64 at_] w fun e w' => e = .returned (.int .i64 0) ∧ w = w'))
    (hb : Hid (Calls Try.prog 32 #[.pointer (some ⟨N, 0, none⟩), .int .i64 at_] w fun e w' => e = .returned (.tuple #[.int .u8 v, .int .i64 r]) ∧ w = w')) :
    Calls Try.prog 9 #[.pointer (some ⟨T, 0, none⟩), .int .i64 at_] w fun e w' => e = .returned (.tuple #[.int .u8 v, .int .i64 r]) ∧ w = w' := by
  go_enter Try.func9, Try.ntmps9
  go_wp2_with (first | (go_at_call 31; refine ha.out.mono ?_; rintro e w' ⟨rfl, rfl⟩) | (go_at_call 32; refine hb.out.mono ?_; rintro e w' ⟨rfl, rfl⟩))
  go_ret2
  exact ⟨rfl, rfl⟩
def tbyte (s : St) (at_ : Int) : Int × Int := if taskB s at_ = 0 then s.get at_ else (0, taskB s at_)
theorem tbyte_tx {w : World} {F : Nat → Prop} {T N L : Nat} {s : St} (h : Tx w F T N L s) (at_ : Int) (h1 : at_ ≤ 9223372036854775807) :
    Calls Try.prog 9 #[.pointer (some ⟨T, 0, none⟩), .int .i64 at_] w fun e w' => e = .returned (.tuple #[.int .u8 (tbyte s at_).1, .int .i64 (tbyte s at_).2]) ∧ w = w' := by
  have ha := askB_tx h at_ h1
  unfold tbyte
  by_cases c : taskB s at_ = 0
  · rw [if_pos c]
    rw [c] at ha
    exact tbyte_ok w T N at_ _ _ h.c0 ha (get_any h.n at_)
  · rw [if_neg c]
    exact tbyte_ref w T at_ _ (by rw [bne_iff_ne]; exact c) ha
end Go.Proofs.Ytfnlpmakhlpgcaa.Nvm
