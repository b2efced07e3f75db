/- The calls of txn that write, whole. -/
import Derived.Test.YtfnlpmakhlpgcaaTxnUndo
namespace Go.Proofs.Ytfnlpmakhlpgcaa.Nvm
open Go.RowKit Go.Proofs.Ytfnlpmakhlpgcaa.Base
def tput (s : St) (at_ v : Int) : St × Int :=
  if task s at_ ≠ 0 then (s, task s at_) else if s.opn = true then runs [fkept at_, fword at_ v] s else runs [fentry 0 at_, fword at_ v, fput 0 0] s
def tputb (s : St) (at_ v : Int) : St × Int :=
  if taskB s at_ ≠ 0 then (s, taskB s at_) else if s.opn = true then runs [fkept (at_ / 2), fput at_ v] s else s.put at_ v
def traw (s : St) (at_ v : Int) : St × Int := if taskB s at_ ≠ 0 then (s, taskB s at_) else s.put at_ v
def tbegin (s : St) : St × Int := if tstate s false ≠ 0 then (s, tstate s false) else s.put 1 1
def tcommit (s : St) : St × Int := if tstate s true ≠ 0 then (s, tstate s true) else runs [fput 0 0, fput 1 0] s
def tabort (s : St) : St × Int := if tstate s true ≠ 0 then (s, tstate s true) else fundo s
def trecover (s : St) : St × Int := if s.pow ≠ 0 then (s, s.pow) else fundo s
theorem taskB_ok {s : St} {at_ : Int} (h : taskB s at_ = 0) : 0 ≤ at_ ∧ 256 ≤ at_ / 2 ∧ 2 * (at_ / 2) + 1 < s.l.length ∧ task s (at_ / 2) = 0 := by
  unfold taskB at h
  split at h
  · simp at h
  · obtain ⟨_, h1, h2⟩ := task_ok h
    exact ⟨by omega, h1, h2, h⟩
theorem tput_tx {w : World} {F : Nat → Prop} {T N L : Nat} {s : St} (hx : Tx w F T N L s) (at_ v : Int) (v0 : 0 ≤ v) (v1 : v ≤ 65535) :
    Calls Try.prog 10 #[.pointer (some ⟨T, 0, none⟩), .int .i64 at_, .int .u16 v] w (Does w F T N L (tput s at_ v)) := by
  have hl := hx.len
  have h1 := hx.ok.len1
  unfold tput
  by_cases c : task s at_ = 0
  · rw [if_neg (by simp [c])]
    obtain ⟨_, a0, a1⟩ := task_ok c
    by_cases o : s.opn = true
    · rw [if_pos o]
      exact tput_open hx at_ v _ _ (Lib.hid fun w1 t => by have := ask_tx t at_; rwa [c] at this) (Lib.hid fun w1 t => by have := open_tx t; rwa [o] at this) (Lib.hid fun w1 s1 t => kept_tx t at_ (by omega) (by omega)) (Lib.hid fun w1 t => words_any t at_ v (by omega) (by omega) v0 v1)
    · rw [if_neg o]
      have o' : s.opn = false := by simpa using o
      exact tput_shut hx at_ v _ _ _ (Lib.hid fun w1 t => by have := ask_tx t at_; rwa [c] at this) (Lib.hid fun w1 t => by have := open_tx t; rwa [o'] at this) (Lib.hid fun w1 t => entries_any t 0 at_ (by omega) (by omega) (by omega) (by omega)) (Lib.hid fun w1 t => words_any t at_ v (by omega) (by omega) v0 v1) (Lib.hid fun w1 t => puts_any t 0 0 (by omega) (by omega))
  · rw [if_pos c]
    exact tput_ref hx at_ v _ (by rw [bne_iff_ne]; exact c) (Lib.hid fun w1 t => ask_tx t at_)
theorem tputb_tx {w : World} {F : Nat → Prop} {T N L : Nat} {s : St} (hx : Tx w F T N L s) (at_ v : Int) (h2 : at_ ≤ 9223372036854775807) (v0 : 0 ≤ v) (v1 : v ≤ 255) :
    Calls Try.prog 11 #[.pointer (some ⟨T, 0, none⟩), .int .i64 at_, .int .u8 v] w (Does w F T N L (tputb s at_ v)) := by
  have hl := hx.len
  have h1 := hx.ok.len1
  unfold tputb
  by_cases c : taskB s at_ = 0
  · rw [if_neg (by simp [c])]
    obtain ⟨a, a0, a1, _⟩ := taskB_ok c
    by_cases o : s.opn = true
    · rw [if_pos o]
      exact tputby_open hx at_ v _ _ (Lib.hid fun w1 t => by have := askB_tx t at_ h2; rwa [c] at this) (Lib.hid fun w1 t => by have := open_tx t; rwa [o] at this) (Lib.hid fun w1 s1 t => by rw [half a h2]; exact kept_tx t (at_ / 2) (by omega) (by omega)) (Lib.hid fun w1 t => puts_any t at_ v v0 v1)
    · rw [if_neg o]
      have o' : s.opn = false := by simpa using o
      exact tputby_shut hx at_ v (fput at_ v) (Lib.hid fun w1 t => by have := askB_tx t at_ h2; rwa [c] at this) (Lib.hid fun w1 t => by have := open_tx t; rwa [o'] at this) (Lib.hid fun w1 t => puts_any t at_ v v0 v1)
  · rw [if_pos c]
    exact tputby_ref hx at_ v _ (by rw [bne_iff_ne]; exact c) (Lib.hid fun w1 t => askB_tx t at_ h2)
set_option maxHeartbeats 1600000 in
set_option maxRecDepth 100000 in
theorem raw_ref (w : World) (T : Nat) (at_ v : Int) (r : Int) (hr : (r != 0) = true) (S : World → Prop) (ha : Hid (Calls Try.prog 31 #[.pointer (some ⟨T, 0, none⟩), .int .i64 at_] w fun e w' => e = .returned (.int .i64 r) ∧ S w')) :
    Calls Try.prog 12 #[.pointer (some ⟨T, 0, none⟩), .int .i64 at_, .int .u8 v] w fun e w' => e = .returned (.int .i64 r) ∧ S w' := by
  go_enter Try.func12, Try.ntmps12
  go_wp2_with (go_at_call 31; refine ha.out.mono ?_; rintro e w' ⟨rfl, hS⟩)
  go_ret
  exact ⟨rfl, hS⟩
set_option maxHeartbeats 1600000 in
set_option maxRecDepth 100000 in
theorem raw_ok {w : World} {F : Nat → Prop} {T N L : Nat} {s : St} (hx : Tx w F T N L s) (at_ v : Int) (g : St → St × Int) (ha : Hid (Calls Try.prog 31 #[.pointer (some ⟨T, 0, none⟩), .int .i64 at_] w fun e w' => e = .returned (.int .i64 0) ∧ Ch (fun _ => False) w w'))
    (hw : Hid (∀ w1 : World, Tx w1 F T N L s → Calls Try.prog 38 #[.pointer (some ⟨T, 0, none⟩), .int .i64 at_, .int .u8 v] w1 (GivesStp w1 F T N L g))) :
    Calls Try.prog 12 #[.pointer (some ⟨T, 0, none⟩), .int .i64 at_, .int .u8 v] w (Does w F T N L (g s)) := by
  go_enter Try.func12, Try.ntmps12
  go_wp2_with (fail)
  refine ha.out.mono ?_
  rintro e w2 ⟨rfl, c2⟩
  have t2 := hx.gr c2
  go_wp2_with (fail)
  refine (hw.out _ t2).mono ?_
  rintro e w3 ⟨G, C, rfl, hs2, c3⟩
  have t3 := t2.gr c3
  have d3 := c2.then c3
  obtain ⟨hin, hcall⟩ := hs2.call
  have HC := Lib.hid (hcall w3 s (Ch.refl _ _) t3)
  clear hcall hs2
  generalize g s = R at *
  go_wp2_with (fail)
  refine HC.out.mono ?_
  rintro e w4 ⟨rfl, t4, c4⟩
  go_wp2_with (fail)
  go_ret
  exact ⟨rfl, t4, d3.gr.then c4⟩
theorem traw_tx {w : World} {F : Nat → Prop} {T N L : Nat} {s : St} (hx : Tx w F T N L s) (at_ v : Int) (h2 : at_ ≤ 9223372036854775807) (v0 : 0 ≤ v) (v1 : v ≤ 255) :
    Calls Try.prog 12 #[.pointer (some ⟨T, 0, none⟩), .int .i64 at_, .int .u8 v] w (Does w F T N L (traw s at_ v)) := by
  have ha := askB_tx hx at_ h2
  unfold traw
  by_cases c : taskB s at_ = 0
  · rw [if_neg (by simp [c])]
    rw [c] at ha
    exact raw_ok hx at_ v (fput at_ v) (Lib.hid (ha.mono (by rintro e w' ⟨rfl, rfl⟩; exact ⟨rfl, Ch.refl _ _⟩))) (Lib.hid fun w1 t => puts_any t at_ v v0 v1)
  · rw [if_pos c]
    refine (raw_ref w T at_ v _ (by rw [bne_iff_ne]; exact c) (fun w' => w = w') ha).mono ?_
    rintro e w' ⟨rfl, rfl⟩
    exact ⟨rfl, hx, Ch.refl _ _⟩
set_option maxHeartbeats 1600000 in
set_option maxRecDepth 100000 in
theorem begin_ref (w : World) (T : Nat) (r : Int) (hr : (r != 0) = true) (S : World → Prop) (ha : Hid (Calls Try.prog 40 #[.pointer (some ⟨T, 0, none⟩), .bool false] w fun e w' => e = .returned (.int .i64 r) ∧ S w')) :
    Calls Try.prog 13 #[.pointer (some ⟨T, 0, none⟩)] w fun e w' => e = .returned (.int .i64 r) ∧ S w' := by
  go_enter Try.func13, Try.ntmps13
  go_wp2_with (go_at_call 40; refine ha.out.mono ?_; rintro e w' ⟨rfl, hS⟩)
  go_ret
  exact ⟨rfl, hS⟩
set_option maxHeartbeats 1600000 in
set_option maxRecDepth 100000 in
theorem begin_ok {w : World} {F : Nat → Prop} {T N L : Nat} {s : St} (hx : Tx w F T N L s) (g : St → St × Int) (ha : Hid (Calls Try.prog 40 #[.pointer (some ⟨T, 0, none⟩), .bool false] w fun e w' => e = .returned (.int .i64 0) ∧ Ch (fun _ => False) w w'))
    (hw : Hid (∀ w1 : World, Tx w1 F T N L s → Calls Try.prog 38 #[.pointer (some ⟨T, 0, none⟩), .int .i64 1, .int .u8 1] w1 (GivesStp w1 F T N L g))) :
    Calls Try.prog 13 #[.pointer (some ⟨T, 0, none⟩)] w (Does w F T N L (g s)) := by
  go_enter Try.func13, Try.ntmps13
  go_wp2_with (fail)
  refine ha.out.mono ?_
  rintro e w2 ⟨rfl, c2⟩
  have t2 := hx.gr c2
  go_wp2_with (fail)
  refine (hw.out _ t2).mono ?_
  rintro e w3 ⟨G, C, rfl, hs2, c3⟩
  have t3 := t2.gr c3
  have d3 := c2.then c3
  obtain ⟨hin, hcall⟩ := hs2.call
  have HC := Lib.hid (hcall w3 s (Ch.refl _ _) t3)
  clear hcall hs2
  generalize g s = R at *
  go_wp2_with (fail)
  refine HC.out.mono ?_
  rintro e w4 ⟨rfl, t4, c4⟩
  go_wp2_with (fail)
  go_ret
  exact ⟨rfl, t4, d3.gr.then c4⟩
theorem tbegin_tx {w : World} {F : Nat → Prop} {T N L : Nat} {s : St} (hx : Tx w F T N L s) :
    Calls Try.prog 13 #[.pointer (some ⟨T, 0, none⟩)] w (Does w F T N L (tbegin s)) := by
  have ha := state_tx hx false
  unfold tbegin
  by_cases c : tstate s false = 0
  · rw [if_neg (by simp [c])]
    rw [c] at ha
    exact begin_ok hx (fput 1 1) (Lib.hid ha) (Lib.hid fun w1 t => puts_any t 1 1 (by omega) (by omega))
  · rw [if_pos c]
    refine (begin_ref w T _ (by rw [bne_iff_ne]; exact c) (fun w' => Ch (fun _ => False) w w') ha).mono ?_
    rintro e w' ⟨rfl, k⟩
    exact ⟨rfl, hx.gr k, k.gr⟩
set_option maxHeartbeats 1600000 in
set_option maxRecDepth 100000 in
theorem commit_ref (w : World) (T : Nat) (r : Int) (hr : (r != 0) = true) (S : World → Prop) (ha : Hid (Calls Try.prog 40 #[.pointer (some ⟨T, 0, none⟩), .bool true] w fun e w' => e = .returned (.int .i64 r) ∧ S w')) :
    Calls Try.prog 14 #[.pointer (some ⟨T, 0, none⟩)] w fun e w' => e = .returned (.int .i64 r) ∧ S w' := by
  go_enter Try.func14, Try.ntmps14
  go_wp2_with (go_at_call 40; refine ha.out.mono ?_; rintro e w' ⟨rfl, hS⟩)
  go_ret
  exact ⟨rfl, hS⟩
set_option maxHeartbeats 1600000 in
set_option maxRecDepth 100000 in
theorem abort_ref (w : World) (T : Nat) (r : Int) (hr : (r != 0) = true) (S : World → Prop) (ha : Hid (Calls Try.prog 40 #[.pointer (some ⟨T, 0, none⟩), .bool true] w fun e w' => e = .returned (.int .i64 r) ∧ S w')) :
    Calls Try.prog 15 #[.pointer (some ⟨T, 0, none⟩)] w fun e w' => e = .returned (.int .i64 r) ∧ S w' := by
  go_enter Try.func15, Try.ntmps15
  go_wp2_with (go_at_call 40; refine ha.out.mono ?_; rintro e w' ⟨rfl, hS⟩)
  go_ret
  exact ⟨rfl, hS⟩
set_option maxHeartbeats 1600000 in
set_option maxRecDepth 100000 in
theorem commit_ok {w : World} {F : Nat → Prop} {T N L : Nat} {s : St} (hx : Tx w F T N L s) (f g : St → St × Int) (ha : Hid (Calls Try.prog 40 #[.pointer (some ⟨T, 0, none⟩), .bool true] w fun e w' => e = .returned (.int .i64 0) ∧ Ch (fun _ => False) w w'))
    (h1 : Hid (∀ w1 : World, Tx w1 F T N L s → Calls Try.prog 38 #[.pointer (some ⟨T, 0, none⟩), .int .i64 0, .int .u8 0] w1 (GivesStp w1 F T N L f)))
    (h2 : Hid (∀ w1 : World, Tx w1 F T N L s → Calls Try.prog 38 #[.pointer (some ⟨T, 0, none⟩), .int .i64 1, .int .u8 0] w1 (GivesStp w1 F T N L g))) :
    Calls Try.prog 14 #[.pointer (some ⟨T, 0, none⟩)] w (Does w F T N L (runs [f, g] s)) := by
  generalize hR : runs [f, g] s = R at *
  go_enter Try.func14, Try.ntmps14
  go_wp2_with (fail)
  refine ha.out.mono ?_
  rintro e w2 ⟨rfl, c2⟩
  have t2 := hx.gr c2
  go_wp2_with (fail)
  refine (h1.out _ t2).mono ?_
  rintro e w3 ⟨G, C, rfl, s1, c3⟩
  have t3 := t2.gr c3
  have d3 := c2.then c3
  have S1 := Lib.hid s1
  clear s1
  go_wp2_with (fail)
  refine (h2.out _ t3).mono ?_
  rintro e w4 ⟨G2, C2, rfl, s2, c4⟩
  have t4 := t3.gr c4
  have d4 := d3.then c4
  have HD := do_two t4 (S1.out.ch c4.gr) s2
  rw [hR] at HD
  have HD' := Lib.hid HD
  clear HD S1 s2
  go_wp2_with (fail)
  refine HD'.out.mono ?_
  rintro e w5 ⟨rfl, t5, c5⟩
  go_wp2_with (fail)
  go_ret
  exact ⟨rfl, t5, d4.gr.then c5⟩
theorem tcommit_tx {w : World} {F : Nat → Prop} {T N L : Nat} {s : St} (hx : Tx w F T N L s) :
    Calls Try.prog 14 #[.pointer (some ⟨T, 0, none⟩)] w (Does w F T N L (tcommit s)) := by
  have ha := state_tx hx true
  unfold tcommit
  by_cases c : tstate s true = 0
  · rw [if_neg (by simp [c])]
    rw [c] at ha
    exact commit_ok hx (fput 0 0) (fput 1 0) (Lib.hid ha) (Lib.hid fun w1 t => puts_any t 0 0 (by omega) (by omega)) (Lib.hid fun w1 t => puts_any t 1 0 (by omega) (by omega))
  · rw [if_pos c]
    refine (commit_ref w T _ (by rw [bne_iff_ne]; exact c) (fun w' => Ch (fun _ => False) w w') ha).mono ?_
    rintro e w' ⟨rfl, k⟩
    exact ⟨rfl, hx.gr k, k.gr⟩
set_option maxHeartbeats 1600000 in
set_option maxRecDepth 100000 in
theorem abort_ok {w : World} {F : Nat → Prop} {T N L : Nat} {s : St} (hx : Tx w F T N L s) (R : St × Int) (ha : Hid (Calls Try.prog 40 #[.pointer (some ⟨T, 0, none⟩), .bool true] w fun e w' => e = .returned (.int .i64 0) ∧ Ch (fun _ => False) w w'))
    (h1 : Hid (∀ w1 : World, Tx w1 F T N L s → Calls Try.prog 41 #[.pointer (some ⟨T, 0, none⟩)] w1 (Does w1 F T N L R))) :
    Calls Try.prog 15 #[.pointer (some ⟨T, 0, none⟩)] w (Does w F T N L R) := by
  go_enter Try.func15, Try.ntmps15
  go_wp2_with (fail)
  refine ha.out.mono ?_
  rintro e w2 ⟨rfl, c2⟩
  have t2 := hx.gr c2
  go_wp2_with (fail)
  refine (h1.out _ t2).mono ?_
  rintro e w3 ⟨rfl, t3, c3⟩
  go_wp2_with (fail)
  go_ret
  exact ⟨rfl, t3, c2.gr.then c3⟩
theorem tabort_tx {w : World} {F : Nat → Prop} {T N L : Nat} {s : St} (hx : Tx w F T N L s) :
    Calls Try.prog 15 #[.pointer (some ⟨T, 0, none⟩)] w (Does w F T N L (tabort s)) := by
  have ha := state_tx hx true
  unfold tabort
  by_cases c : tstate s true = 0
  · rw [if_neg (by simp [c])]
    rw [c] at ha
    exact abort_ok hx _ (Lib.hid ha) (Lib.hid fun w1 t => undo_tx t)
  · rw [if_pos c]
    refine (abort_ref w T _ (by rw [bne_iff_ne]; exact c) (fun w' => Ch (fun _ => False) w w') ha).mono ?_
    rintro e w' ⟨rfl, k⟩
    exact ⟨rfl, hx.gr k, k.gr⟩
set_option maxHeartbeats 1600000 in
set_option maxRecDepth 100000 in
theorem recover_ref (w : World) (T N : Nat) (r : Int) (hr : (r != 0) = true) (c0 : w.cell? ⟨T, 0, none⟩ = some (.pointer (some ⟨N, 0, none⟩))) (ha : Hid (Calls Try.prog 43 #[.pointer (some ⟨T, 0, none⟩)] w fun e w' => e = .returned (.int .i64 r) ∧ w = w')) :
    Calls Try.prog 16 #[.pointer (some ⟨T, 0, none⟩)] w fun e w' => e = .returned (.int .i64 r) ∧ w = w' := by
  go_enter Try.func16, Try.ntmps16
  go_wp2_with (first | (go_at_call 42; refine (toff_some _ _ _ c0).mono ?_; rintro e w' ⟨rfl, rfl⟩) | (go_at_call 43; refine ha.out.mono ?_; rintro e w' ⟨rfl, rfl⟩))
  go_ret
  exact ⟨rfl, rfl⟩
set_option maxHeartbeats 1600000 in
set_option maxRecDepth 100000 in
theorem recover_ok (w : World) (T N : Nat) (c0 : w.cell? ⟨T, 0, none⟩ = some (.pointer (some ⟨N, 0, none⟩))) (r : Int) (S : World → Prop) (ha : Hid (Calls Try.prog 43 #[.pointer (some ⟨T, 0, none⟩)] w fun e w' => e = .returned (.int .i64 0) ∧ w = w'))
    (h1 : Hid (Calls Try.prog 41 #[.pointer (some ⟨T, 0, none⟩)] w fun e w' => e = .returned (.int .i64 r) ∧ S w')) :
    Calls Try.prog 16 #[.pointer (some ⟨T, 0, none⟩)] w fun e w' => e = .returned (.int .i64 r) ∧ S w' := by
  go_enter Try.func16, Try.ntmps16
  go_wp2_with (first | (go_at_call 42; refine (toff_some _ _ _ c0).mono ?_; rintro e w' ⟨rfl, rfl⟩) | (go_at_call 43; refine ha.out.mono ?_; rintro e w' ⟨rfl, rfl⟩) | (go_at_call 41; refine h1.out.mono ?_; rintro e w' ⟨rfl, hS⟩))
  go_ret
  exact ⟨rfl, hS⟩
theorem trecover_tx {w : World} {F : Nat → Prop} {T N L : Nat} {s : St} (hx : Tx w F T N L s) :
    Calls Try.prog 16 #[.pointer (some ⟨T, 0, none⟩)] w (Does w F T N L (trecover s)) := by
  have ha := power_any hx
  unfold trecover
  by_cases c : s.pow = 0
  · rw [if_neg (by simp [c])]
    rw [c] at ha
    exact recover_ok w T N hx.c0 _ (fun w' => Tx w' F T N L (fundo s).1 ∧ Ch F w w') ha (Lib.hid (undo_tx hx))
  · rw [if_pos c]
    refine (recover_ref w T N _ (by rw [bne_iff_ne]; exact c) hx.c0 ha).mono ?_
    rintro e w' ⟨rfl, rfl⟩
    exact ⟨rfl, hx, Ch.refl _ _⟩
end Go.Proofs.Ytfnlpmakhlpgcaa.Nvm
