/- The calls of txn that write, whole. -/
import Derived.Test.YtjeaidmmhplglaaTxnUndo
set_option linter.unusedVariables false
set_option linter.unusedSimpArgs false
namespace Go.Proofs.Ytjeaidmmhplglaa.Nvm
open Go.RowKit Go.Proofs.Ytjeaidmmhplglaa.Base
def tput (s : St) (at_ v : Int) : St × Int :=
  if task s at_ ≠ 0 then (s, task s at_) else if s.opn = true then runs [fkept at_, fword at_ v] s else runs [fentry 0 at_, fword at_ v, fput 0 0] s
def tputb (s : St) (at_ v : Int) : St × Int :=
  if taskB s at_ ≠ 0 then (s, taskB s at_) else if s.opn = true then runs [fkept (at_ / 2), fput at_ v] s else s.put at_ v
def traw (s : St) (at_ v : Int) : St × Int := if taskB s at_ ≠ 0 then (s, taskB s at_) else s.put at_ v
def tbegin (s : St) : St × Int := if tstate s false ≠ 0 then (s, tstate s false) else s.put 1 1
def tcommit (s : St) : St × Int := if tstate s true ≠ 0 then (s, tstate s true) else runs [fput 0 0, fput 1 0] s
def tabort (s : St) : St × Int := if tstate s true ≠ 0 then (s, tstate s true) else fundo s
def trecover (s : St) : St × Int := if s.pow ≠ 0 then (s, s.pow) else fundo s
theorem taskB_ok {s : St} {at_ : Int} (h : taskB s at_ = 0) : 0 ≤ at_ ∧ 256 ≤ at_ / 2 ∧ 2 * (at_ / 2) + 1 < s.l.length ∧ task s (at_ / 2) = 0 := by
  unfold taskB at h
  split at h
  · simp at h
  · obtain ⟨_, h1, h2⟩ := task_ok h
    exact ⟨by omega, h1, h2, h⟩
theorem tput_tx {w : World} {F : Nat → Prop} {T N L : Nat} {s : St} (hx : Tx w F T N L s) (at_ v : Int) (v0 : 0 ≤ v) (v1 : v ≤ 65535) :
    Calls Try.prog 22 #[.pointer (some ⟨T, 0, none⟩), .int .i64 at_, .int .u16 v] w (Does w F T N L (tput s at_ v)) := by
  have hl := hx.len
  have h1 := hx.ok.len1
  unfold tput
  by_cases c : task s at_ = 0
  · rw [if_neg (by simp [c])]
    obtain ⟨_, a0, a1⟩ := task_ok c
    by_cases o : s.opn = true
    · rw [if_pos o]
      exact tput_open hx at_ v _ _ (Lib.hid fun w1 t => by have := ask_tx t at_; rwa [c] at this) (Lib.hid fun w1 t => by have := open_tx t; rwa [o] at this) (Lib.hid fun w1 s1 t => kept_tx t at_ (by omega) (by omega)) (Lib.hid fun w1 t => words_any t at_ v (by omega) (by omega) v0 v1)
    · rw [if_neg o]
      have o' : s.opn = false := by simpa using o
      exact tput_shut hx at_ v _ _ _ (Lib.hid fun w1 t => by have := ask_tx t at_; rwa [c] at this) (Lib.hid fun w1 t => by have := open_tx t; rwa [o'] at this) (Lib.hid fun w1 t => entries_any t 0 at_ (by omega) (by omega) (by omega) (by omega)) (Lib.hid fun w1 t => words_any t at_ v (by omega) (by omega) v0 v1) (Lib.hid fun w1 t => puts_any t 0 0 (by omega) (by omega))
  · rw [if_pos c]
    exact tput_ref hx at_ v _ (by rw [bne_iff_ne]; exact c) (Lib.hid fun w1 t => ask_tx t at_)
theorem tputb_tx {w : World} {F : Nat → Prop} {T N L : Nat} {s : St} (hx : Tx w F T N L s) (at_ v : Int) (h2 : at_ ≤ 9223372036854775807) (v0 : 0 ≤ v) (v1 : v ≤ 255) :
    Calls Try.prog 39 #[.pointer (some ⟨T, 0, none⟩), .int .i64 at_, .int .u8 v] w (Does w F T N L (tputb s at_ v)) := by
  have hl := hx.len
  have h1 := hx.ok.len1
  unfold tputb
  by_cases c : taskB s at_ = 0
  · rw [if_neg (by simp [c])]
    obtain ⟨a, a0, a1, _⟩ := taskB_ok c
    by_cases o : s.opn = true
    · rw [if_pos o]
      exact tputby_open hx at_ v _ _ (Lib.hid fun w1 t => by have := askB_tx t at_ h2; rwa [c] at this) (Lib.hid fun w1 t => by have := open_tx t; rwa [o] at this) (Lib.hid fun w1 s1 t => by rw [half a h2]; exact kept_tx t (at_ / 2) (by omega) (by omega)) (Lib.hid fun w1 t => puts_any t at_ v v0 v1)
    · rw [if_neg o]
      have o' : s.opn = false := by simpa using o
      exact tputby_shut hx at_ v (fput at_ v) (Lib.hid fun w1 t => by have := askB_tx t at_ h2; rwa [c] at this) (Lib.hid fun w1 t => by have := open_tx t; rwa [o'] at this) (Lib.hid fun w1 t => puts_any t at_ v v0 v1)
  · rw [if_pos c]
    exact tputby_ref hx at_ v _ (by rw [bne_iff_ne]; exact c) (Lib.hid fun w1 t => askB_tx t at_ h2)
set_option maxHeartbeats 1600000 in
set_option maxRecDepth 100000 in
theorem raw_ref (w : World) (T : Nat) (at_ v : Int) (r : Int) (hr : (r != 0) = true) (S : World → Prop) (ha : Hid (Calls Try.prog 54 #[.pointer (some ⟨T, 0, none⟩), .int .i64 at_] w fun e w' => e = .returned (.int .i64 r) ∧ S w')) :
    Calls Try.prog 30 #[.pointer (some ⟨T, 0, none⟩), .int .i64 at_, .int .u8 v] w fun e w' => e = .returned (.int .i64 r) ∧ S w' := by
  go_enter Try.func30, Try.ntmps30
  go_wp2_with (go_at_call 54; refine ha.out.mono ?_; rintro e w' ⟨rfl, hS⟩)
  go_ret
  exact ⟨rfl, hS⟩
set_option maxHeartbeats 1600000 in
set_option maxRecDepth 100000 in
theorem raw_ok {w : World} {F : Nat → Prop} {T N L : Nat} {s : St} (hx : Tx w F T N L s) (at_ v : Int) (g : St → St × Int) (ha : Hid (Calls Try.prog 54 #[.pointer (some ⟨T, 0, none⟩), .int .i64 at_] w fun e w' => e = .returned (.int .i64 0) ∧ Ch (fun _ => False) w w'))
    (hw : Hid (∀ w1 : World, Tx w1 F T N L s → Calls Try.prog 52 #[.pointer (some ⟨T, 0, none⟩), .int .i64 at_, .int .u8 v] w1 (GivesStp w1 F T N L g))) :
    Calls Try.prog 30 #[.pointer (some ⟨T, 0, none⟩), .int .i64 at_, .int .u8 v] w (Does w F T N L (g s)) := by
  go_enter Try.func30, Try.ntmps30
  go_wp2_with (fail)
  refine ha.out.mono ?_
  rintro e w2 ⟨rfl, c2⟩
  have t2 := hx.gr c2
  go_wp2_with (fail)
  refine (hw.out _ t2).mono ?_
  rintro e w3 ⟨G, C, rfl, hs2, c3⟩
  have t3 := t2.gr c3
  have d3 := c2.then c3
  obtain ⟨hin, hcall⟩ := hs2.call
  have HC := Lib.hid (hcall w3 s (Ch.refl _ _) t3)
  clear hcall hs2
  generalize g s = R at *
  go_wp2_with (fail)
  refine HC.out.mono ?_
  rintro e w4 ⟨rfl, t4, c4⟩
  go_wp2_with (fail)
  go_ret
  exact ⟨rfl, t4, d3.gr.then c4⟩
theorem traw_tx {w : World} {F : Nat → Prop} {T N L : Nat} {s : St} (hx : Tx w F T N L s) (at_ v : Int) (h2 : at_ ≤ 9223372036854775807) (v0 : 0 ≤ v) (v1 : v ≤ 255) :
    Calls Try.prog 30 #[.pointer (some ⟨T, 0, none⟩), .int .i64 at_, .int .u8 v] w (Does w F T N L (traw s at_ v)) := by
  have ha := askB_tx hx at_ h2
  unfold traw
  by_cases c : taskB s at_ = 0
  · rw [if_neg (by simp [c])]
    rw [c] at ha
    exact raw_ok hx at_ v (fput at_ v) (Lib.hid (ha.mono (by rintro e w' ⟨rfl, rfl⟩; exact ⟨rfl, Ch.refl _ _⟩))) (Lib.hid fun w1 t => puts_any t at_ v v0 v1)
  · rw [if_pos c]
    refine (raw_ref w T at_ v _ (by rw [bne_iff_ne]; exact c) (fun w' => w = w') ha).mono ?_
    rintro e w' ⟨rfl, rfl⟩
    exact ⟨rfl, hx, Ch.refl _ _⟩
end Go.Proofs.Ytjeaidmmhplglaa.Nvm
