/- The reference's txn: its calls, whole. -/
import Derived.Test.YtfnlpmakhlpgcaaTxnRefP
namespace Go.Proofs.Ytfnlpmakhlpgcaa.Nvm
open Go.RowKit Go.Proofs.Ytfnlpmakhlpgcaa.Base
theorem trput_tx {w : World} {F : Nat → Prop} {T N L : Nat} {s : St} (hx : Rx w F T N L s) (at_ v : Int) (v0 : 0 ≤ v) (v1 : v ≤ 65535) :
    Calls Try.prog 62 #[.pointer (some ⟨T, 0, none⟩), .int .i64 at_, .int .u16 v] w (Rds w F T N L (tput s at_ v)) := by
  have hl := hx.len
  have h1 := hx.ok.len1
  have ha := ris_any hx at_
  have ho := ropen_any hx
  unfold tput
  by_cases c : task s at_ = 0
  · rw [if_neg (by simp [c])]
    rw [c] at ha
    obtain ⟨_, a0, a1⟩ := task_ok c
    by_cases o : s.opn = true
    · rw [if_pos o, tput_open_eq hx.ok.by_ (by omega) (by omega)]
      rw [o] at ho
      have hk := rkept_any hx at_ (by omega) (by omega)
      by_cases k : kcode s at_ = 0
      · rw [if_pos k]
        rw [k] at hk
        exact trput_open hx at_ v _ (kws_len _ _) (by omega) (by omega) v0 v1 ha ho hk
      · rw [if_neg k]
        exact trput_kref hx at_ v _ _ (by rw [bne_iff_ne]; exact k) ha ho hk
    · rw [if_neg o, tput_shut_eq (by omega) (by omega)]
      have o' : s.opn = false := by simpa using o
      rw [o'] at ho
      exact trput_shut hx at_ v _ rfl (by omega) (by omega) v0 v1 ha ho (rentry_any hx 0 at_ (by omega) (by omega) (by omega) (by omega))
  · rw [if_pos c]
    exact trput_ref hx at_ v _ (by rw [bne_iff_ne]; exact c) ha
theorem one_fp (at_ v : Int) (s : St) : runs ([(at_, v)].map fp) s = s.put at_ v := by
  show (if (s.put at_ v).2 = 0 then ((s.put at_ v).1, 0) else s.put at_ v) = _
  split
  · rename_i h; exact Prod.ext rfl h.symm
  · rfl
theorem trputb_tx {w : World} {F : Nat → Prop} {T N L : Nat} {s : St} (hx : Rx w F T N L s) (at_ v : Int) (h2 : at_ ≤ 9223372036854775807) (v0 : 0 ≤ v) (v1 : v ≤ 255) :
    Calls Try.prog 63 #[.pointer (some ⟨T, 0, none⟩), .int .i64 at_, .int .u8 v] w (Rds w F T N L (tputb s at_ v)) := by
  have hl := hx.len
  have h1 := hx.ok.len1
  have ha := risB_any hx at_ h2
  have ho := ropen_any hx
  unfold tputb
  by_cases c : taskB s at_ = 0
  · rw [if_neg (by simp [c])]
    rw [c] at ha
    obtain ⟨a, a0, a1, _⟩ := taskB_ok c
    by_cases o : s.opn = true
    · rw [if_pos o, tputb_open_eq hx.ok.by_ (by omega) (by omega)]
      rw [o] at ho
      have hk := rkept_any hx (at_ / 2) (by omega) (by omega)
      have hk' : Calls Try.prog 79 #[.pointer (some ⟨T, 0, none⟩), .int .i64 (wrap64 (at_.tdiv 2))] w fun e w' => ∃ v, e = .returned (.tuple #[v, .int .i64 (kcode s (at_ / 2))]) ∧ WRow w' w.heap.size v (kws s (at_ / 2)) ∧ Ch (fun _ => False) w w' := by rw [half a h2]; exact hk
      by_cases k : kcode s (at_ / 2) = 0
      · rw [if_pos k]
        rw [k] at hk'
        exact trputb_open hx at_ v _ (kws_len _ _) v0 v1 ha ho hk'
      · rw [if_neg k]
        exact trputb_kref hx at_ v _ _ (by rw [bne_iff_ne]; exact k) ha ho hk'
    · rw [if_neg o, ← one_fp]
      have o' : s.opn = false := by simpa using o
      rw [o'] at ho
      exact trputb_shut hx at_ v v0 v1 ha ho
  · rw [if_pos c]
    exact trputb_ref hx at_ v _ (by rw [bne_iff_ne]; exact c) ha
set_option maxHeartbeats 1600000 in
set_option maxRecDepth 100000 in
theorem rraw_no (w : World) (T : Nat) (at_ v : Int) (r : Int) (hr : (r != 0) = true) (ha : Hid (Calls Try.prog 81 #[.pointer (some ⟨T, 0, none⟩), .int .i64 at_] w fun e w' => e = .returned (.int .i64 r) ∧ w = w')) :
    Calls Try.prog 64 #[.pointer (some ⟨T, 0, none⟩), .int .i64 at_, .int .u8 v] w fun e w' => e = .returned (.int .i64 r) ∧ w = w' := by
  go_enter Try.func64, Try.ntmps64
  go_wp2_with (go_at_call 81; refine ha.out.mono ?_; rintro e w' ⟨rfl, rfl⟩)
  go_ret
  exact ⟨rfl, rfl⟩
set_option maxHeartbeats 1600000 in
set_option maxRecDepth 100000 in
theorem rraw_yes (w : World) (T N : Nat) (at_ v : Int) (r : Int) (S : World → Prop) (c0 : w.cell? ⟨T, 0, none⟩ = some (.pointer (some ⟨N, 0, none⟩))) (ha : Hid (Calls Try.prog 81 #[.pointer (some ⟨T, 0, none⟩), .int .i64 at_] w fun e w' => e = .returned (.int .i64 0) ∧ w = w'))
    (hp : Hid (Calls Try.prog 82 #[.pointer (some ⟨N, 0, none⟩), .int .i64 at_, .int .u8 v] w fun e w' => e = .returned (.int .i64 r) ∧ S w')) :
    Calls Try.prog 64 #[.pointer (some ⟨T, 0, none⟩), .int .i64 at_, .int .u8 v] w fun e w' => e = .returned (.int .i64 r) ∧ S w' := by
  go_enter Try.func64, Try.ntmps64
  go_wp2_with (first | (go_at_call 81; refine ha.out.mono ?_; rintro e w' ⟨rfl, rfl⟩) | (go_at_call 82; refine hp.out.mono ?_; rintro e w' ⟨rfl, hS⟩))
  go_ret
  exact ⟨rfl, hS⟩
set_option maxHeartbeats 1600000 in
set_option maxRecDepth 100000 in
theorem rbegin_no (w : World) (T : Nat) (r : Int) (hr : (r != 0) = true) (ha : Hid (Calls Try.prog 83 #[.pointer (some ⟨T, 0, none⟩), .bool false] w fun e w' => e = .returned (.int .i64 r) ∧ w = w')) :
    Calls Try.prog 67 #[.pointer (some ⟨T, 0, none⟩)] w fun e w' => e = .returned (.int .i64 r) ∧ w = w' := by
  go_enter Try.func67, Try.ntmps67
  go_wp2_with (go_at_call 83; refine ha.out.mono ?_; rintro e w' ⟨rfl, rfl⟩)
  go_ret
  exact ⟨rfl, rfl⟩
set_option maxHeartbeats 1600000 in
set_option maxRecDepth 100000 in
theorem rbegin_yes (w : World) (T N : Nat) (r : Int) (S : World → Prop) (c0 : w.cell? ⟨T, 0, none⟩ = some (.pointer (some ⟨N, 0, none⟩))) (ha : Hid (Calls Try.prog 83 #[.pointer (some ⟨T, 0, none⟩), .bool false] w fun e w' => e = .returned (.int .i64 0) ∧ w = w'))
    (hp : Hid (Calls Try.prog 82 #[.pointer (some ⟨N, 0, none⟩), .int .i64 1, .int .u8 1] w fun e w' => e = .returned (.int .i64 r) ∧ S w')) :
    Calls Try.prog 67 #[.pointer (some ⟨T, 0, none⟩)] w fun e w' => e = .returned (.int .i64 r) ∧ S w' := by
  go_enter Try.func67, Try.ntmps67
  go_wp2_with (first | (go_at_call 83; refine ha.out.mono ?_; rintro e w' ⟨rfl, rfl⟩) | (go_at_call 82; refine hp.out.mono ?_; rintro e w' ⟨rfl, hS⟩))
  go_ret
  exact ⟨rfl, hS⟩
theorem trraw_tx {w : World} {F : Nat → Prop} {T N L : Nat} {s : St} (hx : Rx w F T N L s) (at_ v : Int) (h2 : at_ ≤ 9223372036854775807) (v0 : 0 ≤ v) (v1 : v ≤ 255) :
    Calls Try.prog 64 #[.pointer (some ⟨T, 0, none⟩), .int .i64 at_, .int .u8 v] w (Rds w F T N L (traw s at_ v)) := by
  have ha := risB_any hx at_ h2
  unfold traw
  by_cases c : taskB s at_ = 0
  · rw [if_neg (by simp [c])]
    rw [c] at ha
    exact rraw_yes w T N at_ v _ (fun w' => Rx w' F T N L (s.put at_ v).1 ∧ Ch F w w') hx.c0 ha (rput_rx hx at_ v v0 v1)
  · rw [if_pos c]
    refine (rraw_no w T at_ v _ (by rw [bne_iff_ne]; exact c) ha).mono ?_
    rintro e w' ⟨rfl, rfl⟩
    exact ⟨rfl, hx, Ch.refl _ _⟩
theorem trbegin_tx {w : World} {F : Nat → Prop} {T N L : Nat} {s : St} (hx : Rx w F T N L s) :
    Calls Try.prog 67 #[.pointer (some ⟨T, 0, none⟩)] w (Rds w F T N L (tbegin s)) := by
  have ha := rasked_any hx false
  unfold tbegin
  by_cases c : tstate s false = 0
  · rw [if_neg (by simp [c])]
    rw [c] at ha
    exact rbegin_yes w T N _ (fun w' => Rx w' F T N L (s.put 1 1).1 ∧ Ch F w w') hx.c0 ha (rput_rx hx 1 1 (by omega) (by omega))
  · rw [if_pos c]
    refine (rbegin_no w T _ (by rw [bne_iff_ne]; exact c) ha).mono ?_
    rintro e w' ⟨rfl, rfl⟩
    exact ⟨rfl, hx, Ch.refl _ _⟩
set_option maxHeartbeats 1600000 in
set_option maxRecDepth 100000 in
theorem rcommit_no (w : World) (T : Nat) (r : Int) (hr : (r != 0) = true) (ha : Hid (Calls Try.prog 83 #[.pointer (some ⟨T, 0, none⟩), .bool true] w fun e w' => e = .returned (.int .i64 r) ∧ w = w')) :
    Calls Try.prog 68 #[.pointer (some ⟨T, 0, none⟩)] w fun e w' => e = .returned (.int .i64 r) ∧ w = w' := by
  go_enter Try.func68, Try.ntmps68
  go_wp2_with (go_at_call 83; refine ha.out.mono ?_; rintro e w' ⟨rfl, rfl⟩)
  go_ret
  exact ⟨rfl, rfl⟩
set_option maxHeartbeats 1600000 in
set_option maxRecDepth 100000 in
theorem rcommit_yes (w : World) (T : Nat) (r : Int) (S : World → Prop) (ha : Hid (Calls Try.prog 83 #[.pointer (some ⟨T, 0, none⟩), .bool true] w fun e w' => e = .returned (.int .i64 0) ∧ w = w'))
    (hp : Hid (Calls Try.prog 77 #[.pointer (some ⟨T, 0, none⟩), .slice (some ⟨w.heap.size, 0, none⟩) 2 2] (w.alloc (.cells #[.int .i64 0, .int .u8 0, .int .i64 1, .int .u8 0] 89)) fun e w' => e = .returned (.int .i64 r) ∧ S w')) :
    Calls Try.prog 68 #[.pointer (some ⟨T, 0, none⟩)] w fun e w' => e = .returned (.int .i64 r) ∧ S w' := by
  go_enter Try.func68, Try.ntmps68
  go_wp2_with (first | (go_at_call 83; refine ha.out.mono ?_; rintro e w' ⟨rfl, rfl⟩) | (go_at_call 77; refine hp.out.mono ?_; rintro e w' ⟨rfl, hS⟩))
  go_ret
  exact ⟨rfl, hS⟩
theorem trcommit_tx {w : World} {F : Nat → Prop} {T N L : Nat} {s : St} (hx : Rx w F T N L s) :
    Calls Try.prog 68 #[.pointer (some ⟨T, 0, none⟩)] w (Rds w F T N L (tcommit s)) := by
  have ha := rasked_any hx true
  unfold tcommit
  by_cases c : tstate s true = 0
  · rw [if_neg (by simp [c])]
    rw [c] at ha
    have c7 : Ch (fun _ => False) w (w.alloc (.cells (wcells [(0, 0), (1, 0)]).toArray 89)) := (Ch.refl _ _).alloc _
    have hrow : WRow (w.alloc (.cells (wcells [(0, 0), (1, 0)]).toArray 89)) w.heap.size (.slice (some ⟨w.heap.size, 0, none⟩) 2 2) [(0, 0), (1, 0)] :=
      ⟨World.ownsRow_lit w _ 2 (Nat.le_refl _) (by decide) rfl, fun p hp => by simp at hp; rcases hp with rfl | rfl <;> exact ⟨by simp, by simp⟩⟩
    have hall := (rall_row (hx.gr c7) hrow (by simp) (by simp) hx.n.fb).mono (R' := fun e w' => e = .returned (.int .i64 (runs [fput 0 0, fput 1 0] s).2) ∧ (Rx w' F T N L (runs [fput 0 0, fput 1 0] s).1 ∧ Ch F w w')) (by
      rintro e w' ⟨rfl, h1, h2⟩
      exact ⟨rfl, h1, c7.gr.then h2⟩)
    exact rcommit_yes w T _ (fun w' => Rx w' F T N L (runs [fput 0 0, fput 1 0] s).1 ∧ Ch F w w') ha hall
  · rw [if_pos c]
    refine (rcommit_no w T _ (by rw [bne_iff_ne]; exact c) ha).mono ?_
    rintro e w' ⟨rfl, rfl⟩
    exact ⟨rfl, hx, Ch.refl _ _⟩
set_option maxHeartbeats 1600000 in
set_option maxRecDepth 100000 in
theorem rtword_no (w : World) (T : Nat) (at_ r : Int) (hr : (r != 0) = true) (ha : Hid (Calls Try.prog 78 #[.pointer (some ⟨T, 0, none⟩), .int .i64 at_] w fun e w' => e = .returned (.int .i64 r) ∧ w = w')) :
    Calls Try.prog 65 #[.pointer (some ⟨T, 0, none⟩), .int .i64 at_] w fun e w' => e = .returned (.tuple #[.int .u16 0, .int .i64 r]) ∧ w = w' := by
  go_enter Try.func65, Try.ntmps65
  go_wp2_with (go_at_call 78; refine ha.out.mono ?_; rintro e w' ⟨rfl, rfl⟩)
  go_ret2
  exact ⟨rfl, rfl⟩
set_option maxHeartbeats 1600000 in
set_option maxRecDepth 100000 in
theorem rtword_yes (w : World) (T : Nat) (at_ v : Int) (a0 : 0 ≤ at_) (a1 : at_ ≤ 32767) (v0 : 0 ≤ v) (v1 : v ≤ 65535) (ha : Hid (Calls Try.prog 78 #[.pointer (some ⟨T, 0, none⟩), .int .i64 at_] w fun e w' => e = .returned (.int .i64 0) ∧ w = w'))
    (hb : Hid (Calls Try.prog 74 #[.pointer (some ⟨T, 0, none⟩), .int .i64 (2 * at_)] w fun e w' => e = .returned (.int .i64 v) ∧ Ch (fun _ => False) w w')) :
    Calls Try.prog 65 #[.pointer (some ⟨T, 0, none⟩), .int .i64 at_] w fun e w' => e = .returned (.tuple #[.int .u16 v, .int .i64 0]) ∧ Ch (fun _ => False) w w' := by
  go_enter Try.func65, Try.ntmps65
  go_wp2_with (first | (go_at_call 78; refine ha.out.mono ?_; rintro e w' ⟨rfl, rfl⟩) | (go_at_call 74; refine hb.out.mono ?_; rintro e w' ⟨rfl, c1⟩))
  go_ret2
  exact ⟨rfl, c1⟩
theorem rtword_tx {w : World} {F : Nat → Prop} {T N L : Nat} {s : St} (h : Rx w F T N L s) (at_ : Int) :
    Calls Try.prog 65 #[.pointer (some ⟨T, 0, none⟩), .int .i64 at_] w fun e w' => e = .returned (.tuple #[.int .u16 (tword s at_).1, .int .i64 (tword s at_).2]) ∧ Ch (fun _ => False) w w' := by
  have ha := ris_any h at_
  have hl := h.len
  have h1 := h.ok.len1
  unfold tword
  by_cases c : task s at_ = 0
  · rw [if_pos c]
    rw [c] at ha
    obtain ⟨_, g1, g2⟩ := task_ok c
    have hw := rtwo_any h (2 * at_).toNat (by omega)
    rw [show (((2 * at_).toNat : Nat) : Int) = 2 * at_ from by omega] at hw
    have hp := pr_by h.ok.by_ (2 * at_).toNat
    exact rtword_yes w T at_ _ (by omega) (by omega) hp.1 hp.2 ha hw
  · rw [if_neg c]
    refine (rtword_no w T at_ _ (by rw [bne_iff_ne]; exact c) ha).mono ?_
    rintro e w' ⟨rfl, rfl⟩
    exact ⟨rfl, Ch.refl _ _⟩
set_option maxHeartbeats 1600000 in
set_option maxRecDepth 100000 in
theorem rtbyte_no (w : World) (T : Nat) (at_ r : Int) (hr : (r != 0) = true) (ha : Hid (Calls Try.prog 81 #[.pointer (some ⟨T, 0, none⟩), .int .i64 at_] w fun e w' => e = .returned (.int .i64 r) ∧ w = w')) :
    Calls Try.prog 66 #[.pointer (some ⟨T, 0, none⟩), .int .i64 at_] w fun e w' => e = .returned (.tuple #[.int .u8 0, .int .i64 r]) ∧ w = w' := by
  go_enter Try.func66, Try.ntmps66
  go_wp2_with (go_at_call 81; refine ha.out.mono ?_; rintro e w' ⟨rfl, rfl⟩)
  go_ret2
  exact ⟨rfl, rfl⟩
set_option maxHeartbeats 1600000 in
set_option maxRecDepth 100000 in
theorem rtbyte_yes (w : World) (T N D L k : Nat) (v : Int) (hk : (k : Int) < (L : Int)) (c0 : w.cell? ⟨T, 0, none⟩ = some (.pointer (some ⟨N, 0, none⟩))) (c1 : w.cell? ⟨N, 0, none⟩ = some (.slice (some ⟨D, 0, none⟩) L L)) (ck : w.cell? ⟨D, k, none⟩ = some (.int .u8 v))
    (ha : Hid (Calls Try.prog 81 #[.pointer (some ⟨T, 0, none⟩), .int .i64 k] w fun e w' => e = .returned (.int .i64 0) ∧ w = w')) :
    Calls Try.prog 66 #[.pointer (some ⟨T, 0, none⟩), .int .i64 k] w fun e w' => e = .returned (.tuple #[.int .u8 v, .int .i64 0]) ∧ w = w' := by
  go_enter Try.func66, Try.ntmps66
  go_wp2_with (go_at_call 81; refine ha.out.mono ?_; rintro e w' ⟨rfl, rfl⟩)
  go_ret2
  exact ⟨rfl, rfl⟩
theorem rtbyte_tx {w : World} {F : Nat → Prop} {T N L : Nat} {s : St} (h : Rx w F T N L s) (at_ : Int) (h2 : at_ ≤ 9223372036854775807) :
    Calls Try.prog 66 #[.pointer (some ⟨T, 0, none⟩), .int .i64 at_] w fun e w' => e = .returned (.tuple #[.int .u8 (tbyte s at_).1, .int .i64 (tbyte s at_).2]) ∧ w = w' := by
  have ha := risB_any h at_ h2
  obtain ⟨D, c1, _, ck⟩ := h.cells
  have hl := h.len
  unfold tbyte
  by_cases c : taskB s at_ = 0
  · rw [if_pos c]
    rw [c] at ha
    obtain ⟨g0, g1, g2, g3⟩ := taskB_ok c
    obtain ⟨k, rfl⟩ : ∃ k : Nat, at_ = k := ⟨at_.toNat, by omega⟩
    have hd := (task_ok g3).1
    have hg : s.get k = (s.l.getD k 0, 0) := by
      unfold St.get
      rw [if_neg (by simp [hd]), if_neg (by omega)]; rfl
    rw [hg]
    exact rtbyte_yes w T N D L k _ (by omega) h.c0 c1 (ck k (by omega)) ha
  · rw [if_neg c]
    exact rtbyte_no w T at_ _ (by rw [bne_iff_ne]; exact c) ha
end Go.Proofs.Ytfnlpmakhlpgcaa.Nvm
