/- The walk of played (nvm): acts on both memories answer alike and leave the same state. -/
import Derived.Test.YtacfnlokflgpeaaNvmRef
import Derived.Test.YtacfnlokflgpeaaSame
namespace Go.Proofs.Ytacfnlokflgpeaa.Nvm
open Go.RowKit Go.Proofs.Ytacfnlokflgpeaa.Base
/-- Both memories, of one state, in a world behind w. -/
structure Duo (w : World) (F G : Nat → Prop) (N M : Nat) (s : St) (w' : World) : Prop where
  p : Nv w' F N s
  r : Rv w' G M s
  dj : ∀ k, F k → ¬ G k
  lo : ∀ k, F k → w.heap.size ≤ k
  lo2 : ∀ k, G k → w.heap.size ≤ k
  ch : Ch (fun _ => False) w w'
theorem Duo.drewN {w : World} {F G : Nat → Prop} {N M : Nat} {s : St} {w' : World} (h : Duo w F G N M s w') (m : Nat) : Duo w F G N M s (w'.drewN m) := ⟨h.p.drewN m, h.r.drewN m, h.dj, h.lo, h.lo2, h.ch.drewN m⟩
theorem Duo.drew {w : World} {F G : Nat → Prop} {N M : Nat} {s : St} {w' : World} (h : Duo w F G N M s w') : Duo w F G N M s w'.drew := ⟨h.p.drew, h.r.drew, h.dj, h.lo, h.lo2, h.ch.drew⟩
theorem Duo.alloc {w : World} {F G : Nat → Prop} {N M : Nat} {s : St} {w' : World} (h : Duo w F G N M s w') (o : Obj) : Duo w F G N M s (w'.alloc o) := ⟨h.p.alloc o, h.r.alloc o, h.dj, h.lo, h.lo2, h.ch.alloc o⟩
/-- The reference's, behind the program's step. -/
theorem Duo.mid {w : World} {F G : Nat → Prop} {N M : Nat} {s : St} {w0 w1 : World} (h : Duo w F G N M s w0) (c : Ch F w0 w1) : Rv w1 G M s := h.r.ch c (fun k hk hf => h.dj k hf hk)
/-- Both have taken a step, the program's first. -/
theorem Duo.step {w : World} {F F' G : Nat → Prop} {N M : Nat} {s s' : St} {w0 w1 w2 : World} (h : Duo w F G N M s w0) (p : Nv w1 F' N s') (c : Ch F w0 w1) (r : Rv w2 G M s') (d : Ch G w1 w2)
    (hF : ∀ k, F' k → F k ∨ w0.heap.size ≤ k) : Duo w F' G N M s' w2 := by
  have dj : ∀ k, F' k → ¬ G k := fun k hk hg => by
    rcases hF k hk with h1 | h1
    · exact h.dj k h1 hg
    · have := h.r.fb k hg; omega
  have hs := h.ch.size
  refine ⟨p.ch d dj, r, dj, fun k hk => ?_, h.lo2, (h.ch.trans c (U := fun _ => False) (fun _ h => h) (fun i hi => Or.inr (h.lo i hi))).trans d (fun _ h => h) (fun i hi => Or.inr (h.lo2 i hi))⟩
  rcases hF k hk with h1 | h1
  · exact h.lo k h1
  · omega
theorem Grow.le {F : Nat → Prop} {w w' : World} : ∀ k, Grow F w w' k → F k ∨ w.heap.size ≤ k := fun _ h => h.elim Or.inl (fun h => Or.inr h.1)
/-- An act's cells. -/
def ActAt (w : World) (b o : Nat) (d at_ v : Int) : Prop :=
  w.cell? ⟨b, o, none⟩ = some (.int .i64 d) ∧ w.cell? ⟨b, o + 1, none⟩ = some (.int .i64 at_) ∧ w.cell? ⟨b, o + 2, none⟩ = some (.int .u8 v) ∧ 0 ≤ v ∧ v ≤ 255 ∧ at_ ≤ 9223372036854775807
def Acts (w : World) (A : Option Addr) (len : Nat) : Prop := ∀ k, k < len → ∃ (b o : Nat) (d at_ v : Int), A = some ⟨b, o, none⟩ ∧ b < w.heap.size ∧ ActAt w b (o + k * 3) d at_ v

set_option maxHeartbeats 8000000 in
set_option maxRecDepth 100000 in
theorem played_bad (w : World) (A : Option Addr) (x : Int) (len cap : Nat) (hb : x < 4096 ∨ 65536 < x ∨ x % 2 ≠ 0) :
    Calls Try.prog 12 #[.int .i64 x, .slice A len cap] w fun e w' => e = .returned (.tuple #[.pointer none, .pointer none, .bool true]) ∧ w = w' := by
  have H1 := Lib.hid (new_bad w x hb)
  have H2 := Lib.hid (rnew_bad w x hb)
  clear hb
  go_enter Try.func12, Try.ntmps12
  go_wp2_with (first | (go_at_call 6; refine H1.out.mono ?_; rintro e w' ⟨rfl, rfl⟩) | (go_at_call 18; refine H2.out.mono ?_; rintro e w' ⟨rfl, rfl⟩))
  go_ret3
  exact ⟨rfl, rfl⟩
set_option maxHeartbeats 8000000 in
set_option maxRecDepth 100000 in
theorem played_ok (w : World) (A : Option Addr) (n len cap : Nat) (h0 : 4096 ≤ n) (h1 : n ≤ 65536) (h2 : n % 2 = 0) (hact : Acts w A len) :
    Calls Try.prog 12 #[.int .i64 n, .slice A len cap] w fun e w' => ∃ F G N M s, e = .returned (.tuple #[.pointer (some ⟨N, 0, none⟩), .pointer (some ⟨M, 0, none⟩), .bool true]) ∧ Duo w F G N M s w' := by
  have HA := Lib.hid hact
  clear hact
  have H1 := Lib.hid (new_ok w n h0 h1 h2)
  have H2 := Lib.hid (fun wx : World => rnew_ok wx n h0 h1 h2)
  clear h2
  go_enter Try.func12, Try.ntmps12
  go_wp2_with fail
  refine H1.out.mono ?_
  rintro e w1 ⟨F, N, rfl, p1, l1, c1⟩
  go_wp2_with fail
  refine (H2.out w1).mono ?_
  rintro e w2 ⟨G, M, rfl, p2, l2, c2⟩
  have hD : Duo w F G N M (fresh n) w2 := ⟨p1.ch c2 (fun _ _ h => h), p2, fun k hk hg => by have := p1.fb k hk; have := l2 k hg; omega, l1, fun k hk => by have := l2 k hk; have := c1.size; omega, c1.trans c2 (fun _ h => h) (fun _ h => h.elim)⟩
  clear p1 l1 c1 p2 l2 c2 H1 H2
  generalize fresh n = s0 at *
  go_wp2_with fail
  go_loopg [11] len (fun k i wr => ∃ j : Nat, j + k ≤ len ∧ len ≤ j + k ∧ i = .int .i64 j ∧ ∃ F' s, Duo w F' G N M s wr)
  case atStart => exact ⟨0, by omega, by omega, rfl, F, s0, hD⟩
  case round =>
    clear hD
    obtain ⟨j, hj1, hj2, rfl, F', s, ht⟩ := hrel
    by_cases hlt : 0 < gk
    · obtain ⟨b, o, d, at_, v, rfl, hb, ⟨a0, a1, a2, v0, v1, t1⟩⟩ := HA.out j (by omega)
      have e0 := (ht.ch.cell (p := ⟨b, o + j * 3, none⟩) hb (fun h => h)).trans a0
      have e1 := (ht.ch.cell (p := ⟨b, o + j * 3 + 1, none⟩) hb (fun h => h)).trans a1
      have e2 := (ht.ch.cell (p := ⟨b, o + j * 3 + 2, none⟩) hb (fun h => h)).trans a2
      clear a0 a1 a2
      have hbW : b < wr.heap.size := Nat.lt_of_lt_of_le hb ht.ch.size
      have hbF : ¬ F' b := fun h => by have := ht.lo b h; omega
      have hbG : ¬ G b := fun h => by have := ht.lo2 b h; omega
      have hi : (j : Int) < (len : Int) := by omega
      by_cases h100 : (j : Int) < 100
      · go_upto_block 2 with (fail)
        go_cut [12, 13] (fun v12 v13 wx => ∃ r : Int, v12 = .int .i64 r ∧ v13 = .int .i64 r ∧ ∃ F2 s2, Duo w F2 G N M s2 wx)
        case first =>
          clear e0
          by_cases hd0 : d = 0
          · subst hd0
            have B1 := Lib.hid (fun (wx : World) (h : Nv wx F' N s) => put_any h at_ v v0 v1)
            have B2 := Lib.hid (fun (wx : World) (h : Rv wx G M s) => rput_any h at_ v v0 v1)
            go_wp2_with (fail)
            go_region_held3 (fun w' => w'.cell? ⟨b, o + j * 3 + 1, none⟩ = some (.int .i64 at_) ∧ w'.cell? ⟨b, o + j * 3 + 2, none⟩ = some (.int .u8 v)) (first | exact ⟨e1, e2⟩ | exact ⟨(c1.cell (p := ⟨b, o + j * 3 + 1, none⟩) hbW hbF).trans e1, (c1.cell (p := ⟨b, o + j * 3 + 2, none⟩) hbW hbF).trans e2⟩ | exact ⟨(c2.cell (p := ⟨b, o + j * 3 + 1, none⟩) (Nat.lt_of_lt_of_le hbW c1.size) hbG).trans ((c1.cell (p := ⟨b, o + j * 3 + 1, none⟩) hbW hbF).trans e1), (c2.cell (p := ⟨b, o + j * 3 + 2, none⟩) (Nat.lt_of_lt_of_le hbW c1.size) hbG).trans ((c1.cell (p := ⟨b, o + j * 3 + 2, none⟩) hbW hbF).trans e2)⟩) (first | (go_at_call 8; refine (B1.out _ (by first | exact ht.p | exact ht.p.drew)).mono ?_; rintro e w1 ⟨rfl, p1, c1⟩) | (go_at_call 19; refine (B2.out _ (by first | exact ht.mid c1 | exact ht.drew.mid c1)).mono ?_; rintro e w2 ⟨rfl, p2, c2⟩))
            all_goals (go_wp2; go_meet; exact ⟨_, rfl, rfl, F', _, by first | exact ht.step p1 c1 p2 c2 (fun _ h => Or.inl h) | exact ht.drew.step p1 c1 p2 c2 (fun _ h => Or.inl h)⟩)
          have n0 : (d == 0) = false := beq_eq_false_iff_ne.2 hd0
          by_cases hd1 : d = 1
          · subst hd1
            have B1 := Lib.hid (get_any ht.p at_)
            have B2 := Lib.hid (rget_any ht.r at_)
            generalize (s.get at_).1 = X at *
            generalize (s.get at_).2 = Y at *
            go_wp2_with (first | (go_at_call 15; refine B1.out.mono ?_; rintro e w1 ⟨rfl, rfl⟩) | (go_at_call 20; refine B2.out.mono ?_; rintro e w2 ⟨rfl, rfl⟩))
            go_meet
            exact ⟨_, rfl, rfl, F', s, ht⟩
          have n1 : (d == 1) = false := beq_eq_false_iff_ne.2 hd1
          by_cases hd2 : d = 2
          · subst hd2
            have B1 := Lib.hid (fun (wx : World) (h : Nv wx F' N s) => cut_any h at_ t1)
            have B2 := Lib.hid (fun (wx : World) (h : Rv wx G M s) => rcut_any h at_ t1)
            go_wp2_with (fail)
            go_region_held3 (fun w' => w'.cell? ⟨b, o + j * 3 + 1, none⟩ = some (.int .i64 at_) ∧ w'.cell? ⟨b, o + j * 3 + 2, none⟩ = some (.int .u8 v)) (first | exact ⟨e1, e2⟩ | exact ⟨(c1.cell (p := ⟨b, o + j * 3 + 1, none⟩) hbW hbF).trans e1, (c1.cell (p := ⟨b, o + j * 3 + 2, none⟩) hbW hbF).trans e2⟩ | exact ⟨(c2.cell (p := ⟨b, o + j * 3 + 1, none⟩) (Nat.lt_of_lt_of_le hbW c1.size) hbG).trans ((c1.cell (p := ⟨b, o + j * 3 + 1, none⟩) hbW hbF).trans e1), (c2.cell (p := ⟨b, o + j * 3 + 2, none⟩) (Nat.lt_of_lt_of_le hbW c1.size) hbG).trans ((c1.cell (p := ⟨b, o + j * 3 + 2, none⟩) hbW hbF).trans e2)⟩) (first | (go_at_call 7; refine (B1.out _ (by first | exact ht.p | exact ht.p.drew)).mono ?_; rintro e w1 ⟨rfl, p1, c1⟩) | (go_at_call 21; refine (B2.out _ (by first | exact ht.mid c1 | exact ht.drew.mid c1)).mono ?_; rintro e w2 ⟨rfl, p2, c2⟩))
            all_goals (go_wp2; go_meet; exact ⟨_, rfl, rfl, _, _, by first | exact ht.step p1 c1 p2 c2 Grow.le | exact ht.drew.step p1 c1 p2 c2 Grow.le⟩)
          have n2 : (d == 2) = false := beq_eq_false_iff_ne.2 hd2
          by_cases hd3 : d = 3
          · subst hd3
            go_wp2_with (fail)
            refine (on_any ht.p).mono ?_
            rintro e w1 ⟨rfl, p1, c1⟩
            go_wp2_with (fail)
            refine (ron_any (ht.mid c1)).mono ?_
            rintro e w2 ⟨rfl, p2, c2⟩
            go_wp2
            go_meet
            exact ⟨_, rfl, rfl, F', _, ht.step p1 c1 p2 c2 (fun _ h => Or.inl h)⟩
          have n3 : (d == 3) = false := beq_eq_false_iff_ne.2 hd3
          go_wp2
          go_meet
          exact ⟨_, rfl, rfl, F', s, ht⟩
        case rest =>
          obtain ⟨r, rfl, rfl, F2, s2, ht2⟩ := hcut
          go_wp2
          go_roundg (gk - 1)
          case measure => omega
          case rel => exact ⟨j + 1, by omega, by omega, by go_num, F2, s2, ht2⟩
      · go_wp2_with (fail)
        clear e0 e1 e2
        obtain ⟨E, hr⟩ := id ht.r
        have m0 : wr.cell? ⟨M, 0, none⟩ = some (.slice (some ⟨E, 0, none⟩) s.l.length s.l.length) := hr.n.cell 0
        have m3 : wr.cell? ⟨M, 3, none⟩ = some (.int .i64 s.wr) := hr.n.cell 3
        have a0 := Lib.cell?_alloc_some (.cells (cr s.l) 5) m0
        have a3 := Lib.cell?_alloc_some (.cells (cr s.l) 5) m3
        have hA1 : ∀ j, j < s.l.length → (wr.alloc (.cells (cr s.l) 5)).cell? ⟨wr.heap.size, 0 + j, none⟩ = some (.int .u8 (s.l.getD j 0)) := fun j hj => by
          rw [(Blk.new wr (cr s.l) 5).cell, Nat.zero_add]; exact cr_get _ _ hj
        have hA2 : ∀ j, j < s.l.length → (wr.alloc (.cells (cr s.l) 5)).cell? ⟨E, 0 + j, none⟩ = some (.int .u8 (s.l.getD j 0)) := fun j hj => by
          rw [(hr.d.alloc _).cell, Nat.zero_add]; exact cr_get _ _ hj
        have HA1 := Lib.hid hA1
        have HA2 := Lib.hid hA2
        have hl1 : s.l.length ≤ 1000000 := by have := ht.p.ok.len1; omega
        clear hA1 hA2 hr
        go_region_held3 (fun w' => w'.cell? ⟨M, 0, none⟩ = some (.slice (some ⟨E, 0, none⟩) s.l.length s.l.length) ∧ w'.cell? ⟨M, 3, none⟩ = some (.int .i64 s.wr)) (first | exact ⟨m0, m3⟩ | exact ⟨a0, a3⟩) (first | (go_at_call 13; refine (bytes_any (by first | exact ht.p | exact ht.p.drew)).mono ?_; rintro e w1 ⟨rfl, rfl⟩) | (go_at_call 23; refine (same_ok _ wr.heap.size E s.l.length s.l.length s.l.length 0 0 (fun j => s.l.getD j 0) hl1 ?_ ?_).mono ?_; (exact HA1.out); (exact HA2.out); rintro e w2 ⟨rfl, m2, rfl⟩) | (go_at_call 9; refine (writes_any (F := F') (s := s) (by first | exact (ht.p.alloc _).drewN _ | exact ((ht.p.alloc _).drew).drewN _)).mono ?_; rintro e w3 ⟨rfl, rfl⟩) | (go_at_call 14; refine (size_any (F := F') (s := s) (by first | exact (ht.p.alloc _).drewN _ | exact ((ht.p.alloc _).drew).drewN _)).mono ?_; rintro e w4 ⟨rfl, rfl⟩))
        all_goals (go_wp2; go_ret3; exact ⟨F', G, N, M, s, rfl, by first | exact (ht.alloc _).drewN _ | exact ((ht.alloc _).drew).drewN _⟩)
    · have hi : ¬ (j : Int) < (len : Int) := by omega
      go_wp2_with (fail)
      obtain ⟨E, hr⟩ := id ht.r
      have m0 : wr.cell? ⟨M, 0, none⟩ = some (.slice (some ⟨E, 0, none⟩) s.l.length s.l.length) := hr.n.cell 0
      have m3 : wr.cell? ⟨M, 3, none⟩ = some (.int .i64 s.wr) := hr.n.cell 3
      have a0 := Lib.cell?_alloc_some (.cells (cr s.l) 5) m0
      have a3 := Lib.cell?_alloc_some (.cells (cr s.l) 5) m3
      have hA1 : ∀ j, j < s.l.length → (wr.alloc (.cells (cr s.l) 5)).cell? ⟨wr.heap.size, 0 + j, none⟩ = some (.int .u8 (s.l.getD j 0)) := fun j hj => by
        rw [(Blk.new wr (cr s.l) 5).cell, Nat.zero_add]; exact cr_get _ _ hj
      have hA2 : ∀ j, j < s.l.length → (wr.alloc (.cells (cr s.l) 5)).cell? ⟨E, 0 + j, none⟩ = some (.int .u8 (s.l.getD j 0)) := fun j hj => by
        rw [(hr.d.alloc _).cell, Nat.zero_add]; exact cr_get _ _ hj
      have HA1 := Lib.hid hA1
      have HA2 := Lib.hid hA2
      have hl1 : s.l.length ≤ 1000000 := by have := ht.p.ok.len1; omega
      clear hA1 hA2 hr
      go_region_held3 (fun w' => w'.cell? ⟨M, 0, none⟩ = some (.slice (some ⟨E, 0, none⟩) s.l.length s.l.length) ∧ w'.cell? ⟨M, 3, none⟩ = some (.int .i64 s.wr)) (first | exact ⟨m0, m3⟩ | exact ⟨a0, a3⟩) (first | (go_at_call 13; refine (bytes_any (by first | exact ht.p | exact ht.p.drew)).mono ?_; rintro e w1 ⟨rfl, rfl⟩) | (go_at_call 23; refine (same_ok _ wr.heap.size E s.l.length s.l.length s.l.length 0 0 (fun j => s.l.getD j 0) hl1 ?_ ?_).mono ?_; (exact HA1.out); (exact HA2.out); rintro e w2 ⟨rfl, m2, rfl⟩) | (go_at_call 9; refine (writes_any (F := F') (s := s) (by first | exact (ht.p.alloc _).drewN _ | exact ((ht.p.alloc _).drew).drewN _)).mono ?_; rintro e w3 ⟨rfl, rfl⟩) | (go_at_call 14; refine (size_any (F := F') (s := s) (by first | exact (ht.p.alloc _).drewN _ | exact ((ht.p.alloc _).drew).drewN _)).mono ?_; rintro e w4 ⟨rfl, rfl⟩))
      all_goals (go_wp2; go_ret3; exact ⟨F', G, N, M, s, rfl, by first | exact (ht.alloc _).drewN _ | exact ((ht.alloc _).drew).drewN _⟩)
end Go.Proofs.Ytacfnlokflgpeaa.Nvm
