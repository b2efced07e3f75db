/- The walks of nvm: each call as a step of a state of bytes, of how many writes are left, of darkness and of writes. -/
import Derived.Test.YtjeaidmmhplglaaProg
import Derived.Test.YtjeaidmmhplglaaBase
set_option linter.unusedVariables false
set_option linter.unusedSimpArgs false
namespace Go.Proofs.Ytjeaidmmhplglaa.Nvm
open Go.RowKit Go.Proofs.Ytjeaidmmhplglaa.Base

/-- What a memory is. -/
structure St where
  l : List Int
  left : Option Int
  dark : Bool
  wr : Int
def St.get (s : St) (at_ : Int) : Int × Int := if s.dark = true then (0, 13) else if at_ < 0 ∨ (s.l.length : Int) ≤ at_ then (0, 2) else (s.l.getD at_.toNat 0, 0)
def St.put (s : St) (at_ b : Int) : St × Int :=
  if s.dark = true then (s, 13) else if at_ < 0 ∨ (s.l.length : Int) ≤ at_ then (s, 2)
  else if s.left = some 0 then ({ s with dark := true }, 13) else (⟨s.l.set at_.toNat b, s.left.map (· - 1), s.dark, wrap64 (s.wr + 1)⟩, 0)
def St.cut (s : St) (n : Int) : St × Int := if n < 0 then (s, 2) else ({ s with left := some n }, 0)
def St.on (s : St) : St := { s with left := none, dark := false }
theorem len_put (s : St) (at_ b : Int) : (s.put at_ b).1.l.length = s.l.length := by
  unfold St.put
  split
  · rfl
  · split
    · rfl
    · split
      · rfl
      · simp
/-- A state that may be. -/
structure Ok (s : St) : Prop where
  len0 : 4096 ≤ s.l.length
  len1 : s.l.length ≤ 65536
  by_ : By s.l
  left : ∀ x, s.left = some x → 0 ≤ x ∧ x ≤ 9223372036854775807
theorem Ok.put {s : St} (h : Ok s) (at_ : Int) {b : Int} (b0 : 0 ≤ b) (b1 : b ≤ 255) : Ok (s.put at_ b).1 := by
  unfold St.put
  split
  · exact h
  · split
    · exact h
    · split
      · exact ⟨h.len0, h.len1, h.by_, h.left⟩
      · rename_i hl
        refine ⟨by simpa using h.len0, by simpa using h.len1, h.by_.set _ b0 b1, fun x hx => ?_⟩
        cases e : s.left with
        | none => simp [e] at hx
        | some y =>
          simp [e] at hx
          have := h.left y e
          have hy : y ≠ 0 := fun h0 => hl (by rw [e, h0])
          omega
theorem Ok.cut {s : St} (h : Ok s) {n : Int} (hn : n ≤ 9223372036854775807) : Ok (s.cut n).1 := by
  unfold St.cut
  split
  · exact h
  · exact ⟨h.len0, h.len1, h.by_, fun x hx => by simp at hx; omega⟩
theorem Ok.on {s : St} (h : Ok s) : Ok s.on := ⟨h.len0, h.len1, h.by_, fun x hx => by simp [St.on] at hx⟩

/-- What the pointer to how many are left is. -/
inductive Lf (w : World) (F : Nat → Prop) : Value → Option Int → Prop
  | none : Lf w F (.pointer none) none
  | some (L : Nat) (x : Int) : Blk w L #[.int .i64 x] 3 → F L → Lf w F (.pointer (some ⟨L, 0, none⟩)) (some x)
/-- The memory at block N, within the blocks of F, is of state s. -/
structure NvD (w : World) (F : Nat → Prop) (N D : Nat) (lv : Value) (s : St) : Prop where
  n : Blk w N #[.slice (some ⟨D, 0, none⟩) s.l.length s.l.length, lv, .bool s.dark, .int .i64 s.wr] 68
  d : Blk w D (cr s.l) 5
  lf : Lf w F lv s.left
  fn : F N
  fd : F D
  fb : ∀ k, F k → k < w.heap.size
  ok : Ok s
def Nv (w : World) (F : Nat → Prop) (N : Nat) (s : St) : Prop := ∃ D lv, NvD w F N D lv s
theorem Lf.ch {w w' : World} {F S : Nat → Prop} {lv : Value} {o : Option Int} (h : Lf w F lv o) (c : Ch S w w') (hs : ∀ k, F k → ¬ S k) : Lf w' F lv o := by
  cases h with
  | none => exact .none
  | some L x b f => exact .some L x (b.ch c (hs L f)) f
theorem Nv.ch {w w' : World} {F S : Nat → Prop} {N : Nat} {s : St} (h : Nv w F N s) (c : Ch S w w') (hs : ∀ k, F k → ¬ S k) : Nv w' F N s := by
  obtain ⟨D, lv, h⟩ := h
  exact ⟨D, lv, h.n.ch c (hs N h.fn), h.d.ch c (hs D h.fd), h.lf.ch c hs, h.fn, h.fd, fun k hk => Nat.lt_of_lt_of_le (h.fb k hk) c.size, h.ok⟩
theorem Nv.alloc {w : World} {F : Nat → Prop} {N : Nat} {s : St} (h : Nv w F N s) (o : Obj) : Nv (w.alloc o) F N s := h.ch ((Ch.refl (fun _ => False) w).alloc o) (fun _ _ h => h)
theorem Nv.drewN {w : World} {F : Nat → Prop} {N : Nat} {s : St} (h : Nv w F N s) (m : Nat) : Nv (w.drewN m) F N s := h.ch ((Ch.refl (fun _ => False) w).drewN m) (fun _ _ h => h)
theorem Nv.drew {w : World} {F : Nat → Prop} {N : Nat} {s : St} (h : Nv w F N s) : Nv w.drew F N s := h.ch ((Ch.refl (fun _ => False) w).drew) (fun _ _ h => h)
theorem Nv.ok {w : World} {F : Nat → Prop} {N : Nat} {s : St} (h : Nv w F N s) : Ok s := by obtain ⟨_, _, h⟩ := h; exact h.ok
theorem Nv.fb {w : World} {F : Nat → Prop} {N : Nat} {s : St} (h : Nv w F N s) : ∀ k, F k → k < w.heap.size := by obtain ⟨_, _, h⟩ := h; exact h.fb
theorem Nv.fn {w : World} {F : Nat → Prop} {N : Nat} {s : St} (h : Nv w F N s) : F N := by obtain ⟨_, _, h⟩ := h; exact h.fn

section
variable (w : World) (F : Nat → Prop) (N D : Nat) (lv : Value) (s : St)
theorem NvD.c0 {w : World} {F : Nat → Prop} {N D : Nat} {lv : Value} {s : St} (h : NvD w F N D lv s) : w.cell? ⟨N, 0, none⟩ = some (.slice (some ⟨D, 0, none⟩) s.l.length s.l.length) := h.n.cell 0
theorem NvD.c1 {w : World} {F : Nat → Prop} {N D : Nat} {lv : Value} {s : St} (h : NvD w F N D lv s) : w.cell? ⟨N, 1, none⟩ = some lv := h.n.cell 1
theorem NvD.c2 {w : World} {F : Nat → Prop} {N D : Nat} {lv : Value} {s : St} (h : NvD w F N D lv s) : w.cell? ⟨N, 2, none⟩ = some (.bool s.dark) := h.n.cell 2
theorem NvD.c3 {w : World} {F : Nat → Prop} {N D : Nat} {lv : Value} {s : St} (h : NvD w F N D lv s) : w.cell? ⟨N, 3, none⟩ = some (.int .i64 s.wr) := h.n.cell 3
theorem NvD.nd {w : World} {F : Nat → Prop} {N D : Nat} {lv : Value} {s : St} (h : NvD w F N D lv s) : N ≠ D := h.n.uniq h.d (by rw [cr_size]; have := h.ok.len0; simp; omega)
end

theorem Blk.other {w : World} {B : Nat} {cs : Array Value} {T : TypeId} (h : Blk w B cs T) {p : Addr} (hn : B ≠ p.block) (v : Value) : Blk (w.setCell p v) B cs T :=
  h.ch ((Ch.refl (fun k => k = p.block) w).setCell (Or.inl rfl) v) hn
theorem St.get_no (s : St) (at_ : Int) (h : (s.get at_).2 ≠ 0) : (s.get at_).1 = 0 := by
  unfold St.get at *
  split
  · rfl
  · split
    · rfl
    · simp_all
theorem St.put_no (s : St) (at_ b : Int) (h : (s.get at_).2 ≠ 0) : s.put at_ b = (s, (s.get at_).2) := by
  unfold St.get at *
  unfold St.put
  split
  · rfl
  · split
    · rfl
    · simp_all
theorem St.get_ok {s : St} {at_ : Int} (h : (s.get at_).2 = 0) : s.dark = false ∧ 0 ≤ at_ ∧ at_ < s.l.length := by
  unfold St.get at h
  split at h
  · simp at h
  · split at h
    · simp at h
    · rename_i h1 h2
      refine ⟨by simpa using h1, by omega, by omega⟩

set_option maxHeartbeats 400000 in
set_option maxRecDepth 100000 in
theorem off_some (w : World) (N D n c : Nat) (c0 : w.cell? ⟨N, 0, none⟩ = some (.slice (some ⟨D, 0, none⟩) n c)) :
    Calls Try.prog 53 #[.pointer (some ⟨N, 0, none⟩)] w fun e w' => e = .returned (.bool false) ∧ w = w' := by
  have hn := fun wx : World => Lib.run_eql_slice_nil (P := Try.prog) wx 62 5 (some ⟨D, 0, none⟩) n c 0 0 Try.underlying62
  go_enter Try.func53, Try.ntmps53
  go_wp2
  go_ret
  exact ⟨rfl, rfl⟩
set_option maxHeartbeats 400000 in
set_option maxRecDepth 100000 in
theorem ask_dark (w : World) (N D n c : Nat) (at_ : Int) (c0 : w.cell? ⟨N, 0, none⟩ = some (.slice (some ⟨D, 0, none⟩) n c)) (c2 : w.cell? ⟨N, 2, none⟩ = some (.bool true)) :
    Calls Try.prog 73 #[.pointer (some ⟨N, 0, none⟩), .int .i64 at_] w fun e w' => e = .returned (.int .i64 13) ∧ w = w' := by
  go_enter Try.func73, Try.ntmps73
  go_wp2_with (go_at_call 53; refine (off_some _ _ _ _ _ c0).mono ?_; rintro e w' ⟨rfl, rfl⟩)
  go_ret
  exact ⟨rfl, rfl⟩
set_option maxHeartbeats 400000 in
set_option maxRecDepth 100000 in
theorem ask_low (w : World) (N D n c : Nat) (at_ : Int) (c0 : w.cell? ⟨N, 0, none⟩ = some (.slice (some ⟨D, 0, none⟩) n c)) (c2 : w.cell? ⟨N, 2, none⟩ = some (.bool false)) (h : at_ < 0) :
    Calls Try.prog 73 #[.pointer (some ⟨N, 0, none⟩), .int .i64 at_] w fun e w' => e = .returned (.int .i64 2) ∧ w = w' := by
  go_enter Try.func73, Try.ntmps73
  go_wp2_with (go_at_call 53; refine (off_some _ _ _ _ _ c0).mono ?_; rintro e w' ⟨rfl, rfl⟩)
  go_ret
  exact ⟨rfl, rfl⟩
set_option maxHeartbeats 400000 in
set_option maxRecDepth 100000 in
theorem ask_high (w : World) (N D n c : Nat) (at_ : Int) (c0 : w.cell? ⟨N, 0, none⟩ = some (.slice (some ⟨D, 0, none⟩) n c)) (c2 : w.cell? ⟨N, 2, none⟩ = some (.bool false)) (h0 : ¬ at_ < 0) (h : (n : Int) ≤ at_) :
    Calls Try.prog 73 #[.pointer (some ⟨N, 0, none⟩), .int .i64 at_] w fun e w' => e = .returned (.int .i64 2) ∧ w = w' := by
  go_enter Try.func73, Try.ntmps73
  go_wp2_with (go_at_call 53; refine (off_some _ _ _ _ _ c0).mono ?_; rintro e w' ⟨rfl, rfl⟩)
  go_ret
  exact ⟨rfl, rfl⟩
set_option maxHeartbeats 400000 in
set_option maxRecDepth 100000 in
theorem ask_in (w : World) (N D n c : Nat) (at_ : Int) (c0 : w.cell? ⟨N, 0, none⟩ = some (.slice (some ⟨D, 0, none⟩) n c)) (c2 : w.cell? ⟨N, 2, none⟩ = some (.bool false)) (h0 : ¬ at_ < 0) (h : ¬ (n : Int) ≤ at_) :
    Calls Try.prog 73 #[.pointer (some ⟨N, 0, none⟩), .int .i64 at_] w fun e w' => e = .returned (.int .i64 0) ∧ w = w' := by
  go_enter Try.func73, Try.ntmps73
  go_wp2_with (go_at_call 53; refine (off_some _ _ _ _ _ c0).mono ?_; rintro e w' ⟨rfl, rfl⟩)
  go_ret
  exact ⟨rfl, rfl⟩
theorem ask_any {w : World} {F : Nat → Prop} {N D : Nat} {lv : Value} {s : St} (h : NvD w F N D lv s) (at_ : Int) :
    Calls Try.prog 73 #[.pointer (some ⟨N, 0, none⟩), .int .i64 at_] w fun e w' => e = .returned (.int .i64 (s.get at_).2) ∧ w = w' := by
  have c0 := h.c0
  have c2 := h.c2
  unfold St.get
  cases hd : s.dark with
  | true => rw [hd] at c2; simpa using ask_dark w N D _ _ at_ c0 c2
  | false =>
    rw [hd] at c2
    by_cases h1 : at_ < 0
    · simpa [h1] using ask_low w N D _ _ at_ c0 c2 h1
    · by_cases h2 : (s.l.length : Int) ≤ at_
      · simpa [h1, h2] using ask_high w N D _ _ at_ c0 c2 h1 h2
      · simpa [h1, h2] using ask_in w N D _ _ at_ c0 c2 h1 h2
set_option maxHeartbeats 400000 in
set_option maxRecDepth 100000 in
theorem get_ref (w : World) (N : Nat) (at_ r : Int) (hr : (r != 0) = true) (ha : Hid (Calls Try.prog 73 #[.pointer (some ⟨N, 0, none⟩), .int .i64 at_] w fun e w' => e = .returned (.int .i64 r) ∧ w = w')) :
    Calls Try.prog 57 #[.pointer (some ⟨N, 0, none⟩), .int .i64 at_] w fun e w' => e = .returned (.tuple #[.int .u8 0, .int .i64 r]) ∧ w = w' := by
  go_enter Try.func57, Try.ntmps57
  go_wp2_with (go_at_call 73; refine ha.out.mono ?_; rintro e w' ⟨rfl, rfl⟩)
  go_ret2
  exact ⟨rfl, rfl⟩
set_option maxHeartbeats 400000 in
set_option maxRecDepth 100000 in
theorem get_core (w : World) (N D n c k : Nat) (x : Int) (c0 : w.cell? ⟨N, 0, none⟩ = some (.slice (some ⟨D, 0, none⟩) n c)) (ck : w.cell? ⟨D, k, none⟩ = some (.int .u8 x)) (hk : (k : Int) < n)
    (ha : Hid (Calls Try.prog 73 #[.pointer (some ⟨N, 0, none⟩), .int .i64 k] w fun e w' => e = .returned (.int .i64 0) ∧ w = w')) :
    Calls Try.prog 57 #[.pointer (some ⟨N, 0, none⟩), .int .i64 k] w fun e w' => e = .returned (.tuple #[.int .u8 x, .int .i64 0]) ∧ w = w' := by
  go_enter Try.func57, Try.ntmps57
  go_wp2_with (go_at_call 73; refine ha.out.mono ?_; rintro e w' ⟨rfl, rfl⟩)
  go_ret2
  exact ⟨rfl, rfl⟩
theorem get_any {w : World} {F : Nat → Prop} {N : Nat} {s : St} (hv : Nv w F N s) (at_ : Int) :
    Calls Try.prog 57 #[.pointer (some ⟨N, 0, none⟩), .int .i64 at_] w fun e w' => e = .returned (.tuple #[.int .u8 (s.get at_).1, .int .i64 (s.get at_).2]) ∧ w = w' := by
  obtain ⟨D, lv, h⟩ := hv
  have ha := ask_any h at_
  by_cases hz : (s.get at_).2 = 0
  · obtain ⟨hd, h0, h1⟩ := St.get_ok hz
    obtain ⟨k, rfl⟩ : ∃ k : Nat, at_ = k := ⟨at_.toNat, by omega⟩
    have hg : (s.get k).1 = s.l.getD k 0 := by
      unfold St.get
      rw [if_neg (by simp [hd]), if_neg (by omega)]; rfl
    rw [hz] at ha ⊢
    rw [hg]
    exact get_core w N D _ _ k _ h.c0 ((h.d.cell k).trans (cr_get _ _ (by omega))) h1 ha
  · rw [St.get_no s at_ hz]
    exact get_ref w N at_ _ (by rw [bne_iff_ne]; exact hz) ha
set_option maxHeartbeats 400000 in
set_option maxRecDepth 100000 in
theorem put_ref (w : World) (N : Nat) (at_ b r : Int) (hr : (r != 0) = true) (ha : Hid (Calls Try.prog 73 #[.pointer (some ⟨N, 0, none⟩), .int .i64 at_] w fun e w' => e = .returned (.int .i64 r) ∧ w = w')) :
    Calls Try.prog 72 #[.pointer (some ⟨N, 0, none⟩), .int .i64 at_, .int .u8 b] w fun e w' => e = .returned (.int .i64 r) ∧ w = w' := by
  go_enter Try.func72, Try.ntmps72
  go_wp2_with (go_at_call 73; refine ha.out.mono ?_; rintro e w' ⟨rfl, rfl⟩)
  go_ret
  exact ⟨rfl, rfl⟩
theorem keep {w : World} {p q : Addr} {u : Value} (v : Value) (h : w.cell? q = some u) (hn : q.block ≠ p.block) : (w.setCell p v).cell? q = some u :=
  (((Ch.refl (fun i => i = p.block) w).setCell (Or.inl rfl) v).cell (World.lt_of_cell h) hn).trans h
theorem keepF {w : World} {p q : Addr} (v : Value) (hq : q.block < w.heap.size) (h : w.frozen? q = false) (hn : q.block ≠ p.block) : (w.setCell p v).frozen? q = false :=
  (((Ch.refl (fun i => i = p.block) w).setCell (Or.inl rfl) v).frozen hq hn).trans h
set_option maxHeartbeats 400000 in
set_option maxRecDepth 100000 in
theorem put_none (w : World) (N D n c k : Nat) (x b wr : Int) (hnd : N ≠ D) (c0 : w.cell? ⟨N, 0, none⟩ = some (.slice (some ⟨D, 0, none⟩) n c)) (c1 : w.cell? ⟨N, 1, none⟩ = some (.pointer none)) (c3 : w.cell? ⟨N, 3, none⟩ = some (.int .i64 wr))
    (ck : w.cell? ⟨D, k, none⟩ = some (.int .u8 x)) (fk : w.frozen? ⟨D, k, none⟩ = false) (f3 : w.frozen? ⟨N, 3, none⟩ = false) (hk : (k : Int) < n)
    (ha : Hid (Calls Try.prog 73 #[.pointer (some ⟨N, 0, none⟩), .int .i64 k] w fun e w' => e = .returned (.int .i64 0) ∧ w = w')) :
    Calls Try.prog 72 #[.pointer (some ⟨N, 0, none⟩), .int .i64 k, .int .u8 b] w fun e w' => e = .returned (.int .i64 0) ∧ w' = (w.setCell ⟨D, k, none⟩ (.int .u8 b)).setCell ⟨N, 3, none⟩ (.int .i64 (wrap64 (wr + 1))) := by
  have g3 := keep (p := ⟨D, k, none⟩) (.int .u8 b) c3 hnd
  have gf := keepF (p := ⟨D, k, none⟩) (q := ⟨N, 3, none⟩) (.int .u8 b) (World.lt_of_cell c3) f3 hnd
  clear hnd
  go_enter Try.func72, Try.ntmps72
  go_wp2_with (go_at_call 73; refine ha.out.mono ?_; rintro e w' ⟨rfl, rfl⟩)
  go_ret
  exact ⟨rfl, rfl⟩
set_option maxHeartbeats 400000 in
set_option maxRecDepth 100000 in
theorem put_cut (w : World) (N D L n c k : Nat) (b d : Int) (c0 : w.cell? ⟨N, 0, none⟩ = some (.slice (some ⟨D, 0, none⟩) n c)) (c1 : w.cell? ⟨N, 1, none⟩ = some (.pointer (some ⟨L, 0, none⟩))) (cl : w.cell? ⟨L, 0, none⟩ = some (.int .i64 0))
    (c2 : w.cell? ⟨N, 2, none⟩ = some (.bool false)) (f2 : w.frozen? ⟨N, 2, none⟩ = false)
    (ha : Hid (Calls Try.prog 73 #[.pointer (some ⟨N, 0, none⟩), .int .i64 k] w fun e w' => e = .returned (.int .i64 0) ∧ w = w')) :
    Calls Try.prog 72 #[.pointer (some ⟨N, 0, none⟩), .int .i64 k, .int .u8 b] w fun e w' => e = .returned (.int .i64 13) ∧ w' = w.setCell ⟨N, 2, none⟩ (.bool true) := by
  go_enter Try.func72, Try.ntmps72
  go_wp2_with (go_at_call 73; refine ha.out.mono ?_; rintro e w' ⟨rfl, rfl⟩)
  go_ret
  exact ⟨rfl, rfl⟩
set_option maxHeartbeats 400000 in
set_option maxRecDepth 100000 in
theorem put_some (w : World) (N D L n c k : Nat) (x b wr y : Int) (hnd : N ≠ D) (hnl : N ≠ L) (hdl : D ≠ L) (c0 : w.cell? ⟨N, 0, none⟩ = some (.slice (some ⟨D, 0, none⟩) n c)) (c1 : w.cell? ⟨N, 1, none⟩ = some (.pointer (some ⟨L, 0, none⟩))) (c3 : w.cell? ⟨N, 3, none⟩ = some (.int .i64 wr))
    (cl : w.cell? ⟨L, 0, none⟩ = some (.int .i64 y)) (fl : w.frozen? ⟨L, 0, none⟩ = false) (y0 : (y == 0) = false) (y1 : 1 ≤ y) (y2 : y ≤ 9223372036854775807)
    (ck : w.cell? ⟨D, k, none⟩ = some (.int .u8 x)) (fk : w.frozen? ⟨D, k, none⟩ = false) (f3 : w.frozen? ⟨N, 3, none⟩ = false) (hk : (k : Int) < n)
    (ha : Hid (Calls Try.prog 73 #[.pointer (some ⟨N, 0, none⟩), .int .i64 k] w fun e w' => e = .returned (.int .i64 0) ∧ w = w')) :
    Calls Try.prog 72 #[.pointer (some ⟨N, 0, none⟩), .int .i64 k, .int .u8 b] w fun e w' => e = .returned (.int .i64 0) ∧ w' = ((w.setCell ⟨L, 0, none⟩ (.int .i64 (y - 1))).setCell ⟨D, k, none⟩ (.int .u8 b)).setCell ⟨N, 3, none⟩ (.int .i64 (wrap64 (wr + 1))) := by
  have a0 := keep (p := ⟨L, 0, none⟩) (.int .i64 (y - 1)) c0 hnl
  have a3 := keep (p := ⟨L, 0, none⟩) (.int .i64 (y - 1)) c3 hnl
  have ak := keep (p := ⟨L, 0, none⟩) (.int .i64 (y - 1)) ck hdl
  have af := keepF (p := ⟨L, 0, none⟩) (q := ⟨N, 3, none⟩) (.int .i64 (y - 1)) (World.lt_of_cell c3) f3 hnl
  have akf := keepF (p := ⟨L, 0, none⟩) (q := ⟨D, k, none⟩) (.int .i64 (y - 1)) (World.lt_of_cell ck) fk hdl
  have g3 := keep (p := ⟨D, k, none⟩) (.int .u8 b) a3 hnd
  have gf := keepF (p := ⟨D, k, none⟩) (q := ⟨N, 3, none⟩) (.int .u8 b) (World.lt_of_cell a3) af hnd
  clear hnd hnl hdl
  go_enter Try.func72, Try.ntmps72
  go_wp2_with (go_at_call 73; refine ha.out.mono ?_; rintro e w' ⟨rfl, rfl⟩)
  go_ret
  exact ⟨rfl, rfl⟩
theorem Lf.set {w : World} {F : Nat → Prop} {lv : Value} {o : Option Int} {p : Addr} {cs : Array Value} {T : TypeId} (h : Lf w F lv o) (k : Blk w p.block cs T) (hs : cs.size ≠ 1) (v : Value) : Lf (w.setCell p v) F lv o := by
  cases h with
  | none => exact .none
  | some L x b f => exact .some L x (Blk.other b (b.uniq k (by simpa using Ne.symm hs)) v) f
theorem put_any {w : World} {F : Nat → Prop} {N : Nat} {s : St} (hv : Nv w F N s) (at_ b : Int) (b0 : 0 ≤ b) (b1 : b ≤ 255) :
    Calls Try.prog 72 #[.pointer (some ⟨N, 0, none⟩), .int .i64 at_, .int .u8 b] w fun e w' => e = .returned (.int .i64 (s.put at_ b).2) ∧ Nv w' F N (s.put at_ b).1 ∧ Ch F w w' := by
  have hok := hv.ok.put at_ b0 b1
  obtain ⟨D, lv, h⟩ := id hv
  have ha := ask_any h at_
  by_cases hz : (s.get at_).2 = 0
  · obtain ⟨hd, h0, h1⟩ := St.get_ok hz
    obtain ⟨k, rfl⟩ : ∃ k : Nat, at_ = k := ⟨at_.toNat, by omega⟩
    rw [hz] at ha
    have c2 := h.c2
    rw [hd] at c2
    have hl : k < s.l.length := by omega
    have ck := (h.d.cell k).trans (cr_get _ _ hl)
    have hD : (cr s.l).size ≠ 1 := by rw [cr_size]; have := h.ok.len0; omega
    have e1 : s.put k b = if s.left = some 0 then ({ s with dark := true }, 13) else (⟨s.l.set k b, s.left.map (· - 1), s.dark, wrap64 (s.wr + 1)⟩, 0) := by
      unfold St.put
      rw [if_neg (by simp [hd]), if_neg (by omega)]; rfl
    have hc1 := h.c1
    have hlf := h.lf
    cases hleft : s.left with
    | none =>
      rw [hleft] at hlf
      cases hlf
      rw [e1, hleft] at hok ⊢
      refine (put_none w N D _ _ k _ b s.wr h.nd h.c0 hc1 h.c3 ck (h.d.free k) (h.n.free 3) h1 ha).mono ?_
      rintro e w' ⟨rfl, rfl⟩
      refine ⟨rfl, ⟨D, .pointer none, ?_, ?_, .none, h.fn, h.fd, fun i hi => by simpa [World.setCell] using h.fb i hi, hok⟩, ((Ch.refl F w).setCell (p := ⟨D, k, none⟩) (Or.inl h.fd) _).setCell (p := ⟨N, 3, none⟩) (Or.inl h.fn) _⟩
      · have := (Blk.other h.n (p := ⟨D, k, none⟩) h.nd (.int .u8 b)).set 3 (.int .i64 (wrap64 (s.wr + 1)))
        simpa [hleft, hd] using this
      · have := Blk.other (h.d.set k (.int .u8 b)) (p := ⟨N, 3, none⟩) (Ne.symm h.nd) (.int .i64 (wrap64 (s.wr + 1)))
        rw [cr_set] at this
        simpa [hleft] using this
    | some y =>
      rw [hleft] at hlf
      cases hlf with
      | some L _ bl fl =>
      have hnl : N ≠ L := h.n.uniq bl (by simp)
      have hdl : D ≠ L := h.d.uniq bl (by simpa using hD)
      have y0 := h.ok.left y hleft
      by_cases hy : y = 0
      · subst hy
        rw [e1, hleft, if_pos rfl] at hok ⊢
        refine (put_cut w N D L _ _ k b 0 h.c0 hc1 (bl.cell 0) c2 (h.n.free 2) ha).mono ?_
        rintro e w' ⟨rfl, rfl⟩
        refine ⟨rfl, ⟨D, .pointer (some ⟨L, 0, none⟩), ?_, ?_, ?_, h.fn, h.fd, fun i hi => by simpa [World.setCell] using h.fb i hi, hok⟩, (Ch.refl F w).setCell (p := ⟨N, 2, none⟩) (Or.inl h.fn) _⟩
        · have := h.n.set 2 (.bool true)
          simpa using this
        · exact Blk.other h.d (p := ⟨N, 2, none⟩) (Ne.symm h.nd) _
        · exact .some L 0 (Blk.other bl (p := ⟨N, 2, none⟩) (Ne.symm hnl) _) fl
      · rw [e1, hleft, if_neg (by simpa using hy)] at hok ⊢
        refine (put_some w N D L _ _ k _ b s.wr y h.nd hnl hdl h.c0 hc1 h.c3 (bl.cell 0) (bl.free 0) (beq_eq_false_iff_ne.2 hy) (by omega) y0.2 ck (h.d.free k) (h.n.free 3) h1 ha).mono ?_
        rintro e w' ⟨rfl, rfl⟩
        refine ⟨rfl, ⟨D, .pointer (some ⟨L, 0, none⟩), ?_, ?_, ?_, h.fn, h.fd, fun i hi => by simpa [World.setCell] using h.fb i hi, hok⟩,
          (((Ch.refl F w).setCell (p := ⟨L, 0, none⟩) (Or.inl fl) _).setCell (p := ⟨D, k, none⟩) (Or.inl h.fd) _).setCell (p := ⟨N, 3, none⟩) (Or.inl h.fn) _⟩
        · have := (Blk.other (Blk.other h.n (p := ⟨L, 0, none⟩) hnl (.int .i64 (y - 1))) (p := ⟨D, k, none⟩) h.nd (.int .u8 b)).set 3 (.int .i64 (wrap64 (s.wr + 1)))
          simpa [hd] using this
        · have := Blk.other ((Blk.other h.d (p := ⟨L, 0, none⟩) hdl (.int .i64 (y - 1))).set k (.int .u8 b)) (p := ⟨N, 3, none⟩) (Ne.symm h.nd) (.int .i64 (wrap64 (s.wr + 1)))
          rw [cr_set] at this
          simpa using this
        · refine .some L (y - 1) ?_ fl
          have := Blk.other (Blk.other (bl.set 0 (.int .i64 (y - 1))) (p := ⟨D, k, none⟩) (Ne.symm hdl) (.int .u8 b)) (p := ⟨N, 3, none⟩) (Ne.symm hnl) (.int .i64 (wrap64 (s.wr + 1)))
          simpa using this
  · rw [St.put_no s at_ b hz]
    refine (put_ref w N at_ b _ (by rw [bne_iff_ne]; exact hz) ha).mono ?_
    rintro e w' ⟨rfl, rfl⟩
    exact ⟨rfl, hv, Ch.refl _ _⟩
theorem Lf.mono {w : World} {F G : Nat → Prop} {lv : Value} {o : Option Int} (h : Lf w F lv o) (hF : ∀ k, F k → G k) : Lf w G lv o := by
  cases h with
  | none => exact .none
  | some L y b f => exact .some L y b (hF L f)
theorem Lf.alloc {w : World} {F : Nat → Prop} {lv : Value} {o : Option Int} (h : Lf w F lv o) (ob : Obj) : Lf (w.alloc ob) F lv o := by
  cases h with
  | none => exact .none
  | some L y b f => exact .some L y (b.alloc _) f
/-- The blocks of F, and those that came in between. -/
def Grow (F : Nat → Prop) (w w' : World) : Nat → Prop := fun k => F k ∨ (w.heap.size ≤ k ∧ k < w'.heap.size)
set_option maxHeartbeats 400000 in
set_option maxRecDepth 100000 in
theorem size_core (w : World) (N D n c : Nat) (c0 : w.cell? ⟨N, 0, none⟩ = some (.slice (some ⟨D, 0, none⟩) n c)) :
    Calls Try.prog 23 #[.pointer (some ⟨N, 0, none⟩)] w fun e w' => e = .returned (.int .i64 n) ∧ w = w' := by
  go_enter Try.func23, Try.ntmps23
  go_wp2_with (go_at_call 53; refine (off_some _ _ _ _ _ c0).mono ?_; rintro e w' ⟨rfl, rfl⟩)
  go_ret
  exact ⟨rfl, rfl⟩
theorem size_any {w : World} {F : Nat → Prop} {N : Nat} {s : St} (hv : Nv w F N s) :
    Calls Try.prog 23 #[.pointer (some ⟨N, 0, none⟩)] w fun e w' => e = .returned (.int .i64 s.l.length) ∧ w = w' := by
  obtain ⟨D, lv, h⟩ := hv
  exact size_core w N D _ _ h.c0
theorem info5 : (Try.prog.info? 5).map (fun i => (i.zero, i.size, i.bytes)) = some (some (.int .u8 0), 1, 1) := by kernel_rfl
/-- make([]byte, n). -/
theorem run_makeBytes (w : World) (n : Nat) (hn : n ≤ 65536) : (Instr.makeSlice 62 (.int .i64 n) (.int .i64 n)).run Try.prog w = .ok (.slice (some ⟨w.heap.size, 0, none⟩) n n) (w.alloc (.cells (cr (List.replicate n 0)) 5)) := by
  obtain ⟨i0, hi, hz0, hz1, hz2⟩ := info_parts info5
  have h := run_make (P := Try.prog) w 62 5 i0 (.int .u8 0) Try.underlying62 hi hz0 .i64 .i64 n n (by omega) (Int.le_refl _) (by rw [hz2]; omega) (by omega)
  rw [h]
  have e : (madeCells (Value.int .u8 0).cells (n * i0.size)) = cr (List.replicate n 0) := by
    rw [hz1, Nat.mul_one]
    have := toList_madeCells_one (.int .u8 0) n
    unfold cr
    rw [List.map_replicate]
    show madeCells #[.int .u8 0] n = _
    rw [← this]
  simp only [Int.toNat_natCast, e]
set_option maxHeartbeats 400000 in
set_option maxRecDepth 100000 in
theorem bytes_core (w : World) (N D n c : Nat) (l : List Int) (c0 : w.cell? ⟨N, 0, none⟩ = some (.slice (some ⟨D, 0, none⟩) n c)) (hl : l.length = n) (hn : 0 < n) (hn2 : n ≤ 65536) (hD : Blk w D (cr l) 5) :
    Calls Try.prog 76 #[.pointer (some ⟨N, 0, none⟩)] w fun e w' => e = .returned (.slice (some ⟨w.heap.size, 0, none⟩) n n) ∧ w' = w.alloc (.cells (cr l) 5) := by
  have a0 := Lib.cell?_alloc_some (.cells (cr (List.replicate n 0)) 5) c0
  have hmk := run_makeBytes w n hn2
  have hn' : (0 : Int) < n := by omega
  have hcp : ∀ ty : TypeId, (Builtin.copy_ #[62, 62] ty #[.slice (some ⟨w.heap.size, 0, none⟩) n n, .slice (some ⟨D, 0, none⟩) n c]).run Try.prog (w.alloc (.cells (cr (List.replicate n 0)) 5)) = .ok (goInt n) (w.alloc (.cells (cr l) 5)) := fun ty => by
    have h := run_copy_row (P := Try.prog) (w.alloc (.cells (cr (List.replicate n 0)) 5)) 62 62 ty 5 w.heap.size 0 n n ⟨D, 0, none⟩ n c (cr (List.replicate n 0)) 5 (l.map (Value.int .u8)) Try.underlying62 (by kernel_rfl) (Blk.new w _ _).heap
      (by simp [hl]) (fun j v hv => by
        rw [Addr.add_mid, (hD.alloc _).cell, Nat.zero_add, ← hv]; simp [cr]) (by simp [cr, hl]) (fun v hv => by obtain ⟨z, _, rfl⟩ := List.mem_map.1 hv; rfl)
    rw [h, List.length_map, hl, World.setRow_alloc_new]
    congr 3
    simp [cr, hl]
  have HL := Lib.hid hl
  clear hl
  go_enter Try.func76, Try.ntmps76
  go_wp2_with (go_at_call 23; refine (size_core _ _ _ _ _ c0).mono ?_; rintro e w' ⟨rfl, rfl⟩)
  go_ret
  exact ⟨rfl, rfl⟩
theorem bytes_any {w : World} {F : Nat → Prop} {N : Nat} {s : St} (hv : Nv w F N s) :
    Calls Try.prog 76 #[.pointer (some ⟨N, 0, none⟩)] w fun e w' => e = .returned (.slice (some ⟨w.heap.size, 0, none⟩) s.l.length s.l.length) ∧ w' = w.alloc (.cells (cr s.l) 5) := by
  obtain ⟨D, lv, h⟩ := hv
  have h0 := h.ok.len0
  exact bytes_core w N D _ _ s.l h.c0 rfl (by omega) h.ok.len1 h.d
/-- A new one's state. -/
def fresh (n : Nat) : St := ⟨List.replicate n 0, none, false, 0⟩
theorem fresh_ok {n : Nat} (h0 : 4096 ≤ n) (h1 : n ≤ 65536) : Ok (fresh n) :=
  ⟨by simpa [fresh] using h0, by simpa [fresh] using h1, fun x hx => by rw [List.eq_of_mem_replicate hx]; omega, fun x hx => by simp [fresh] at hx⟩
set_option maxHeartbeats 400000 in
set_option maxRecDepth 100000 in
theorem new_bad (w : World) (x : Int) (h : x < 4096 ∨ 65536 < x ∨ x % 2 ≠ 0) :
    Calls Try.prog 6 #[.int .i64 x] w fun e w' => e = .returned (.tuple #[.pointer none, .int .i64 2]) ∧ w = w' := by
  by_cases c1 : x < 4096
  · clear h
    go_enter Try.func6, Try.ntmps6
    go_wp2
    go_ret2
    exact ⟨rfl, rfl⟩
  · by_cases c2 : 65536 < x
    · clear h
      go_enter Try.func6, Try.ntmps6
      go_wp2
      go_ret2
      exact ⟨rfl, rfl⟩
    · have c3 : (x % 2 != 0) = true := by rw [bne_iff_ne]; omega
      clear h
      go_enter Try.func6, Try.ntmps6
      go_wp2
      go_ret2
      exact ⟨rfl, rfl⟩
set_option maxHeartbeats 400000 in
set_option maxRecDepth 100000 in
theorem new_core (w : World) (n : Nat) (h0 : 4096 ≤ n) (h1 : n ≤ 65536) (h2 : n % 2 = 0) :
    Calls Try.prog 6 #[.int .i64 n] w fun e w' => e = .returned (.tuple #[.pointer (some ⟨w.heap.size + 1, 0, none⟩), .int .i64 0]) ∧
      w' = (w.alloc (.cells (cr (List.replicate n 0)) 5)).alloc (.cells #[.slice (some ⟨w.heap.size, 0, none⟩) n n, .pointer none, .bool false, .int .i64 0] 68) := by
  have hmk := run_makeBytes w n h1
  have c1 : ¬ (n : Int) < 4096 := by omega
  have c2 : ¬ 65536 < (n : Int) := by omega
  have c3 : ((n : Int) % 2 != 0) = false := by rw [bne_eq_false_iff_eq]; omega
  clear h2
  generalize cr (List.replicate n 0) = Z at *
  go_enter Try.func6, Try.ntmps6
  go_wp2
  go_ret2
  exact ⟨rfl, rfl⟩
theorem new_ok (w : World) (n : Nat) (h0 : 4096 ≤ n) (h1 : n ≤ 65536) (h2 : n % 2 = 0) :
    Calls Try.prog 6 #[.int .i64 n] w fun e w' => ∃ F N, e = .returned (.tuple #[.pointer (some ⟨N, 0, none⟩), .int .i64 0]) ∧ Nv w' F N (fresh n) ∧ (∀ k, F k → w.heap.size ≤ k) ∧ Ch (fun _ => False) w w' := by
  refine (new_core w n h0 h1 h2).mono ?_
  rintro e w' ⟨rfl, rfl⟩
  have hl : (fresh n).l.length = n := by simp [fresh]
  have hsz : (w.alloc (.cells (cr (List.replicate n 0)) 5)).heap.size = w.heap.size + 1 := by simp
  have hn := Blk.new (w.alloc (.cells (cr (List.replicate n 0)) 5)) #[.slice (some ⟨w.heap.size, 0, none⟩) n n, .pointer none, .bool false, .int .i64 0] 68
  rw [hsz] at hn
  refine ⟨fun k => k = w.heap.size ∨ k = w.heap.size + 1, w.heap.size + 1, rfl, ⟨w.heap.size, .pointer none, by rw [hl]; exact hn, (Blk.new w _ _).alloc _, .none, Or.inr rfl, Or.inl rfl, fun k hk => by simp; omega, fresh_ok h0 h1⟩, fun k hk => by omega, ((Ch.refl _ w).alloc _).alloc _⟩
end Go.Proofs.Ytjeaidmmhplglaa.Nvm
