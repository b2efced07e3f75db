/- The walks of the reference's nvm: each call as the same step of the same state. -/
import Derived.Test.YtjeaidmmhplglaaNvm
set_option linter.unusedVariables false
set_option linter.unusedSimpArgs false
namespace Go.Proofs.Ytjeaidmmhplglaa.Nvm
open Go.RowKit Go.Proofs.Ytjeaidmmhplglaa.Base

def St.lr (s : St) : Int := match s.left with | none => -1 | some x => x
structure RvD (w : World) (F : Nat → Prop) (N D : Nat) (s : St) : Prop where
  n : Blk w N #[.slice (some ⟨D, 0, none⟩) s.l.length s.l.length, .int .i64 s.lr, .bool s.dark, .int .i64 s.wr] 123
  d : Blk w D (cr s.l) 5
  fn : F N
  fd : F D
  fb : ∀ k, F k → k < w.heap.size
  ok : Ok s
def Rv (w : World) (F : Nat → Prop) (N : Nat) (s : St) : Prop := ∃ D, RvD w F N D s
theorem Rv.ch {w w' : World} {F S : Nat → Prop} {N : Nat} {s : St} (h : Rv w F N s) (c : Ch S w w') (hs : ∀ k, F k → ¬ S k) : Rv w' F N s := by
  obtain ⟨D, h⟩ := h
  exact ⟨D, h.n.ch c (hs N h.fn), h.d.ch c (hs D h.fd), h.fn, h.fd, fun k hk => Nat.lt_of_lt_of_le (h.fb k hk) c.size, h.ok⟩
theorem Rv.alloc {w : World} {F : Nat → Prop} {N : Nat} {s : St} (h : Rv w F N s) (o : Obj) : Rv (w.alloc o) F N s := h.ch ((Ch.refl (fun _ => False) w).alloc o) (fun _ _ h => h)
theorem Rv.drewN {w : World} {F : Nat → Prop} {N : Nat} {s : St} (h : Rv w F N s) (m : Nat) : Rv (w.drewN m) F N s := h.ch ((Ch.refl (fun _ => False) w).drewN m) (fun _ _ h => h)
theorem Rv.drew {w : World} {F : Nat → Prop} {N : Nat} {s : St} (h : Rv w F N s) : Rv w.drew F N s := h.ch ((Ch.refl (fun _ => False) w).drew) (fun _ _ h => h)
theorem Rv.ok {w : World} {F : Nat → Prop} {N : Nat} {s : St} (h : Rv w F N s) : Ok s := by obtain ⟨_, h⟩ := h; exact h.ok
theorem Rv.fb {w : World} {F : Nat → Prop} {N : Nat} {s : St} (h : Rv w F N s) : ∀ k, F k → k < w.heap.size := by obtain ⟨_, h⟩ := h; exact h.fb
theorem Rv.fn {w : World} {F : Nat → Prop} {N : Nat} {s : St} (h : Rv w F N s) : F N := by obtain ⟨_, h⟩ := h; exact h.fn
theorem RvD.nd {w : World} {F : Nat → Prop} {N D : Nat} {s : St} (h : RvD w F N D s) : N ≠ D := h.n.uniq h.d (by rw [cr_size]; have := h.ok.len0; simp; omega)

set_option maxHeartbeats 400000 in
set_option maxRecDepth 100000 in
theorem rget_dark (w : World) (N : Nat) (at_ : Int) (c2 : w.cell? ⟨N, 2, none⟩ = some (.bool true)) :
    Calls Try.prog 87 #[.pointer (some ⟨N, 0, none⟩), .int .i64 at_] w fun e w' => e = .returned (.tuple #[.int .u8 0, .int .i64 13]) ∧ w = w' := by
  go_enter Try.func87, Try.ntmps87
  go_wp2
  go_ret2
  exact ⟨rfl, rfl⟩
set_option maxHeartbeats 400000 in
set_option maxRecDepth 100000 in
theorem rget_low (w : World) (N D n c : Nat) (at_ : Int) (c0 : w.cell? ⟨N, 0, none⟩ = some (.slice (some ⟨D, 0, none⟩) n c)) (c2 : w.cell? ⟨N, 2, none⟩ = some (.bool false)) (h : at_ < 0) :
    Calls Try.prog 87 #[.pointer (some ⟨N, 0, none⟩), .int .i64 at_] w fun e w' => e = .returned (.tuple #[.int .u8 0, .int .i64 2]) ∧ w = w' := by
  go_enter Try.func87, Try.ntmps87
  go_wp2
  go_ret2
  exact ⟨rfl, rfl⟩
set_option maxHeartbeats 400000 in
set_option maxRecDepth 100000 in
theorem rget_high (w : World) (N D n c : Nat) (at_ : Int) (c0 : w.cell? ⟨N, 0, none⟩ = some (.slice (some ⟨D, 0, none⟩) n c)) (c2 : w.cell? ⟨N, 2, none⟩ = some (.bool false)) (h0 : ¬ at_ < 0) (h : (n : Int) ≤ at_) :
    Calls Try.prog 87 #[.pointer (some ⟨N, 0, none⟩), .int .i64 at_] w fun e w' => e = .returned (.tuple #[.int .u8 0, .int .i64 2]) ∧ w = w' := by
  go_enter Try.func87, Try.ntmps87
  go_wp2
  go_ret2
  exact ⟨rfl, rfl⟩
set_option maxHeartbeats 400000 in
set_option maxRecDepth 100000 in
theorem rget_in (w : World) (N D n c k : Nat) (x : Int) (c0 : w.cell? ⟨N, 0, none⟩ = some (.slice (some ⟨D, 0, none⟩) n c)) (c2 : w.cell? ⟨N, 2, none⟩ = some (.bool false)) (ck : w.cell? ⟨D, k, none⟩ = some (.int .u8 x)) (hk : (k : Int) < n) :
    Calls Try.prog 87 #[.pointer (some ⟨N, 0, none⟩), .int .i64 k] w fun e w' => e = .returned (.tuple #[.int .u8 x, .int .i64 0]) ∧ w = w' := by
  go_enter Try.func87, Try.ntmps87
  go_wp2
  go_ret2
  exact ⟨rfl, rfl⟩
theorem rget_any {w : World} {F : Nat → Prop} {N : Nat} {s : St} (hv : Rv w F N s) (at_ : Int) :
    Calls Try.prog 87 #[.pointer (some ⟨N, 0, none⟩), .int .i64 at_] w fun e w' => e = .returned (.tuple #[.int .u8 (s.get at_).1, .int .i64 (s.get at_).2]) ∧ w = w' := by
  obtain ⟨D, h⟩ := hv
  have c0 : w.cell? ⟨N, 0, none⟩ = some (.slice (some ⟨D, 0, none⟩) s.l.length s.l.length) := h.n.cell 0
  have c2 : w.cell? ⟨N, 2, none⟩ = some (.bool s.dark) := h.n.cell 2
  unfold St.get
  cases hd : s.dark with
  | true => rw [hd] at c2; simpa using rget_dark w N at_ c2
  | false =>
    rw [hd] at c2
    by_cases h1 : at_ < 0
    · simpa [h1] using rget_low w N D _ _ at_ c0 c2 h1
    · by_cases h2 : (s.l.length : Int) ≤ at_
      · simpa [h1, h2] using rget_high w N D _ _ at_ c0 c2 h1 h2
      · obtain ⟨k, rfl⟩ : ∃ k : Nat, at_ = k := ⟨at_.toNat, by omega⟩
        simpa [h1, h2] using rget_in w N D _ _ k _ c0 c2 ((h.d.cell k).trans (cr_get _ _ (by omega))) (by omega)
set_option maxHeartbeats 400000 in
set_option maxRecDepth 100000 in
theorem rput_ref (w : World) (N : Nat) (at_ b x r : Int) (hr : (r != 0) = true) (ha : Hid (Calls Try.prog 87 #[.pointer (some ⟨N, 0, none⟩), .int .i64 at_] w fun e w' => e = .returned (.tuple #[.int .u8 x, .int .i64 r]) ∧ w = w')) :
    Calls Try.prog 86 #[.pointer (some ⟨N, 0, none⟩), .int .i64 at_, .int .u8 b] w fun e w' => e = .returned (.int .i64 r) ∧ w = w' := by
  go_enter Try.func86, Try.ntmps86
  go_wp2_with (go_at_call 87; refine ha.out.mono ?_; rintro e w' ⟨rfl, rfl⟩)
  go_ret
  exact ⟨rfl, rfl⟩
set_option maxHeartbeats 400000 in
set_option maxRecDepth 100000 in
theorem rput_none (w : World) (N D n c k : Nat) (x y b wr : Int) (hnd : N ≠ D) (c0 : w.cell? ⟨N, 0, none⟩ = some (.slice (some ⟨D, 0, none⟩) n c)) (c1 : w.cell? ⟨N, 1, none⟩ = some (.int .i64 (-1))) (c3 : w.cell? ⟨N, 3, none⟩ = some (.int .i64 wr))
    (ck : w.cell? ⟨D, k, none⟩ = some (.int .u8 x)) (fk : w.frozen? ⟨D, k, none⟩ = false) (f3 : w.frozen? ⟨N, 3, none⟩ = false) (hk : (k : Int) < n)
    (ha : Hid (Calls Try.prog 87 #[.pointer (some ⟨N, 0, none⟩), .int .i64 k] w fun e w' => e = .returned (.tuple #[.int .u8 y, .int .i64 0]) ∧ w = w')) :
    Calls Try.prog 86 #[.pointer (some ⟨N, 0, none⟩), .int .i64 k, .int .u8 b] w fun e w' => e = .returned (.int .i64 0) ∧ w' = (w.setCell ⟨D, k, none⟩ (.int .u8 b)).setCell ⟨N, 3, none⟩ (.int .i64 (wrap64 (wr + 1))) := by
  have g3 := keep (p := ⟨D, k, none⟩) (.int .u8 b) c3 hnd
  have gf := keepF (p := ⟨D, k, none⟩) (q := ⟨N, 3, none⟩) (.int .u8 b) (World.lt_of_cell c3) f3 hnd
  clear hnd
  go_enter Try.func86, Try.ntmps86
  go_wp2_with (go_at_call 87; refine ha.out.mono ?_; rintro e w' ⟨rfl, rfl⟩)
  go_ret
  exact ⟨rfl, rfl⟩
set_option maxHeartbeats 400000 in
set_option maxRecDepth 100000 in
theorem rput_cut (w : World) (N D n c k : Nat) (b y : Int) (c0 : w.cell? ⟨N, 0, none⟩ = some (.slice (some ⟨D, 0, none⟩) n c)) (c1 : w.cell? ⟨N, 1, none⟩ = some (.int .i64 0))
    (c2 : w.cell? ⟨N, 2, none⟩ = some (.bool false)) (f2 : w.frozen? ⟨N, 2, none⟩ = false)
    (ha : Hid (Calls Try.prog 87 #[.pointer (some ⟨N, 0, none⟩), .int .i64 k] w fun e w' => e = .returned (.tuple #[.int .u8 y, .int .i64 0]) ∧ w = w')) :
    Calls Try.prog 86 #[.pointer (some ⟨N, 0, none⟩), .int .i64 k, .int .u8 b] w fun e w' => e = .returned (.int .i64 13) ∧ w' = w.setCell ⟨N, 2, none⟩ (.bool true) := by
  go_enter Try.func86, Try.ntmps86
  go_wp2_with (go_at_call 87; refine ha.out.mono ?_; rintro e w' ⟨rfl, rfl⟩)
  go_ret
  exact ⟨rfl, rfl⟩
set_option maxHeartbeats 400000 in
set_option maxRecDepth 100000 in
theorem rput_some (w : World) (N D n c k : Nat) (x y b wr q : Int) (hnd : N ≠ D) (c0 : w.cell? ⟨N, 0, none⟩ = some (.slice (some ⟨D, 0, none⟩) n c)) (c1 : w.cell? ⟨N, 1, none⟩ = some (.int .i64 q)) (c3 : w.cell? ⟨N, 3, none⟩ = some (.int .i64 wr))
    (y0 : (q == 0) = false) (y1 : 1 ≤ q) (y2 : q ≤ 9223372036854775807)
    (ck : w.cell? ⟨D, k, none⟩ = some (.int .u8 x)) (fk : w.frozen? ⟨D, k, none⟩ = false) (f3 : w.frozen? ⟨N, 3, none⟩ = false) (f1 : w.frozen? ⟨N, 1, none⟩ = false) (hk : (k : Int) < n)
    (ha : Hid (Calls Try.prog 87 #[.pointer (some ⟨N, 0, none⟩), .int .i64 k] w fun e w' => e = .returned (.tuple #[.int .u8 y, .int .i64 0]) ∧ w = w')) :
    Calls Try.prog 86 #[.pointer (some ⟨N, 0, none⟩), .int .i64 k, .int .u8 b] w fun e w' => e = .returned (.int .i64 0) ∧ w' = ((w.setCell ⟨N, 1, none⟩ (.int .i64 (q - 1))).setCell ⟨D, k, none⟩ (.int .u8 b)).setCell ⟨N, 3, none⟩ (.int .i64 (wrap64 (wr + 1))) := by
  have ak := keep (p := ⟨N, 1, none⟩) (.int .i64 (q - 1)) ck (Ne.symm hnd)
  have akf := keepF (p := ⟨N, 1, none⟩) (q := ⟨D, k, none⟩) (.int .i64 (q - 1)) (World.lt_of_cell ck) fk (Ne.symm hnd)
  have a3 : (w.setCell ⟨N, 1, none⟩ (.int .i64 (q - 1))).cell? ⟨N, 3, none⟩ = some (.int .i64 wr) := (World.cell?_setCell_other w ⟨N, 1, none⟩ ⟨N, 3, none⟩ (.int .i64 (q - 1)) (by simp)).trans c3
  have af : (w.setCell ⟨N, 1, none⟩ (.int .i64 (q - 1))).frozen? ⟨N, 3, none⟩ = false := by simp [f3]
  have g3 := keep (p := ⟨D, k, none⟩) (.int .u8 b) a3 hnd
  have gf := keepF (p := ⟨D, k, none⟩) (q := ⟨N, 3, none⟩) (.int .u8 b) (World.lt_of_cell a3) af hnd
  clear hnd
  go_enter Try.func86, Try.ntmps86
  go_wp2_with (go_at_call 87; refine ha.out.mono ?_; rintro e w' ⟨rfl, rfl⟩)
  go_ret
  exact ⟨rfl, rfl⟩
theorem rput_any {w : World} {F : Nat → Prop} {N : Nat} {s : St} (hv : Rv w F N s) (at_ b : Int) (b0 : 0 ≤ b) (b1 : b ≤ 255) :
    Calls Try.prog 86 #[.pointer (some ⟨N, 0, none⟩), .int .i64 at_, .int .u8 b] w fun e w' => e = .returned (.int .i64 (s.put at_ b).2) ∧ Rv w' F N (s.put at_ b).1 ∧ Ch F w w' := by
  have hok := hv.ok.put at_ b0 b1
  have ha := rget_any hv at_
  obtain ⟨D, h⟩ := id hv
  by_cases hz : (s.get at_).2 = 0
  · obtain ⟨hd, h0, h1⟩ := St.get_ok hz
    obtain ⟨k, rfl⟩ : ∃ k : Nat, at_ = k := ⟨at_.toNat, by omega⟩
    rw [hz] at ha
    have c0 : w.cell? ⟨N, 0, none⟩ = some (.slice (some ⟨D, 0, none⟩) s.l.length s.l.length) := h.n.cell 0
    have c1 : w.cell? ⟨N, 1, none⟩ = some (.int .i64 s.lr) := h.n.cell 1
    have c2 : w.cell? ⟨N, 2, none⟩ = some (.bool s.dark) := h.n.cell 2
    have c3 : w.cell? ⟨N, 3, none⟩ = some (.int .i64 s.wr) := h.n.cell 3
    rw [hd] at c2
    have hl : k < s.l.length := by omega
    have ck := (h.d.cell k).trans (cr_get _ _ hl)
    have e1 : s.put k b = if s.left = some 0 then ({ s with dark := true }, 13) else (⟨s.l.set k b, s.left.map (· - 1), s.dark, wrap64 (s.wr + 1)⟩, 0) := by
      unfold St.put
      rw [if_neg (by simp [hd]), if_neg (by omega)]; rfl
    unfold St.lr at c1
    cases hleft : s.left with
    | none =>
      rw [hleft] at c1
      rw [e1, hleft] at hok ⊢
      refine (rput_none w N D _ _ k _ _ b s.wr h.nd c0 c1 c3 ck (h.d.free k) (h.n.free 3) h1 ha).mono ?_
      rintro e w' ⟨rfl, rfl⟩
      refine ⟨rfl, ⟨D, ?_, ?_, h.fn, h.fd, fun i hi => by simpa [World.setCell] using h.fb i hi, hok⟩, ((Ch.refl F w).setCell (p := ⟨D, k, none⟩) (Or.inl h.fd) _).setCell (p := ⟨N, 3, none⟩) (Or.inl h.fn) _⟩
      · have := (Blk.other h.n (p := ⟨D, k, none⟩) h.nd (.int .u8 b)).set 3 (.int .i64 (wrap64 (s.wr + 1)))
        simpa [hleft, hd, St.lr] using this
      · have := Blk.other (h.d.set k (.int .u8 b)) (p := ⟨N, 3, none⟩) (Ne.symm h.nd) (.int .i64 (wrap64 (s.wr + 1)))
        rw [cr_set] at this
        simpa [hleft] using this
    | some y =>
      rw [hleft] at c1
      have y0 := h.ok.left y hleft
      by_cases hy : y = 0
      · subst hy
        rw [e1, hleft, if_pos rfl] at hok ⊢
        refine (rput_cut w N D _ _ k b _ c0 c1 c2 (h.n.free 2) ha).mono ?_
        rintro e w' ⟨rfl, rfl⟩
        refine ⟨rfl, ⟨D, ?_, ?_, h.fn, h.fd, fun i hi => by simpa [World.setCell] using h.fb i hi, hok⟩, (Ch.refl F w).setCell (p := ⟨N, 2, none⟩) (Or.inl h.fn) _⟩
        · have := h.n.set 2 (.bool true)
          simpa [St.lr, hleft] using this
        · exact Blk.other h.d (p := ⟨N, 2, none⟩) (Ne.symm h.nd) _
      · rw [e1, hleft, if_neg (by simpa using hy)] at hok ⊢
        refine (rput_some w N D _ _ k _ _ b s.wr y h.nd c0 c1 c3 (beq_eq_false_iff_ne.2 hy) (by omega) y0.2 ck (h.d.free k) (h.n.free 3) (h.n.free 1) h1 ha).mono ?_
        rintro e w' ⟨rfl, rfl⟩
        refine ⟨rfl, ⟨D, ?_, ?_, h.fn, h.fd, fun i hi => by simpa [World.setCell] using h.fb i hi, hok⟩,
          (((Ch.refl F w).setCell (p := ⟨N, 1, none⟩) (Or.inl h.fn) _).setCell (p := ⟨D, k, none⟩) (Or.inl h.fd) _).setCell (p := ⟨N, 3, none⟩) (Or.inl h.fn) _⟩
        · have := (Blk.other (h.n.set 1 (.int .i64 (y - 1))) (p := ⟨D, k, none⟩) h.nd (.int .u8 b)).set 3 (.int .i64 (wrap64 (s.wr + 1)))
          simpa [hd, St.lr] using this
        · have := Blk.other ((Blk.other h.d (p := ⟨N, 1, none⟩) (Ne.symm h.nd) (.int .i64 (y - 1))).set k (.int .u8 b)) (p := ⟨N, 3, none⟩) (Ne.symm h.nd) (.int .i64 (wrap64 (s.wr + 1)))
          rw [cr_set] at this
          simpa using this
  · rw [St.put_no s at_ b hz]
    refine (rput_ref w N at_ b _ _ (by rw [bne_iff_ne]; exact hz) ha).mono ?_
    rintro e w' ⟨rfl, rfl⟩
    exact ⟨rfl, hv, Ch.refl _ _⟩
set_option maxHeartbeats 400000 in
set_option maxRecDepth 100000 in
theorem rnew_bad (w : World) (x : Int) (h : x < 4096 ∨ 65536 < x ∨ x % 2 ≠ 0) :
    Calls Try.prog 62 #[.int .i64 x] w fun e w' => e = .returned (.tuple #[.pointer none, .int .i64 2]) ∧ w = w' := by
  by_cases c1 : x < 4096
  · clear h
    go_enter Try.func62, Try.ntmps62
    go_wp2
    go_ret2
    exact ⟨rfl, rfl⟩
  · by_cases c2 : 65536 < x
    · clear h
      go_enter Try.func62, Try.ntmps62
      go_wp2
      go_ret2
      exact ⟨rfl, rfl⟩
    · have c3 : (x % 2 == 1) = true := by rw [beq_iff_eq]; omega
      clear h
      go_enter Try.func62, Try.ntmps62
      go_wp2
      go_ret2
      exact ⟨rfl, rfl⟩
set_option maxHeartbeats 400000 in
set_option maxRecDepth 100000 in
theorem rnew_core (w : World) (n : Nat) (h0 : 4096 ≤ n) (h1 : n ≤ 65536) (h2 : n % 2 = 0) :
    Calls Try.prog 62 #[.int .i64 n] w fun e w' => e = .returned (.tuple #[.pointer (some ⟨w.heap.size + 1, 0, none⟩), .int .i64 0]) ∧
      w' = (w.alloc (.cells (cr (List.replicate n 0)) 5)).alloc (.cells #[.slice (some ⟨w.heap.size, 0, none⟩) n n, .int .i64 (-1), .bool false, .int .i64 0] 123) := by
  have hmk := run_makeBytes w n h1
  have c1 : ¬ (n : Int) < 4096 := by omega
  have c2 : ¬ 65536 < (n : Int) := by omega
  have c3 : ((n : Int) % 2 == 1) = false := by rw [beq_eq_false_iff_ne]; omega
  clear h2
  generalize cr (List.replicate n 0) = Z at *
  go_enter Try.func62, Try.ntmps62
  go_wp2
  go_ret2
  exact ⟨rfl, rfl⟩
theorem rnew_ok (w : World) (n : Nat) (h0 : 4096 ≤ n) (h1 : n ≤ 65536) (h2 : n % 2 = 0) :
    Calls Try.prog 62 #[.int .i64 n] w fun e w' => ∃ F N, e = .returned (.tuple #[.pointer (some ⟨N, 0, none⟩), .int .i64 0]) ∧ Rv w' F N (fresh n) ∧ (∀ k, F k → w.heap.size ≤ k) ∧ Ch (fun _ => False) w w' := by
  refine (rnew_core w n h0 h1 h2).mono ?_
  rintro e w' ⟨rfl, rfl⟩
  have hl : (fresh n).l.length = n := by simp [fresh]
  have hsz : (w.alloc (.cells (cr (List.replicate n 0)) 5)).heap.size = w.heap.size + 1 := by simp
  have hn := Blk.new (w.alloc (.cells (cr (List.replicate n 0)) 5)) #[.slice (some ⟨w.heap.size, 0, none⟩) n n, .int .i64 (-1), .bool false, .int .i64 0] 123
  rw [hsz] at hn
  refine ⟨fun k => k = w.heap.size ∨ k = w.heap.size + 1, w.heap.size + 1, rfl, ⟨w.heap.size, by rw [hl]; exact hn, (Blk.new w _ _).alloc _, Or.inr rfl, Or.inl rfl, fun k hk => by simp; omega, fresh_ok h0 h1⟩, fun k hk => by omega, ((Ch.refl _ w).alloc _).alloc _⟩
end Go.Proofs.Ytjeaidmmhplglaa.Nvm
