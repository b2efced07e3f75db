/- The walks of txn: its steps. -/
import Derived.Test.YtjeaidmmhplglaaNvm
import Derived.Laws.BitsAllLaws
set_option linter.unusedVariables false
set_option linter.unusedSimpArgs false
namespace Go.Proofs.Ytjeaidmmhplglaa.Nvm
open Go.RowKit Go.Proofs.Ytjeaidmmhplglaa.Base

/-- The transactions at block T, over the memory N, whose state is s and whose size is L. -/
structure Tx (w : World) (F : Nat → Prop) (T N L : Nat) (s : St) : Prop where
  t : Blk w T #[.pointer (some ⟨N, 0, none⟩)] 28
  n : Nv w F N s
  ft : ¬ F T
  len : s.l.length = L
theorem Tx.ch {w w' : World} {F S : Nat → Prop} {T N L : Nat} {s : St} (h : Tx w F T N L s) (c : Ch S w w') (hs : ∀ k, F k → ¬ S k) (ht : ¬ S T) : Tx w' F T N L s := ⟨h.t.ch c ht, h.n.ch c hs, h.ft, h.len⟩
theorem Tx.gr {w w' : World} {F : Nat → Prop} {T N L : Nat} {s : St} (h : Tx w F T N L s) (c : Ch (fun _ => False) w w') : Tx w' F T N L s := h.ch c (fun _ _ h => h) (fun h => h)
theorem Tx.drew {w : World} {F : Nat → Prop} {T N L : Nat} {s : St} (h : Tx w F T N L s) : Tx w.drew F T N L s := h.gr (Ch.refl _ w).drew
theorem Tx.drewN {w : World} {F : Nat → Prop} {T N L : Nat} {s : St} (h : Tx w F T N L s) (m : Nat) : Tx (w.drewN m) F T N L s := h.gr ((Ch.refl _ w).drewN m)
theorem Tx.c0 {w : World} {F : Nat → Prop} {T N L : Nat} {s : St} (h : Tx w F T N L s) : w.cell? ⟨T, 0, none⟩ = some (.pointer (some ⟨N, 0, none⟩)) := h.t.cell 0
theorem Tx.ok {w : World} {F : Nat → Prop} {T N L : Nat} {s : St} (h : Tx w F T N L s) : Ok s := h.n.ok
/-- A word of bytes. -/
def pr (l : List Int) (p : Nat) : Int := 256 * l.getD p 0 + l.getD (p + 1) 0

set_option maxHeartbeats 400000 in
set_option maxRecDepth 100000 in
theorem toff_some (w : World) (T N : Nat) (c0 : w.cell? ⟨T, 0, none⟩ = some (.pointer (some ⟨N, 0, none⟩))) :
    Calls Try.prog 42 #[.pointer (some ⟨T, 0, none⟩)] w fun e w' => e = .returned (.bool false) ∧ w = w' := by
  go_enter Try.func42, Try.ntmps42
  go_wp2
  go_ret
  exact ⟨rfl, rfl⟩
set_option maxHeartbeats 400000 in
set_option maxRecDepth 100000 in
theorem byte_lit (w : World) (T N : Nat) (at_ x : Int) (c0 : w.cell? ⟨T, 0, none⟩ = some (.pointer (some ⟨N, 0, none⟩)))
    (ha : Hid (Calls Try.prog 57 #[.pointer (some ⟨N, 0, none⟩), .int .i64 at_] w fun e w' => e = .returned (.tuple #[.int .u8 x, .int .i64 0]) ∧ w = w')) :
    Calls Try.prog 66 #[.pointer (some ⟨T, 0, none⟩), .int .i64 at_] w fun e w' => e = .returned (.int .u8 x) ∧ w = w' := by
  go_enter Try.func66, Try.ntmps66
  go_wp2_with (go_at_call 57; refine ha.out.mono ?_; rintro e w' ⟨rfl, rfl⟩)
  go_ret
  exact ⟨rfl, rfl⟩
set_option maxHeartbeats 400000 in
set_option maxRecDepth 100000 in
theorem byte_dark (w : World) (T N k n : Nat) (x y r : Int) (o : Obj) (hr : (r == 0) = false) (hk : (k : Int) < (n : Int)) (c0 : w.cell? ⟨T, 0, none⟩ = some (.pointer (some ⟨N, 0, none⟩)))
    (ck : (w.alloc o).cell? ⟨w.heap.size, k, none⟩ = some (.int .u8 x))
    (ha : Hid (Calls Try.prog 57 #[.pointer (some ⟨N, 0, none⟩), .int .i64 k] w fun e w' => e = .returned (.tuple #[.int .u8 y, .int .i64 r]) ∧ w = w'))
    (hb : Hid (Calls Try.prog 76 #[.pointer (some ⟨N, 0, none⟩)] w fun e w' => e = .returned (.slice (some ⟨w.heap.size, 0, none⟩) n n) ∧ w' = w.alloc o)) :
    Calls Try.prog 66 #[.pointer (some ⟨T, 0, none⟩), .int .i64 k] w fun e w' => e = .returned (.int .u8 x) ∧ w' = w.alloc o := by
  go_enter Try.func66, Try.ntmps66
  go_wp2_with (first | (go_at_call 57; refine ha.out.mono ?_; rintro e w' ⟨rfl, rfl⟩) | (go_at_call 76; refine hb.out.mono ?_; rintro e w' ⟨rfl, rfl⟩))
  go_ret
  exact ⟨rfl, rfl⟩
theorem byte_any {w : World} {F : Nat → Prop} {T N L : Nat} {s : St} (h : Tx w F T N L s) (k : Nat) (hk : k < L) :
    Calls Try.prog 66 #[.pointer (some ⟨T, 0, none⟩), .int .i64 k] w fun e w' => e = .returned (.int .u8 (s.l.getD k 0)) ∧ Ch (fun _ => False) w w' := by
  have hg := get_any h.n k
  have hl := h.len
  cases hd : s.dark with
  | false =>
    have e1 : s.get k = (s.l.getD k 0, 0) := by unfold St.get; rw [if_neg (by simp [hd]), if_neg (by omega)]; rfl
    rw [e1] at hg
    refine (byte_lit w T N k _ h.c0 hg).mono ?_
    rintro e w' ⟨rfl, rfl⟩
    exact ⟨rfl, Ch.refl _ _⟩
  | true =>
    have e1 : s.get k = (0, 13) := by unfold St.get; rw [if_pos hd]
    rw [e1] at hg
    refine (byte_dark w T N k s.l.length _ _ _ (.cells (cr s.l) 5) rfl (by omega) h.c0 ((Blk.new w _ _).cell k |>.trans (cr_get _ _ (by omega))) hg (bytes_any h.n)).mono ?_
    rintro e w' ⟨rfl, rfl⟩
    exact ⟨rfl, (Ch.refl _ _).alloc _⟩
/-- How many entries there are. -/
def cnt (l : List Int) : Int := min (l.getD 0 0) 100
theorem cnt_nat {l : List Int} (h : By l) : ∃ k : Nat, cnt l = k ∧ k ≤ 100 := ⟨(cnt l).toNat, by have := h.get 0; unfold cnt; omega, by unfold cnt; omega⟩
set_option maxHeartbeats 400000 in
set_option maxRecDepth 100000 in
theorem count_core (w : World) (T : Nat) (x : Int) (x0 : 0 ≤ x) (x1 : x ≤ 255) (ha : Hid (Calls Try.prog 66 #[.pointer (some ⟨T, 0, none⟩), .int .i64 0] w fun e w' => e = .returned (.int .u8 x) ∧ Ch (fun _ => False) w w')) :
    Calls Try.prog 67 #[.pointer (some ⟨T, 0, none⟩)] w fun e w' => e = .returned (.int .i64 (min x 100)) ∧ Ch (fun _ => False) w w' := by
  go_enter Try.func67, Try.ntmps67
  go_wp2_with (go_at_call 66; refine ha.out.mono ?_; rintro e w' ⟨rfl, c1⟩)
  go_ret
  exact ⟨rfl, c1⟩
theorem count_any {w : World} {F : Nat → Prop} {T N L : Nat} {s : St} (h : Tx w F T N L s) :
    Calls Try.prog 67 #[.pointer (some ⟨T, 0, none⟩)] w fun e w' => e = .returned (.int .i64 (cnt s.l)) ∧ Ch (fun _ => False) w w' := by
  have h0 := h.ok.len0
  have hb := h.ok.by_.get 0
  exact count_core w T _ hb.1 hb.2 (byte_any h 0 (by have := h.len; omega))
set_option maxHeartbeats 400000 in
set_option maxRecDepth 100000 in
theorem power_core (w : World) (T N : Nat) (x r : Int) (c0 : w.cell? ⟨T, 0, none⟩ = some (.pointer (some ⟨N, 0, none⟩)))
    (ha : Hid (Calls Try.prog 57 #[.pointer (some ⟨N, 0, none⟩), .int .i64 0] w fun e w' => e = .returned (.tuple #[.int .u8 x, .int .i64 r]) ∧ w = w')) :
    Calls Try.prog 64 #[.pointer (some ⟨T, 0, none⟩)] w fun e w' => e = .returned (.int .i64 r) ∧ w = w' := by
  go_enter Try.func64, Try.ntmps64
  go_wp2_with (go_at_call 57; refine ha.out.mono ?_; rintro e w' ⟨rfl, rfl⟩)
  go_ret
  exact ⟨rfl, rfl⟩
/-- Is the power there? -/
def St.pow (s : St) : Int := if s.dark = true then 13 else 0
theorem power_any {w : World} {F : Nat → Prop} {T N L : Nat} {s : St} (h : Tx w F T N L s) :
    Calls Try.prog 64 #[.pointer (some ⟨T, 0, none⟩)] w fun e w' => e = .returned (.int .i64 s.pow) ∧ w = w' := by
  have hg := get_any h.n 0
  have h0 := h.ok.len0
  have e1 : (s.get 0).2 = s.pow := by
    unfold St.get St.pow
    by_cases hd : s.dark = true
    · rw [if_pos hd, if_pos hd]
    · rw [if_neg hd, if_neg hd, if_neg (by omega)]
  rw [e1] at hg
  exact power_core w T N _ _ h.c0 hg
theorem or_word {x y : Int} (x0 : 0 ≤ x) (x1 : x ≤ 255) (y0 : 0 ≤ y) (y1 : y ≤ 255) : bits .or .u16 (x * 256) y = 256 * x + y := by
  obtain ⟨a, rfl⟩ := Int.eq_ofNat_of_zero_le x0
  obtain ⟨b, rfl⟩ := Int.eq_ofNat_of_zero_le y0
  have h2 := Nat.two_pow_add_eq_or_of_lt (i := 8) (b := b) (by omega) a
  rw [show (2 : Nat) ^ 8 * a = a * 256 from by omega] at h2
  have h3 : (a : Int) * 256 = ((a * 256 : Nat) : Int) := by omega
  rw [h3, u16_or_nat (a * 256) b (by omega) (by omega), ← h2]
  omega
set_option maxHeartbeats 400000 in
set_option maxRecDepth 100000 in
theorem pair_core (w : World) (T k : Nat) (x y : Int) (hk : k ≤ 1000000) (x0 : 0 ≤ x) (x1 : x ≤ 255) (y0 : 0 ≤ y) (y1 : y ≤ 255)
    (ha : Hid (Calls Try.prog 66 #[.pointer (some ⟨T, 0, none⟩), .int .i64 k] w fun e w' => e = .returned (.int .u8 x) ∧ Ch (fun _ => False) w w'))
    (hb : Hid (∀ w1, Ch (fun _ => False) w w1 → Calls Try.prog 66 #[.pointer (some ⟨T, 0, none⟩), .int .i64 (k + 1)] w1 fun e w' => e = .returned (.int .u8 y) ∧ Ch (fun _ => False) w1 w')) :
    Calls Try.prog 65 #[.pointer (some ⟨T, 0, none⟩), .int .i64 k] w fun e w' => e = .returned (.int .u16 (256 * x + y)) ∧ Ch (fun _ => False) w w' := by
  go_enter Try.func65, Try.ntmps65
  go_wp2_with (first | (go_at_call 66; refine (hb.out _ c1).mono ?_; rintro e w' ⟨rfl, c2⟩) | (go_at_call 66; refine ha.out.mono ?_; rintro e w' ⟨rfl, c1⟩))
  go_ret
  rw [← or_word x0 x1 y0 y1]
  exact ⟨rfl, c1.trans c2 (fun _ h => h) (fun _ h => h.elim)⟩
theorem pair_any {w : World} {F : Nat → Prop} {T N L : Nat} {s : St} (h : Tx w F T N L s) (k : Nat) (hk : k + 1 < L) :
    Calls Try.prog 65 #[.pointer (some ⟨T, 0, none⟩), .int .i64 k] w fun e w' => e = .returned (.int .u16 (pr s.l k)) ∧ Ch (fun _ => False) w w' := by
  have hb := h.ok.by_.get k
  have hc := h.ok.by_.get (k + 1)
  have hl := h.len
  have h1 := h.ok.len1
  exact pair_core w T k _ _ (by omega) hb.1 hb.2 hc.1 hc.2 (byte_any h k (by omega)) (fun w1 c => byte_any (h.gr c) (k + 1) hk)
set_option maxHeartbeats 400000 in
set_option maxRecDepth 100000 in
theorem was_core (w : World) (T k : Nat) (x : Int) (hk : k ≤ 1000000) 
    (ha : Hid (Calls Try.prog 65 #[.pointer (some ⟨T, 0, none⟩), .int .i64 (2 * k)] w fun e w' => e = .returned (.int .u16 x) ∧ Ch (fun _ => False) w w')) :
    Calls Try.prog 45 #[.pointer (some ⟨T, 0, none⟩), .int .i64 k] w fun e w' => e = .returned (.int .u16 x) ∧ Ch (fun _ => False) w w' := by
  go_enter Try.func45, Try.ntmps45
  go_wp2_with (go_at_call 65; refine ha.out.mono ?_; rintro e w' ⟨rfl, c1⟩)
  go_ret
  exact ⟨rfl, c1⟩
theorem was_any {w : World} {F : Nat → Prop} {T N L : Nat} {s : St} (h : Tx w F T N L s) (k : Nat) (hk : 2 * k + 1 < L) :
    Calls Try.prog 45 #[.pointer (some ⟨T, 0, none⟩), .int .i64 k] w fun e w' => e = .returned (.int .u16 (pr s.l (2 * k))) ∧ Ch (fun _ => False) w w' := by
  have hl := h.len
  have h1 := h.ok.len1
  have hp := pair_any h (2 * k) hk
  exact was_core w T k _ (by omega) (Lib.hid (by simpa using hp))
/-- Has a word an entry? -/
def hs (l : List Int) (at_ : Int) : Nat → Bool
  | 0 => false
  | k + 1 => hs l at_ k || (pr l (2 + 4 * k) == at_)
theorem hs_all {l : List Int} {at_ : Int} {n : Nat} (h : ∀ j, j < n → pr l (2 + 4 * j) ≠ at_) : hs l at_ n = false := by
  induction n with
  | zero => rfl
  | succ n ih => rw [hs, ih (fun j hj => h j (by omega))]; simpa using h n (by omega)
theorem hs_ex {l : List Int} {at_ : Int} {n j : Nat} (hj : j < n) (h : pr l (2 + 4 * j) = at_) : hs l at_ n = true := by
  induction n with
  | zero => omega
  | succ n ih =>
    rw [hs]
    by_cases hn : j = n
    · subst hn; simp [h]
    · rw [ih (by omega)]; rfl
set_option maxHeartbeats 800000 in
set_option maxRecDepth 100000 in
theorem has_core (w : World) (T n : Nat) (at_ : Int) (b : Bool) (f : Nat → Int) (hn : n ≤ 100) (hf : ∀ j, j < n → 0 ≤ f j ∧ f j ≤ 65535)
    (ha : Hid (Calls Try.prog 67 #[.pointer (some ⟨T, 0, none⟩)] w fun e w' => e = .returned (.int .i64 n) ∧ Ch (fun _ => False) w w'))
    (hb : Hid (∀ w1 (j : Nat), j < n → Ch (fun _ => False) w w1 → Calls Try.prog 65 #[.pointer (some ⟨T, 0, none⟩), .int .i64 (2 + 4 * j)] w1 fun e w' => e = .returned (.int .u16 (f j)) ∧ Ch (fun _ => False) w1 w'))
    (hy : Hid (∀ j, j < n → f j = at_ → b = true)) (hz : Hid ((∀ j, j < n → f j ≠ at_) → b = false)) :
    Calls Try.prog 68 #[.pointer (some ⟨T, 0, none⟩), .int .i64 at_] w fun e w' => e = .returned (.bool b) ∧ Ch (fun _ => False) w w' := by
  have HF := Lib.hid hf
  clear hf
  go_enter Try.func68, Try.ntmps68
  go_wp2_with (first | (go_at_call 67; refine ha.out.mono ?_; rintro e w1 ⟨rfl, c1⟩) | fail)
  go_loopg [8] n (fun k i wr => ∃ j : Nat, j + k ≤ n ∧ n ≤ j + k ∧ i = .int .i64 j ∧ Ch (fun _ => False) w wr ∧ Hid (∀ i, i < j → f i ≠ at_))
  case atStart => exact ⟨0, by omega, by omega, rfl, c1, Lib.hid (fun i h => by omega)⟩
  case round =>
    clear c1
    obtain ⟨j, hj1, hj2, rfl, c2, hnone⟩ := hrel
    by_cases hlt : 0 < gk
    · have hi : (j : Int) < (n : Int) := by omega
      have hj : j < n := by omega
      have hfj := HF.out j hj
      have hB := Lib.hid (hb.out wr j hj c2)
      have hy' := Lib.hid (hy.out j hj)
      have hnn := Lib.hid (fun h : f j ≠ at_ => show ∀ i, i < j + 1 → f i ≠ at_ from fun i hi => by
        by_cases e : i = j
        · subst e; exact h
        · exact hnone.out i (by omega))
      clear hb hy hnone
      generalize f j = x at *
      by_cases hx : x = at_
      · obtain rfl := hy'.out hx
        clear hy'
        subst hx
        go_wp2_with (first | (go_at_call 65; refine hB.out.mono ?_; rintro e w1 ⟨rfl, c3⟩) | fail)
        go_ret
        exact ⟨rfl, c2.trans c3 (fun _ h => h) (fun _ h => h.elim)⟩
      · have hx' : (x == at_) = false := beq_eq_false_iff_ne.2 hx
        go_wp2_with (first | (go_at_call 65; refine hB.out.mono ?_; rintro e w1 ⟨rfl, c3⟩) | fail)
        go_roundg (gk - 1)
        case rel => exact ⟨j + 1, by omega, by omega, by go_num, c2.trans c3 (fun _ h => h) (fun _ h => h.elim), Lib.hid (hnn.out hx)⟩
        case measure => omega
    · have hi : ¬ (j : Int) < (n : Int) := by omega
      obtain rfl := hz.out (fun i h => hnone.out i (by omega))
      clear hnone hz hy
      go_wp2_with (fail)
      go_ret
      exact ⟨rfl, c2⟩
theorem pr_by {l : List Int} (h : By l) (p : Nat) : 0 ≤ pr l p ∧ pr l p ≤ 65535 := by
  have := h.get p
  have := h.get (p + 1)
  unfold pr
  omega
theorem has_any {w : World} {F : Nat → Prop} {T N L : Nat} {s : St} (h : Tx w F T N L s) (at_ : Int) :
    Calls Try.prog 68 #[.pointer (some ⟨T, 0, none⟩), .int .i64 at_] w fun e w' => e = .returned (.bool (hs s.l at_ (cnt s.l).toNat)) ∧ Ch (fun _ => False) w w' := by
  have h0 := h.ok.len0
  have hl := h.len
  obtain ⟨n, e, hn⟩ := cnt_nat h.ok.by_
  have hc := count_any h
  rw [e] at hc ⊢
  refine has_core w T n at_ _ (fun j => pr s.l (2 + 4 * j)) hn (fun j _ => pr_by h.ok.by_ _) hc (fun w1 j hj c => ?_) (fun j hj he => ?_) (fun he => ?_)
  · have := pair_any (h.gr c) (2 + 4 * j) (by omega)
    simpa using this
  · exact hs_ex (by simpa using hj) he
  · exact hs_all (fun j hj => he j (by simpa using hj))
end Go.Proofs.Ytjeaidmmhplglaa.Nvm
