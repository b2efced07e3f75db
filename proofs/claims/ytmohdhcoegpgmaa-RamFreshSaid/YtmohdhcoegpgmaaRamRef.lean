/- The walks of the reference's memory, and of what the statements share: bytes that are the same, bytes that are spoilt. -/
import Derived.Test.YtmohdhcoegpgmaaRam
import Derived.Deep.LoopGhost
namespace Go.Proofs.Ytmohdhcoegpgmaa.Ram
open Go.RowKit
set_option maxHeartbeats 400000 in
set_option maxRecDepth 100000 in
theorem is_ok (w : World) (at_ n : Int) (h1 : 0 ≤ at_) (h2 : 0 ≤ n) (h3 : at_ ≤ 1024) (h4 : n ≤ 1024 - at_) :
    Calls Try.prog 25 #[.int .i64 at_, .int .i64 n] w fun e w' => e = .returned (.bool true) ∧ w = w' := by
  go_enter Try.func25, Try.ntmps25
  go_wp2
  go_ret
  exact ⟨by simp, rfl⟩
set_option maxHeartbeats 400000 in
set_option maxRecDepth 100000 in
theorem is_bad (w : World) (at_ n : Int) (h : at_ < 0 ∨ n < 0 ∨ 1024 < at_ ∨ 1024 - at_ < n) :
    Calls Try.prog 25 #[.int .i64 at_, .int .i64 n] w fun e w' => e = .returned (.bool false) ∧ w = w' := by
  by_cases c1 : at_ < 0
  · go_enter Try.func25, Try.ntmps25
    go_wp2
    go_ret
    exact ⟨rfl, rfl⟩
  · by_cases c2 : n < 0
    · go_enter Try.func25, Try.ntmps25
      go_wp2
      go_ret
      exact ⟨rfl, rfl⟩
    · by_cases c3 : 1024 < at_
      · go_enter Try.func25, Try.ntmps25
        go_wp2
        go_ret
        exact ⟨rfl, rfl⟩
      · have c4 : 1024 - at_ < n := by omega
        clear h
        go_enter Try.func25, Try.ntmps25
        go_wp2
        go_ret
        exact ⟨by simp; omega, rfl⟩
set_option maxHeartbeats 400000 in
set_option maxRecDepth 100000 in
theorem rPutByte_ok (w : World) (B n : Nat) (l : List Int) (b : Int) (h : Blk w B (cr l) 41) (hl : l.length = 1024) (hn : n < 1024) :
    Calls Try.prog 19 #[.pointer (some ⟨B, 0, none⟩), .int .i64 n, .int .u8 b] w fun e w' => e = .returned (.int .i64 0) ∧ Blk w' B (cr (l.set n b)) 41 ∧ Ch (· = B) w w' := by
  have hc : w.cell? ⟨B, n, none⟩ = some (.int .u8 (l.getD n 0)) := by rw [h.cell]; exact cr_get _ _ (by omega)
  have hf : w.frozen? ⟨B, n, none⟩ = false := h.free _
  go_enter Try.func19, Try.ntmps19
  go_wp2_with (go_at_call 25; refine (is_ok _ n 1 (by omega) (by omega) (by omega) (by omega)).mono ?_; rintro e w' ⟨rfl, rfl⟩)
  go_ret
  exact ⟨rfl, by rw [← cr_set]; exact h.set _ _, (Ch.refl (· = B) w).setCell (p := ⟨B, n, none⟩) (Or.inl rfl) _⟩
set_option maxHeartbeats 400000 in
set_option maxRecDepth 100000 in
theorem rPutByte_bad (w : World) (B : Nat) (at_ b : Int) (hb : at_ < 0 ∨ 1024 ≤ at_) :
    Calls Try.prog 19 #[.pointer (some ⟨B, 0, none⟩), .int .i64 at_, .int .u8 b] w fun e w' => e = .returned (.int .i64 2) ∧ w = w' := by
  go_enter Try.func19, Try.ntmps19
  go_wp2_with (go_at_call 25; refine (is_bad _ at_ 1 (by omega)).mono ?_; rintro e w' ⟨rfl, rfl⟩)
  go_ret
  exact ⟨rfl, rfl⟩
set_option maxHeartbeats 400000 in
set_option maxRecDepth 100000 in
theorem rPutWord_ok (w : World) (B n : Nat) (l : List Int) (v : Int) (h : Blk w B (cr l) 41) (hl : l.length = 1024) (hn : n + 1 < 1024) (v0 : 0 ≤ v) (v1 : v ≤ 65535) :
    Calls Try.prog 20 #[.pointer (some ⟨B, 0, none⟩), .int .i64 n, .int .u16 v] w fun e w' => e = .returned (.int .i64 0) ∧ Blk w' B (cr ((l.set n (v / 256)).set (n + 1) (v % 256))) 41 ∧ Ch (· = B) w w' := by
  have hc : w.cell? ⟨B, n, none⟩ = some (.int .u8 (l.getD n 0)) := by rw [h.cell]; exact cr_get _ _ (by omega)
  have hc2 : w.cell? ⟨B, n + 1, none⟩ = some (.int .u8 (l.getD (n + 1) 0)) := by rw [h.cell]; exact cr_get _ _ (by omega)
  have hf : w.frozen? ⟨B, n, none⟩ = false := h.free _
  have hf2 : w.frozen? ⟨B, n + 1, none⟩ = false := h.free _
  go_enter Try.func20, Try.ntmps20
  go_wp2_with (go_at_call 25; refine (is_ok _ n 2 (by omega) (by omega) (by omega) (by omega)).mono ?_; rintro e w' ⟨rfl, rfl⟩)
  go_ret
  exact ⟨rfl, by
    have h1 := h.set n (.int .u8 (v / 256))
    rw [cr_set] at h1
    have h2 := h1.set (n + 1) (.int .u8 (v % 256))
    rw [cr_set] at h2
    have e : IntKind.u16.wrap (v.tdiv 256) % 256 = v / 256 := by rw [Int.tdiv_eq_ediv_of_nonneg v0, u16wrap]; omega
    rw [e]; exact h2, ((Ch.refl (· = B) w).setCell (p := ⟨B, n, none⟩) (Or.inl rfl) _).setCell (p := ⟨B, n + 1, none⟩) (Or.inl rfl) _⟩
set_option maxHeartbeats 400000 in
set_option maxRecDepth 100000 in
theorem rPutWord_bad (w : World) (B : Nat) (at_ v : Int) (hb : at_ < 0 ∨ 1023 ≤ at_) :
    Calls Try.prog 20 #[.pointer (some ⟨B, 0, none⟩), .int .i64 at_, .int .u16 v] w fun e w' => e = .returned (.int .i64 2) ∧ w = w' := by
  go_enter Try.func20, Try.ntmps20
  go_wp2_with (go_at_call 25; refine (is_bad _ at_ 2 (by omega)).mono ?_; rintro e w' ⟨rfl, rfl⟩)
  go_ret
  exact ⟨rfl, rfl⟩
set_option maxHeartbeats 400000 in
set_option maxRecDepth 100000 in
theorem rByte_ok (w : World) (B n : Nat) (l : List Int) (h : Blk w B (cr l) 41) (hl : l.length = 1024) (hn : n < 1024) :
    Calls Try.prog 21 #[.pointer (some ⟨B, 0, none⟩), .int .i64 n] w fun e w' => e = .returned (.tuple #[.int .u8 (l.getD n 0), .int .i64 0]) ∧ w = w' := by
  have hc : w.cell? ⟨B, n, none⟩ = some (.int .u8 (l.getD n 0)) := by rw [h.cell]; exact cr_get _ _ (by omega)
  generalize l.getD n 0 = x at *
  clear h
  go_enter Try.func21, Try.ntmps21
  go_wp2_with (go_at_call 25; refine (is_ok _ n 1 (by omega) (by omega) (by omega) (by omega)).mono ?_; rintro e w' ⟨rfl, rfl⟩)
  go_ret2
  exact ⟨rfl, rfl⟩
set_option maxHeartbeats 400000 in
set_option maxRecDepth 100000 in
theorem rByte_bad (w : World) (B : Nat) (at_ : Int) (hb : at_ < 0 ∨ 1024 ≤ at_) :
    Calls Try.prog 21 #[.pointer (some ⟨B, 0, none⟩), .int .i64 at_] w fun e w' => e = .returned (.tuple #[.int .u8 0, .int .i64 2]) ∧ w = w' := by
  go_enter Try.func21, Try.ntmps21
  go_wp2_with (go_at_call 25; refine (is_bad _ at_ 1 (by omega)).mono ?_; rintro e w' ⟨rfl, rfl⟩)
  go_ret2
  exact ⟨rfl, rfl⟩
set_option maxHeartbeats 400000 in
set_option maxRecDepth 100000 in
theorem rWord_core (w : World) (B n : Nat) (x y : Int) (hn : n + 1 < 1024)
    (hc : w.cell? ⟨B, n, none⟩ = some (.int .u8 x)) (hc2 : w.cell? ⟨B, n + 1, none⟩ = some (.int .u8 y)) (hx0 : 0 ≤ x) (hx1 : x ≤ 255) (hy0 : 0 ≤ y) (hy1 : y ≤ 255) :
    Calls Try.prog 22 #[.pointer (some ⟨B, 0, none⟩), .int .i64 n] w fun e w' => e = .returned (.tuple #[.int .u16 (256 * x + y), .int .i64 0]) ∧ ∃ m, w' = w.drewN m := by
  go_enter Try.func22, Try.ntmps22
  go_wp2_with (go_at_call 25; refine (is_ok _ n 2 (by omega) (by omega) (by omega) (by omega)).mono ?_; rintro e w' ⟨rfl, rfl⟩)
  go_quiet (fail)
  go_wp2
  go_ret2
  exact ⟨rfl, _, rfl⟩
theorem rWord_ok (w : World) (B n : Nat) (l : List Int) (h : Blk w B (cr l) 41) (hl : l.length = 1024) (by_ : By l) (hn : n + 1 < 1024) :
    Calls Try.prog 22 #[.pointer (some ⟨B, 0, none⟩), .int .i64 n] w fun e w' => e = .returned (.tuple #[.int .u16 (256 * l.getD n 0 + l.getD (n + 1) 0), .int .i64 0]) ∧ ∃ m, w' = w.drewN m :=
  rWord_core w B n _ _ hn (by rw [h.cell]; exact cr_get _ _ (by omega)) (by rw [h.cell]; exact cr_get _ _ (by omega)) (by_.get n).1 (by_.get n).2 (by_.get (n + 1)).1 (by_.get (n + 1)).2
set_option maxHeartbeats 400000 in
set_option maxRecDepth 100000 in
theorem rWord_bad (w : World) (B : Nat) (at_ : Int) (hb : at_ < 0 ∨ 1023 ≤ at_) :
    Calls Try.prog 22 #[.pointer (some ⟨B, 0, none⟩), .int .i64 at_] w fun e w' => e = .returned (.tuple #[.int .u16 0, .int .i64 2]) ∧ w = w' := by
  go_enter Try.func22, Try.ntmps22
  go_wp2_with (go_at_call 25; refine (is_bad _ at_ 2 (by omega)).mono ?_; rintro e w' ⟨rfl, rfl⟩)
  go_ret2
  exact ⟨rfl, rfl⟩
set_option maxHeartbeats 400000 in
set_option maxRecDepth 100000 in
theorem rClear_ok (w : World) (B a n : Nat) (l : List Int) (h : Blk w B (cr l) 41) (hl : l.length = 1024) (hn : a + n ≤ 1024) :
    Calls Try.prog 23 #[.pointer (some ⟨B, 0, none⟩), .int .i64 a, .int .i64 n] w fun e w' => e = .returned (.int .i64 0) ∧ Blk w' B (cr (zap l a n)) 41 ∧ Ch (· = B) w w' := by
  go_enter Try.func23, Try.ntmps23
  go_wp2_with (go_at_call 25; refine (is_ok _ a n (by omega) (by omega) (by omega) (by omega)).mono ?_; rintro e w' ⟨rfl, rfl⟩)
  go_loopw [7] (fun i wr => ∃ k : Nat, k ≤ n ∧ i = .int .i64 k ∧ Blk wr B (cr (zap l a k)) 41 ∧ Ch (· = B) w wr) (fun i _ => n - (intOf i).toNat)
  case atStart => exact ⟨0, by omega, rfl, by rw [zap_zero]; exact h, Ch.refl _ _⟩
  case round =>
    obtain ⟨k, hk, rfl, hb, hc⟩ := hrel
    by_cases hlt : k < n
    · have hcell : wr.cell? ⟨B, a + k, none⟩ = some (.int .u8 ((zap l a k).getD (a + k) 0)) := by rw [hb.cell]; exact cr_get _ _ (by rw [zap_len]; omega)
      have hf : wr.frozen? ⟨B, a + k, none⟩ = false := hb.free _
      have hb' := hb.set (a + k) (.int .u8 0)
      rw [cr_set, zap_back] at hb'
      have hc' := hc.setCell (p := ⟨B, a + k, none⟩) (Or.inl rfl) (.int .u8 0)
      generalize (zap l a k).getD (a + k) 0 = x at *
      clear hb hc
      go_wp2
      go_roundw
      case rel => exact ⟨k + 1, by omega, by go_num, hb', hc'⟩
      case measure => simp [intOf]; omega
    · obtain rfl : k = n := by omega
      go_wp2
      go_ret
      exact ⟨rfl, hb, hc⟩
set_option maxHeartbeats 400000 in
set_option maxRecDepth 100000 in
theorem rClear_bad (w : World) (B : Nat) (at_ n : Int) (hb : at_ < 0 ∨ n < 0 ∨ 1024 < at_ ∨ 1024 - at_ < n) :
    Calls Try.prog 23 #[.pointer (some ⟨B, 0, none⟩), .int .i64 at_, .int .i64 n] w fun e w' => e = .returned (.int .i64 2) ∧ w = w' := by
  have H := Lib.hid hb
  clear hb
  go_enter Try.func23, Try.ntmps23
  go_wp2_with (go_at_call 25; refine (is_bad _ at_ n H.out).mono ?_; rintro e w' ⟨rfl, rfl⟩)
  go_ret
  exact ⟨rfl, rfl⟩
set_option maxHeartbeats 400000 in
set_option maxRecDepth 100000 in
theorem same_ok (w : World) (A C n c d : Nat) (o q : Nat) (f : Nat → Int) (hn : n ≤ 1000000) (hA : ∀ j, j < n → w.cell? ⟨A, o + j, none⟩ = some (.int .u8 (f j))) (hC : ∀ j, j < n → w.cell? ⟨C, q + j, none⟩ = some (.int .u8 (f j))) :
    Calls Try.prog 13 #[.slice (some ⟨A, o, none⟩) n c, .slice (some ⟨C, q, none⟩) n d] w fun e w' => e = .returned (.bool true) ∧ ∃ m, w' = w.drewN m := by
  have HA := Lib.hid hA
  have HC := Lib.hid hC
  clear hA hC
  go_enter Try.func13, Try.ntmps13
  go_wp2
  go_loopw [5] (fun i wr => ∃ k : Nat, k ≤ n ∧ i = .int .i64 k ∧ ∃ m, wr = w.drewN m) (fun i _ => n - (intOf i).toNat)
  case atStart => exact ⟨0, by omega, rfl, 0, rfl⟩
  case round =>
    obtain ⟨k, hk, rfl, m, rfl⟩ := hrel
    by_cases hlt : k < n
    · have h1 := HA.out k hlt
      have h2 := HC.out k hlt
      have hlt' : (k : Int) < (n : Int) := by omega
      generalize f k = x at *
      go_wp2
      go_quiet (fail)
      go_wp2
      go_roundw
      case rel => exact ⟨k + 1, by omega, by go_num, _, rfl⟩
      case measure => simp [intOf]; omega
    · obtain rfl : k = n := by omega
      go_wp2
      go_ret
      exact ⟨rfl, _, rfl⟩
set_option maxHeartbeats 400000 in
set_option maxRecDepth 100000 in
theorem spoil_ok (w : World) (B : Nat) (l : List Int) (T : TypeId) (y : Int) (h : Blk w B (cr l) T) (hl : l.length = 1024) :
    Calls Try.prog 12 #[.slice (some ⟨B, 0, none⟩) 1024 1024, .int .u8 y] w fun e w' => e = .returned (.tuple #[]) ∧ Ch (· = B) w w' := by
  go_enter Try.func12, Try.ntmps12
  go_wp2
  go_loopw [5] (fun i wr => ∃ k : Nat, k ≤ 1024 ∧ i = .int .i64 k ∧ (∃ l' : List Int, l'.length = 1024 ∧ Blk wr B (cr l') T) ∧ Ch (· = B) w wr) (fun i _ => 1024 - (intOf i).toNat)
  case atStart => exact ⟨0, by omega, rfl, ⟨l, hl, h⟩, Ch.refl _ _⟩
  case round =>
    obtain ⟨k, hk, rfl, ⟨l', hl', hb⟩, hc⟩ := hrel
    by_cases hlt : k < 1024
    · have hcell : wr.cell? ⟨B, k, none⟩ = some (.int .u8 (l'.getD k 0)) := by rw [hb.cell]; exact cr_get _ _ (by omega)
      have hf : wr.frozen? ⟨B, k, none⟩ = false := hb.free _
      have hb' : ∀ v, ∃ l'' : List Int, l''.length = 1024 ∧ Blk (wr.setCell ⟨B, k, none⟩ (.int .u8 v)) B (cr l'') T := fun v => ⟨l'.set k v, by simpa using hl', by rw [← cr_set]; exact hb.set _ _⟩
      have hc' : ∀ v, Ch (· = B) w (wr.setCell ⟨B, k, none⟩ v) := fun v => hc.setCell (p := ⟨B, k, none⟩) (Or.inl rfl) v
      have HB := Lib.hid hb'
      have HC := Lib.hid hc'
      clear hb' hc'
      generalize l'.getD k 0 = x at *
      clear hb hc
      go_wp2
      go_roundw
      case rel => exact ⟨k + 1, by omega, by go_num, HB.out _, HC.out _⟩
      case measure => simp [intOf]; omega
    · obtain rfl : k = 1024 := by omega
      go_wp2
      go_end0
      exact ⟨rfl, hc⟩
theorem set_getD (l : List Int) (i j : Nat) (v : Int) : (l.set i v).getD j 0 = if i = j ∧ j < l.length then v else l.getD j 0 := by
  rw [List.getD_eq_getElem?_getD, List.getD_eq_getElem?_getD, List.getElem?_set]
  by_cases h : i = j
  · subst h
    by_cases h2 : i < l.length
    · simp [h2]
    · simp [h2]
  · simp [h]
theorem zap_getD (l : List Int) (a n j : Nat) : (zap l a n).getD j 0 = if a ≤ j ∧ j < a + n then 0 else l.getD j 0 := by
  rw [List.getD_eq_getElem?_getD, List.getD_eq_getElem?_getD, zap, List.getElem?_mapIdx]
  cases l[j]? with
  | none => simp
  | some x => simp
theorem zs_getD (j : Nat) : zs.getD j 0 = 0 := by
  rw [List.getD_eq_getElem?_getD, zs, List.getElem?_replicate]
  split <;> rfl
theorem zs_len : zs.length = 1024 := by rw [zs, List.length_replicate]
set_option maxHeartbeats 1000000 in
set_option maxRecDepth 100000 in
theorem works_ok (w : World) : Calls Try.prog 8 #[] w fun e w' => e = .returned (.bool true) ∧ Ch (fun _ => False) w w' := by
  have hz := zs_len
  have b1 : By ((zs.set 1022 (258 / 256)).set (1022 + 1) (258 % 256)) := (By.zs.set _ (by decide) (by decide)).set _ (by decide) (by decide)
  have l1 : ((zs.set 1022 (258 / 256)).set (1022 + 1) (258 % 256)).length = 1024 := by simp [zs_len]
  have g1 : ((zs.set 1022 (258 / 256)).set (1022 + 1) (258 % 256)).getD 1023 0 = 2 := by rw [set_getD, if_pos ⟨rfl, by simp [zs_len]⟩]; decide
  have g2 : 256 * (zap ((zs.set 1022 (258 / 256)).set (1022 + 1) (258 % 256)) 1022 1).getD 1022 0 + (zap ((zs.set 1022 (258 / 256)).set (1022 + 1) (258 % 256)) 1022 1).getD (1022 + 1) 0 = 2 := by
    rw [zap_getD, if_pos (by omega), zap_getD, if_neg (by omega), set_getD, if_pos ⟨rfl, by simp [zs_len]⟩]; decide
  have g3 : 256 * (zap (zap ((zs.set 1022 (258 / 256)).set (1022 + 1) (258 % 256)) 1022 1) 0 1024).getD 1022 0 + (zap (zap ((zs.set 1022 (258 / 256)).set (1022 + 1) (258 % 256)) 1022 1) 0 1024).getD (1022 + 1) 0 = 0 := by
    rw [zap_getD, if_pos (by omega), zap_getD, if_pos (by omega)]; decide
  generalize hL : (zs.set 1022 (258 / 256)).set (1022 + 1) (258 % 256) = L at *
  have HL := Lib.hid hL
  clear hL
  have hB : Blk (w.alloc (.cells (cp true zs) 43)) w.heap.size (cp true zs) 43 := Blk.new _ _ _
  have hC : Ch (fun _ => False) w (w.alloc (.cells (cp true zs) 43)) := (Ch.refl _ w).alloc _
  go_enter Try.func8, Try.ntmps8
  go_wp2_with fail
  refine (new_calls w).mono ?_
  rintro e w1 ⟨rfl, hw⟩
  rw [hw] at hB hC
  clear hw
  have hsz : w.heap.size < w1.heap.size := hB.lt
  go_wp2_with fail
  refine (putWord_bad w1 _ zs 1023 1 hB (by omega)).mono ?_
  rintro e w2 ⟨rfl, rfl⟩
  go_wp2_with fail
  refine (putWord_ok w1 _ 1022 zs 258 hB hz (by omega) (by omega) (by omega)).mono ?_
  rintro e w2 ⟨rfl, h2, c2⟩
  rw [HL.out] at h2
  have d2 := hC.trans c2 (U := fun _ => False) (fun _ h => h) (fun i h => by rw [h]; exact Or.inr (Nat.le_refl _))
  clear c2 hB hC
  go_wp2_with fail
  refine (byte_ok w2 _ 1023 L h2 l1 (by omega)).mono ?_
  rintro e w3 ⟨rfl, rfl⟩
  rw [g1]
  go_wp2_with fail
  refine (clear_ok w2 _ 1022 1 L h2 l1 (by omega)).mono ?_
  rintro e w3 ⟨rfl, h3, c3⟩
  have d3 := d2.trans c3 (U := fun _ => False) (fun _ h => h) (fun i h => by rw [h]; exact Or.inr (Nat.le_refl _))
  clear c3 d2 h2
  go_wp2_with fail
  refine (word_ok w3 _ 1022 _ h3 (by rw [zap_len]; exact l1) (b1.zap _ _) (by omega)).mono ?_
  rintro e w4 ⟨rfl, m, rfl⟩
  rw [g2]
  go_wp2_with fail
  refine (lose_ok (w3.drewN m) _ _ (h3.drewN m) (by rw [zap_len]; exact l1)).mono ?_
  rintro e w5 ⟨rfl, h5, c5⟩
  have d5 := (d3.drewN m).trans c5 (U := fun _ => False) (fun _ h => h) (fun i h => by rw [h]; exact Or.inr (Nat.le_refl _))
  go_wp2_with fail
  refine (word_ok w5 _ 1022 _ h5 (by rw [zap_len, zap_len]; exact l1) ((b1.zap _ _).zap _ _) (by omega)).mono ?_
  rintro e w6 ⟨rfl, m6, rfl⟩
  rw [g3]
  go_wp2
  go_ret
  exact ⟨rfl, d5.drewN m6⟩
end Go.Proofs.Ytmohdhcoegpgmaa.Ram
