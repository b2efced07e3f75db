/- The walks of ram. -/
import Derived.Test.YtjeaidmmhplglaaProg
import Derived.Test.YtjeaidmmhplglaaBase
set_option linter.unusedVariables false
set_option linter.unusedSimpArgs false
namespace Go.Proofs.Ytjeaidmmhplglaa.Ram
open Go.RowKit Go.Proofs.Ytjeaidmmhplglaa.Base
set_option maxHeartbeats 400000 in
set_option maxRecDepth 100000 in
theorem ask_ok (w : World) (B : Nat) (at_ n : Int) (hm : w.cell? ⟨B, 0, none⟩ = some (.bool true)) (h1 : 0 ≤ at_) (h2 : 0 ≤ n) (h3 : at_ ≤ 1024) (h4 : n ≤ 1024 - at_) :
    Calls Try.prog 43 #[.pointer (some ⟨B, 0, none⟩), .int .i64 at_, .int .i64 n] w fun e w' => e = .returned (.int .i64 0) ∧ w = w' := by
  go_enter Try.func43, Try.ntmps43
  go_wp2
  go_ret
  exact ⟨rfl, rfl⟩
set_option maxHeartbeats 400000 in
set_option maxRecDepth 100000 in
theorem ask_bad (w : World) (B : Nat) (at_ n : Int) (hm : w.cell? ⟨B, 0, none⟩ = some (.bool true)) (h : at_ < 0 ∨ n < 0 ∨ 1024 < at_ ∨ 1024 - at_ < n) :
    Calls Try.prog 43 #[.pointer (some ⟨B, 0, none⟩), .int .i64 at_, .int .i64 n] w fun e w' => e = .returned (.int .i64 2) ∧ w = w' := by
  by_cases c1 : at_ < 0
  · go_enter Try.func43, Try.ntmps43
    go_wp2
    go_ret
    exact ⟨rfl, rfl⟩
  · by_cases c2 : n < 0
    · go_enter Try.func43, Try.ntmps43
      go_wp2
      go_ret
      exact ⟨rfl, rfl⟩
    · by_cases c3 : 1024 < at_
      · go_enter Try.func43, Try.ntmps43
        go_wp2
        go_ret
        exact ⟨rfl, rfl⟩
      · have c4 : 1024 - at_ < n := by omega
        clear h
        go_enter Try.func43, Try.ntmps43
        go_wp2
        go_ret
        exact ⟨rfl, rfl⟩
set_option maxHeartbeats 400000 in
set_option maxRecDepth 100000 in
theorem ask_zero (w : World) (B : Nat) (at_ n : Int) (hm : w.cell? ⟨B, 0, none⟩ = some (.bool false))  :
    Calls Try.prog 43 #[.pointer (some ⟨B, 0, none⟩), .int .i64 at_, .int .i64 n] w fun e w' => e = .returned (.int .i64 1) ∧ w = w' := by
  go_enter Try.func43, Try.ntmps43
  go_wp2
  go_ret
  exact ⟨rfl, rfl⟩
theorem ask_nil (w : World) (at_ n : Int) :
    Calls Try.prog 43 #[.pointer none, .int .i64 at_, .int .i64 n] w fun e w' => e = .returned (.int .i64 1) ∧ w = w' := by
  go_enter Try.func43, Try.ntmps43
  go_wp2
  go_ret
  exact ⟨rfl, rfl⟩

/-- The cells of the program's memory, and of the reference's. -/
def cp (m : Bool) (l : List Int) : Array Value := (Value.bool m :: l.map (Value.int .u8)).toArray
def zs : List Int := List.replicate 1024 0


theorem cp_zero (m : Bool) (l : List Int) : (cp m l)[0]? = some (.bool m) := by simp [cp]
theorem cp_get (m : Bool) (l : List Int) (j : Nat) (h : j < l.length) : (cp m l)[j + 1]? = some (.int .u8 (l.getD j 0)) := by simp [cp, h]
theorem cp_set (m : Bool) (l : List Int) (j : Nat) (b : Int) : (cp m l).setIfInBounds (j + 1) (.int .u8 b) = cp m (l.set j b) := by simp [cp, List.map_set]
set_option maxHeartbeats 400000 in
set_option maxRecDepth 100000 in
theorem new_calls (w : World) : Calls Try.prog 5 #[] w fun e w' => e = .returned (.pointer (some ⟨w.heap.size, 0, none⟩)) ∧ w.alloc (.cells (cp true zs) 31) = w' := by
  go_enter Try.func5, Try.ntmps5
  go_wp2_with (refine wpList_build rfl 31 _ rfl (by kernel_rfl) ?_; generalize hZ : (Program.built _ _ _).getD #[] = Z; obtain rfl : Z = cp true zs := by (rw [← hZ]; kernel_rfl))
  go_ret
  exact ⟨rfl, rfl⟩

set_option maxHeartbeats 400000 in
set_option maxRecDepth 100000 in
theorem putByte_ok (w : World) (B n : Nat) (l : List Int) (b : Int) (h : Blk w B (cp true l) 31) (hl : l.length = 1024) (hn : n < 1024) :
    Calls Try.prog 60 #[.pointer (some ⟨B, 0, none⟩), .int .i64 n, .int .u8 b] w fun e w' => e = .returned (.int .i64 0) ∧ Blk w' B (cp true (l.set n b)) 31 ∧ Ch (· = B) w w' := by
  have hm : w.cell? ⟨B, 0, none⟩ = some (.bool true) := (h.cell 0).trans (cp_zero _ _)
  have hc : w.cell? ⟨B, 1 + n, none⟩ = some (.int .u8 (l.getD n 0)) := by rw [h.cell, Nat.add_comm]; exact cp_get _ _ _ (by omega)
  have hf : w.frozen? ⟨B, 1 + n, none⟩ = false := h.free _
  go_enter Try.func60, Try.ntmps60
  go_wp2_with (go_at_call 43; refine (ask_ok _ B n 1 hm (by omega) (by omega) (by omega) (by omega)).mono ?_; rintro e w' ⟨rfl, rfl⟩)
  go_ret
  exact ⟨rfl, by rw [← cp_set, Nat.add_comm n 1]; exact h.set _ _, (Ch.refl (· = B) w).setCell (p := ⟨B, 1 + n, none⟩) (Or.inl rfl) _⟩
set_option maxHeartbeats 400000 in
set_option maxRecDepth 100000 in
theorem putByte_bad (w : World) (B : Nat) (l : List Int) (at_ b : Int) (h : Blk w B (cp true l) 31) (hb : at_ < 0 ∨ 1024 ≤ at_) :
    Calls Try.prog 60 #[.pointer (some ⟨B, 0, none⟩), .int .i64 at_, .int .u8 b] w fun e w' => e = .returned (.int .i64 2) ∧ w = w' := by
  have hm : w.cell? ⟨B, 0, none⟩ = some (.bool true) := (h.cell 0).trans (cp_zero _ _)
  go_enter Try.func60, Try.ntmps60
  go_wp2_with (go_at_call 43; refine (ask_bad _ B at_ 1 hm (by omega)).mono ?_; rintro e w' ⟨rfl, rfl⟩)
  go_ret
  exact ⟨rfl, rfl⟩
set_option maxHeartbeats 400000 in
set_option maxRecDepth 100000 in
theorem putWord_ok (w : World) (B n : Nat) (l : List Int) (v : Int) (h : Blk w B (cp true l) 31) (hl : l.length = 1024) (hn : n + 1 < 1024) (v0 : 0 ≤ v) (v1 : v ≤ 65535) :
    Calls Try.prog 59 #[.pointer (some ⟨B, 0, none⟩), .int .i64 n, .int .u16 v] w fun e w' => e = .returned (.int .i64 0) ∧ Blk w' B (cp true ((l.set n (v / 256)).set (n + 1) (v % 256))) 31 ∧ Ch (· = B) w w' := by
  have hm : w.cell? ⟨B, 0, none⟩ = some (.bool true) := (h.cell 0).trans (cp_zero _ _)
  have hc : w.cell? ⟨B, 1 + n, none⟩ = some (.int .u8 (l.getD n 0)) := by rw [h.cell, Nat.add_comm]; exact cp_get _ _ _ (by omega)
  have hc2 : w.cell? ⟨B, 1 + (n + 1), none⟩ = some (.int .u8 (l.getD (n + 1) 0)) := by rw [h.cell, Nat.add_comm]; exact cp_get _ _ _ (by omega)
  have hf : w.frozen? ⟨B, 1 + n, none⟩ = false := h.free _
  have hf2 : w.frozen? ⟨B, 1 + (n + 1), none⟩ = false := h.free _
  go_enter Try.func59, Try.ntmps59
  go_wp2_with (go_at_call 43; refine (ask_ok _ B n 2 hm (by omega) (by omega) (by omega) (by omega)).mono ?_; rintro e w' ⟨rfl, rfl⟩)
  go_region
  go_wp2
  go_ret
  exact ⟨rfl, by
    have h1 := h.set (1 + n) (.int .u8 (v / 256))
    rw [Nat.add_comm 1 n, cp_set] at h1
    have h2 := h1.set (1 + (n + 1)) (.int .u8 (v % 256))
    rw [Nat.add_comm 1 (n + 1), cp_set] at h2
    rw [Nat.add_comm 1 n, Nat.add_comm 1 (n + 1)]
    exact h2.drew, (((Ch.refl (· = B) w).setCell (p := ⟨B, 1 + n, none⟩) (Or.inl rfl) _).setCell (p := ⟨B, 1 + (n + 1), none⟩) (Or.inl rfl) _).drew⟩
set_option maxHeartbeats 400000 in
set_option maxRecDepth 100000 in
theorem putWord_bad (w : World) (B : Nat) (l : List Int) (at_ v : Int) (h : Blk w B (cp true l) 31) (hb : at_ < 0 ∨ 1023 ≤ at_) :
    Calls Try.prog 59 #[.pointer (some ⟨B, 0, none⟩), .int .i64 at_, .int .u16 v] w fun e w' => e = .returned (.int .i64 2) ∧ w = w' := by
  have hm : w.cell? ⟨B, 0, none⟩ = some (.bool true) := (h.cell 0).trans (cp_zero _ _)
  go_enter Try.func59, Try.ntmps59
  go_wp2_with (go_at_call 43; refine (ask_bad _ B at_ 2 hm (by omega)).mono ?_; rintro e w' ⟨rfl, rfl⟩)
  go_ret
  exact ⟨rfl, rfl⟩
set_option maxHeartbeats 400000 in
set_option maxRecDepth 100000 in
theorem word_core (w : World) (B n : Nat) (x y : Int) (hm : w.cell? ⟨B, 0, none⟩ = some (.bool true)) (hn : n + 1 < 1024)
    (hc : w.cell? ⟨B, 1 + n, none⟩ = some (.int .u8 x)) (hc2 : w.cell? ⟨B, 1 + (n + 1), none⟩ = some (.int .u8 y)) (hx0 : 0 ≤ x) (hx1 : x ≤ 255) (hy0 : 0 ≤ y) (hy1 : y ≤ 255) :
    Calls Try.prog 34 #[.pointer (some ⟨B, 0, none⟩), .int .i64 n] w fun e w' => e = .returned (.tuple #[.int .u16 (bits .or .u16 (x * 256) y), .int .i64 0]) ∧ ∃ m, w' = w.drewN m := by
  go_enter Try.func34, Try.ntmps34
  go_wp2_with (go_at_call 43; refine (ask_ok _ B n 2 hm (by omega) (by omega) (by omega) (by omega)).mono ?_; rintro e w' ⟨rfl, rfl⟩)
  go_quiet (fail)
  go_wp2
  go_ret2
  exact ⟨rfl, _, rfl⟩
set_option maxHeartbeats 400000 in
set_option maxRecDepth 100000 in
theorem bytes_ok (w : World) (B : Nat) (l : List Int) (h : Blk w B (cp true l) 31) (hl : l.length = 1024) :
    Calls Try.prog 20 #[.pointer (some ⟨B, 0, none⟩)] w fun e w' => e = .returned (.slice (some ⟨w.heap.size, 0, none⟩) 1024 1024) ∧ w.alloc (.cells (cr l) 29) = w' := by
  have hm : w.cell? ⟨B, 0, none⟩ = some (.bool true) := (h.cell 0).trans (cp_zero _ _)
  have hr : w.rangeAt B 1 (l.map (Value.int .u8)) := fun j v hv => by
    rw [h.cell, Nat.add_comm, ← hv]; simp [cp]
  have hi : (Try.prog.info? 29).map (·.size) = some 1024 := by kernel_rfl
  go_enter Try.func20, Try.ntmps20
  go_wp2_with (first | (go_at_call 43; refine (ask_ok _ B 0 0 hm (by omega) (by omega) (by omega) (by omega)).mono ?_; rintro e w' ⟨rfl, rfl⟩) | (refine wpList_load_mid rfl 29 _ rfl B 1 rfl (l.map (Value.int .u8)) _ hr Try.underlying29 rfl (by rw [hi, List.length_map, hl]) ?_) | (refine Great.wpList_allocTo rfl (some 3) rfl (.pointer (some ⟨w.heap.size, 0, none⟩)) (.cells (cr zs) 29) (by kernel_rfl) ?_) | (refine wpList_store_row rfl 29 _ _ rfl w.heap.size (cr l) rfl rfl 29 (cr zs) (heap_alloc_last w _) (by rw [hi]; simp [cr, hl]) (by simp [cr, hl, zs]) (by simp [cr]; intros; rfl) ?_; rw [World.setRow_alloc_new]))
  go_ret
  exact ⟨rfl, rfl⟩

/-- The list with n zeros from a on. -/
def zap (l : List Int) (a n : Nat) : List Int := l.mapIdx fun i x => if a ≤ i ∧ i < a + n then 0 else x
theorem zap_zero (l : List Int) (a : Nat) : zap l a 0 = l := by
  apply List.ext_getElem?
  intro i
  simp only [zap, List.getElem?_mapIdx]
  cases l[i]? <;> simp
  omega
theorem zap_front (l : List Int) (a n : Nat) : zap (l.set a 0) (a + 1) n = zap l a (n + 1) := by
  apply List.ext_getElem?
  intro i
  simp only [zap, List.getElem?_mapIdx, List.getElem?_set]
  by_cases h : a = i
  · subst h
    by_cases h2 : a < l.length
    · simp [h2]
    · simp [h2]
  · simp only [if_neg h]
    cases l[i]? with
    | none => rfl
    | some x =>
      simp only [Option.map_some]
      congr 1
      by_cases c : a + 1 ≤ i ∧ i < a + 1 + n
      · rw [if_pos c, if_pos (by omega)]
      · rw [if_neg c, if_neg (by omega)]
theorem zap_back (l : List Int) (a n : Nat) : (zap l a n).set (a + n) 0 = zap l a (n + 1) := by
  apply List.ext_getElem?
  intro i
  simp only [zap, List.getElem?_mapIdx, List.getElem?_set, List.length_mapIdx]
  by_cases h : a + n = i
  · subst h
    by_cases h2 : a + n < l.length
    · simp [h2]
    · simp [h2]
  · simp only [if_neg h]
    cases l[i]? with
    | none => rfl
    | some x =>
      simp only [Option.map_some]
      congr 1
      by_cases c : a ≤ i ∧ i < a + n
      · rw [if_pos c, if_pos (by omega)]
      · rw [if_neg c, if_neg (by omega)]
theorem zap_len (l : List Int) (a n : Nat) : (zap l a n).length = l.length := by simp [zap]

theorem _root_.Go.Proofs.Ytjeaidmmhplglaa.Base.Blk.zeros {T : TypeId} {B : Nat} {m : Bool} (n : Nat) : ∀ {w : World} {l : List Int} (a : Nat), Blk w B (cp m l) T → Blk (w.setCells B (1 + a) (List.replicate n (.int .u8 0))) B (cp m (zap l a n)) T := by
  induction n with
  | zero => intro w l a h; rw [zap_zero]; exact h
  | succ n ih =>
    intro w l a h
    have h1 := h.set (1 + a) (.int .u8 0)
    rw [Nat.add_comm 1 a, cp_set] at h1
    have h2 := ih (a + 1) h1
    rw [zap_front] at h2
    rw [List.replicate_succ]
    show Blk ((w.setCell ⟨B, 1 + a, none⟩ _).setCells B (1 + a + 1) _) B _ T
    rw [Nat.add_comm 1 a]
    rw [Nat.add_comm 1 (a + 1)] at h2
    exact h2
theorem _root_.Go.Proofs.Ytjeaidmmhplglaa.Base.Ch.setCells {S : Nat → Prop} {B : Nat} (vs : List Value) : ∀ {a b : World} (o : Nat), Ch S a b → (S B ∨ a.heap.size ≤ B) → Ch S a (b.setCells B o vs) := by
  induction vs with
  | nil => intro a b o h _; exact h
  | cons v r ih => intro a b o h hB; exact ih (o + 1) (h.setCell (p := ⟨B, o, none⟩) hB v) hB

theorem zero5 (w : World) : (zeroValue 5).run Try.prog w = .ok (.int .u8 0) w := by kernel_rfl
theorem al39 : Try.prog.arrayLen 29 = 1024 := by kernel_rfl
theorem ht39 : Try.prog.underlying 29 = some (.array (Try.prog.arrayLen 29) (Try.prog.elem 29)) := by kernel_rfl
theorem sz39 (w : World) : (sizeOf (Try.prog.elem 29)).run Try.prog w = .ok 1 w := by kernel_rfl
theorem slice39 (w : World) (B o a n : Nat) (h : a + n ≤ 1024) : ∃ A : Addr, (Instr.sliceAt 29 (.pointer (some ⟨B, o, none⟩)) (some (.int .i64 a)) (some (.int .i64 ((a : Int) + n))) none).run Try.prog w = .ok (.slice (some A) n (1024 - a)) w ∧
    (a < 1024 → A = ⟨B, o + a, none⟩) := by
  refine ⟨if 1024 = a then ⟨B, o, none⟩ else ⟨B, o + a, none⟩, ?_, fun h => if_neg (by omega)⟩
  rw [run_sliceAt_array_lh w 29 ⟨B, o, none⟩ ht39 .i64 .i64 a ((a : Int) + n) (by omega) (by omega) (by rw [al39]; omega), sz39, al39]
  have e1 : ((a : Int)).toNat = a := by omega
  have e2 : ((a : Int) + n).toNat = a + n := by omega
  have e3 : a + n - a = n := by omega
  simp only [Result.andThen_ok, slicedAt, e1, e2, e3, Nat.mul_one]
  by_cases c : 1024 = a
  · rw [if_pos c, if_pos c]
  · rw [if_neg c, if_neg c, Addr.add_mid]
set_option maxHeartbeats 400000 in
set_option maxRecDepth 100000 in
theorem clear_ok (w : World) (B a n : Nat) (l : List Int) (h : Blk w B (cp true l) 31) (hl : l.length = 1024) (hn : a + n ≤ 1024) :
    Calls Try.prog 31 #[.pointer (some ⟨B, 0, none⟩), .int .i64 a, .int .i64 n] w fun e w' => e = .returned (.int .i64 0) ∧ Blk w' B (cp true (zap l a n)) 31 ∧ Ch (· = B) w w' := by
  have hm : w.cell? ⟨B, 0, none⟩ = some (.bool true) := (h.cell 0).trans (cp_zero _ _)
  obtain ⟨A, hsl, hA⟩ := slice39 w B 1 a n hn
  rcases Nat.eq_zero_or_pos n with rfl | hp
  · have hcl : ∀ (ty : TypeId), (Builtin.clear_ #[62] ty #[.slice (some A) 0 (1024 - a)]).run Try.prog w = .ok (.tuple #[]) w := fun ty => by
      simp [Builtin.clear_, run_underlying Try.underlying62]
    rw [zap_zero]
    have e : (a : Int) + (0 : Nat) = a := by omega
    rw [e] at hsl
    clear hA e
    go_enter Try.func31, Try.ntmps31
    go_wp2_with (go_at_call 43; refine (ask_ok _ B a 0 hm (by omega) (by omega) (by omega) (by omega)).mono ?_; rintro e w' ⟨rfl, rfl⟩)
    go_ret
    exact ⟨rfl, h, Ch.refl _ _⟩
  · obtain rfl := hA (by omega)
    have hcl : ∀ (ty : TypeId) (c : Nat), (Builtin.clear_ #[62] ty #[.slice (some ⟨B, 1 + a, none⟩) n c]).run Try.prog w = .ok (.tuple #[]) (w.setCells B (1 + a) (List.replicate n (.int .u8 0))) :=
      fun ty c => Lib.run_clear_slice w 62 5 ty (.int .u8 0) Try.underlying62 zero5 rfl rfl B (1 + a) n c hp (fun j hj => by
        rw [h.cell, show 1 + a + j = (a + j) + 1 by omega, cp_get _ _ _ (by omega)]; rfl) (fun j hj => h.free _)
    clear hA
    go_enter Try.func31, Try.ntmps31
    go_wp2_with (go_at_call 43; refine (ask_ok _ B a n hm (by omega) (by omega) (by omega) (by omega)).mono ?_; rintro e w' ⟨rfl, rfl⟩)
    go_ret
    exact ⟨rfl, h.zeros n a, (Ch.refl (· = B) w).setCells _ _ (Or.inl rfl)⟩
set_option maxHeartbeats 400000 in
set_option maxRecDepth 100000 in
theorem clear_bad (w : World) (B : Nat) (l : List Int) (at_ n : Int) (h : Blk w B (cp true l) 31) (hb : at_ < 0 ∨ n < 0 ∨ 1024 < at_ ∨ 1024 - at_ < n) :
    Calls Try.prog 31 #[.pointer (some ⟨B, 0, none⟩), .int .i64 at_, .int .i64 n] w fun e w' => e = .returned (.int .i64 2) ∧ w = w' := by
  have hm : w.cell? ⟨B, 0, none⟩ = some (.bool true) := (h.cell 0).trans (cp_zero _ _)
  have H := Lib.hid hb
  clear hb
  go_enter Try.func31, Try.ntmps31
  go_wp2_with (go_at_call 43; refine (ask_bad _ B at_ n hm H.out).mono ?_; rintro e w' ⟨rfl, rfl⟩)
  go_ret
  exact ⟨rfl, rfl⟩
set_option maxHeartbeats 400000 in
set_option maxRecDepth 100000 in
theorem byte_ok (w : World) (B n : Nat) (l : List Int) (h : Blk w B (cp true l) 31) (hl : l.length = 1024) (hn : n < 1024) :
    Calls Try.prog 35 #[.pointer (some ⟨B, 0, none⟩), .int .i64 n] w fun e w' => e = .returned (.tuple #[.int .u8 (l.getD n 0), .int .i64 0]) ∧ w = w' := by
  have hm : w.cell? ⟨B, 0, none⟩ = some (.bool true) := (h.cell 0).trans (cp_zero _ _)
  have hc : w.cell? ⟨B, 1 + n, none⟩ = some (.int .u8 (l.getD n 0)) := by rw [h.cell, Nat.add_comm]; exact cp_get _ _ _ (by omega)
  generalize l.getD n 0 = x at *
  clear h
  go_enter Try.func35, Try.ntmps35
  go_wp2_with (go_at_call 43; refine (ask_ok _ B n 1 hm (by omega) (by omega) (by omega) (by omega)).mono ?_; rintro e w' ⟨rfl, rfl⟩)
  go_ret2
  exact ⟨rfl, rfl⟩
set_option maxHeartbeats 400000 in
set_option maxRecDepth 100000 in
theorem byte_bad (w : World) (B : Nat) (l : List Int) (at_ : Int) (h : Blk w B (cp true l) 31) (hb : at_ < 0 ∨ 1024 ≤ at_) :
    Calls Try.prog 35 #[.pointer (some ⟨B, 0, none⟩), .int .i64 at_] w fun e w' => e = .returned (.tuple #[.int .u8 0, .int .i64 2]) ∧ w = w' := by
  have hm : w.cell? ⟨B, 0, none⟩ = some (.bool true) := (h.cell 0).trans (cp_zero _ _)
  go_enter Try.func35, Try.ntmps35
  go_wp2_with (go_at_call 43; refine (ask_bad _ B at_ 1 hm (by omega)).mono ?_; rintro e w' ⟨rfl, rfl⟩)
  go_ret2
  exact ⟨rfl, rfl⟩
set_option maxHeartbeats 400000 in
set_option maxRecDepth 100000 in
theorem word_bad (w : World) (B : Nat) (l : List Int) (at_ : Int) (h : Blk w B (cp true l) 31) (hb : at_ < 0 ∨ 1023 ≤ at_) :
    Calls Try.prog 34 #[.pointer (some ⟨B, 0, none⟩), .int .i64 at_] w fun e w' => e = .returned (.tuple #[.int .u16 0, .int .i64 2]) ∧ w = w' := by
  have hm : w.cell? ⟨B, 0, none⟩ = some (.bool true) := (h.cell 0).trans (cp_zero _ _)
  go_enter Try.func34, Try.ntmps34
  go_wp2_with (go_at_call 43; refine (ask_bad _ B at_ 2 hm (by omega)).mono ?_; rintro e w' ⟨rfl, rfl⟩)
  go_ret2
  exact ⟨rfl, rfl⟩
theorem u16wrap (n : Int) : IntKind.u16.wrap n = n % 65536 := by simp [IntKind.wrap, IntKind.bits, IntKind.signed]
theorem or_join {x y : Int} (hx0 : 0 ≤ x) (hx1 : x ≤ 255) (hy0 : 0 ≤ y) (hy1 : y ≤ 255) : bits .or .u16 (x * 256) y = 256 * x + y := by
  rw [bits_join .u16 16 (by decide) (fun n h0 h1 => by rw [u16wrap]; omega) 8 (x * 256) y (by omega) (by omega) (by omega) hy0 (by omega) (by omega)]
  omega
theorem _root_.Go.Proofs.Ytjeaidmmhplglaa.Base.By.zap {l : List Int} (h : By l) (a n : Nat) : By (zap l a n) := fun x hx => by
  obtain ⟨i, hi, rfl⟩ := List.mem_mapIdx.1 hx
  split
  · omega
  · exact h _ (List.getElem_mem _)
theorem By.zs : By zs := fun x hx => by rw [List.eq_of_mem_replicate hx]; omega
theorem word_ok (w : World) (B n : Nat) (l : List Int) (h : Blk w B (cp true l) 31) (hl : l.length = 1024) (by_ : By l) (hn : n + 1 < 1024) :
    Calls Try.prog 34 #[.pointer (some ⟨B, 0, none⟩), .int .i64 n] w fun e w' => e = .returned (.tuple #[.int .u16 (256 * l.getD n 0 + l.getD (n + 1) 0), .int .i64 0]) ∧ ∃ m, w' = w.drewN m := by
  have hx := by_.get n
  have hy := by_.get (n + 1)
  rw [← or_join hx.1 hx.2 hy.1 hy.2]
  exact word_core w B n _ _ ((h.cell 0).trans (cp_zero _ _)) hn (by rw [h.cell, Nat.add_comm]; exact cp_get _ _ _ (by omega)) (by rw [h.cell, Nat.add_comm]; exact cp_get _ _ _ (by omega)) hx.1 hx.2 hy.1 hy.2
end Go.Proofs.Ytjeaidmmhplglaa.Ram
