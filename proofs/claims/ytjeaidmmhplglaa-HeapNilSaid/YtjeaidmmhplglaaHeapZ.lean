/- Of none, and of a zero heap, all is refused, or nothing. -/
import Derived.Test.YtjeaidmmhplglaaHeapL
import Derived.Test.YtjeaidmmhplglaaTxnZero
set_option linter.unusedVariables false
set_option linter.unusedSimpArgs false
namespace Go.Proofs.Ytjeaidmmhplglaa.Nvm
open Go.RowKit Go.Proofs.Ytjeaidmmhplglaa.Base
/-- None, or a zero heap. -/
def Zh (w : World) (p : Option Addr) : Prop := p = none ∨ ∃ H, p = some ⟨H, 0, none⟩ ∧ Blk w H #[.pointer none, .pointer none] 33
theorem Zh.gr {w w' : World} {p : Option Addr} (h : Zh w p) (c : Ch (fun _ => False) w w') : Zh w' p := by
  rcases h with h | ⟨T, h, b⟩
  · exact Or.inl h
  · exact Or.inr ⟨T, h, b.ch c (fun h => h)⟩
set_option maxHeartbeats 4000000 in
set_option maxRecDepth 100000 in
theorem hoff_zero {w : World} {p : Option Addr} (h : Zh w p) : Calls Try.prog 24 #[.pointer p] w fun e w' => e = .returned (.bool true) ∧ w = w' := by
  rcases h with rfl | ⟨T, rfl, b⟩
  · go_enter Try.func24, Try.ntmps24
    go_wp2
    go_ret
    exact ⟨rfl, rfl⟩
  · have c0 : w.cell? ⟨T, 0, none⟩ = some (.pointer none) := b.cell 0
    clear b
    go_enter Try.func24, Try.ntmps24
    go_wp2
    go_ret
    exact ⟨rfl, rfl⟩
set_option maxHeartbeats 4000000 in
set_option maxRecDepth 100000 in
theorem halive_zero {w : World} {p : Option Addr} (h : Zh w p) : Calls Try.prog 26 #[.pointer p] w fun e w' => e = .returned (.int .i64 1) ∧ w = w' := by
  have H := Lib.hid (hoff_zero h)
  clear h
  go_enter Try.func26, Try.ntmps26
  go_wp2_with (go_at_call 24; refine H.out.mono ?_; rintro e w1 ⟨rfl, rfl⟩)
  go_ret
  exact ⟨rfl, rfl⟩
set_option maxHeartbeats 4000000 in
set_option maxRecDepth 100000 in
theorem htxn_zero {w : World} {p : Option Addr} (h : Zh w p) : Calls Try.prog 16 #[.pointer p] w fun e w' => e = .returned (.pointer none) ∧ w = w' := by
  have H := Lib.hid (hoff_zero h)
  clear h
  go_enter Try.func16, Try.ntmps16
  go_wp2_with (go_at_call 24; refine H.out.mono ?_; rintro e w1 ⟨rfl, rfl⟩)
  go_ret
  exact ⟨rfl, rfl⟩
set_option maxHeartbeats 4000000 in
set_option maxRecDepth 100000 in
theorem hram_zero {w : World} {p : Option Addr} (h : Zh w p) : Calls Try.prog 17 #[.pointer p] w fun e w' => e = .returned (.pointer none) ∧ w = w' := by
  have H := Lib.hid (hoff_zero h)
  clear h
  go_enter Try.func17, Try.ntmps17
  go_wp2_with (go_at_call 24; refine H.out.mono ?_; rintro e w1 ⟨rfl, rfl⟩)
  go_ret
  exact ⟨rfl, rfl⟩
set_option maxHeartbeats 4000000 in
set_option maxRecDepth 100000 in
theorem hroom_zero {w : World} {p : Option Addr} (h : Zh w p) : Calls Try.prog 12 #[.pointer p] w fun e w' => e = .returned (.tuple #[.int .i64 0, .int .i64 0, .int .i64 1]) ∧ w = w' := by
  have H := Lib.hid (halive_zero h)
  clear h
  go_enter Try.func12, Try.ntmps12
  go_wp2_with (go_at_call 26; refine H.out.mono ?_; rintro e w1 ⟨rfl, rfl⟩)
  refine bodyPost_ret (v := .tuple #[.int .i64 0, .int .i64 0, .int .i64 1]) (by simp [results, Try.results12, go_sem]) rfl ⟨rfl, rfl⟩
set_option maxHeartbeats 4000000 in
set_option maxRecDepth 100000 in
theorem hall_zero {w : World} {p : Option Addr} (h : Zh w p) : Calls Try.prog 11 #[.pointer p] w fun e w' => e = .returned (.tuple #[.slice none 0 0, .int .i64 1]) ∧ w = w' := by
  have H := Lib.hid (halive_zero h)
  clear h
  go_enter Try.func11, Try.ntmps11
  go_wp2_with (go_at_call 26; refine H.out.mono ?_; rintro e w1 ⟨rfl, rfl⟩)
  go_ret2
  exact ⟨rfl, rfl⟩
set_option maxHeartbeats 4000000 in
set_option maxRecDepth 100000 in
theorem hmake_zero {w : World} {p : Option Addr} (h : Zh w p) (x : Hd) : Calls Try.prog 8 #[.pointer p, enc x] w fun e w' => e = .returned (.tuple #[.int .i64 0, .int .i64 1]) ∧ Ch (fun _ => False) w w' := by
  obtain ⟨kd, cl, el, ow, fl, cn⟩ := x
  simp only [enc]
  have H := Lib.hid (hoff_zero (h.gr ((Ch.refl _ w).alloc (.cells #[.int .u8 kd, .int .i64 cl, .int .i64 el, .int .i64 ow, .int .u8 fl, .int .i64 cn] 46))))
  clear h
  go_enter Try.func8, Try.ntmps8
  go_wp2_with (go_at_call 24; refine H.out.mono ?_; rintro e w1 ⟨rfl, rfl⟩)
  refine bodyPost_ret (v := .tuple #[.int .i64 0, .int .i64 1]) (by simp [results, Try.results8, go_sem]) rfl ⟨rfl, (Ch.refl _ w).alloc _⟩
set_option maxHeartbeats 4000000 in
set_option maxRecDepth 100000 in
theorem hlose_zero {w : World} {p : Option Addr} (h : Zh w p) (ow fl : Int) : Calls Try.prog 15 #[.pointer p, .int .i64 ow, .int .u8 fl] w fun e w' => e = .returned (.int .i64 1) ∧ Ch (fun _ => False) w w' := by
  have c : Ch (fun _ => False) w (((w.alloc (.cells #[.pointer p] 25)).alloc (.cells #[.int .i64 ow] 3)).alloc (.cells #[.int .u8 fl] 5)) := (((Ch.refl _ w).alloc _).alloc _).alloc _
  have p0 := ((Blk.new w #[.pointer p] 25).alloc (.cells #[.int .i64 ow] 3)).alloc (.cells #[.int .u8 fl] 5)
  have q0 := p0.cell 0
  simp only [List.getElem?_toArray, List.getElem?_cons_zero] at q0
  have H := Lib.hid (halive_zero (h.gr c))
  clear h p0
  go_enter Try.func15, Try.ntmps15
  go_wp2_with (go_at_call 26; refine H.out.mono ?_; rintro e w1 ⟨rfl, rfl⟩)
  go_ret
  exact ⟨rfl, c⟩
/-- The results of find, as they begin. -/
structure Fq (w W : World) : Prop where
  b2 : Blk W (w.heap.size + 1 + 1) #[.int .u8 0, .int .i64 0, .int .i64 0, .int .i64 0, .int .u8 0, .int .i64 0] 46
  b3 : Blk W (w.heap.size + 1 + 1 + 1) #[.int .i64 0] 3
  b4 : Blk W (w.heap.size + 1 + 1 + 1 + 1) #[.bool false] 4
  b5 : Blk W (w.heap.size + 1 + 1 + 1 + 1 + 1) #[.int .i64 0] 34
theorem fq_new (w : World) (p : Option Addr) (at_ : Int) : Fq w ((((((w.alloc (.cells #[.pointer p] 25)).alloc (.cells #[.int .i64 at_] 3)).alloc (.cells #[.int .u8 0, .int .i64 0, .int .i64 0, .int .i64 0, .int .u8 0, .int .i64 0] 46)).alloc (.cells #[.int .i64 0] 3)).alloc (.cells #[.bool false] 4)).alloc (.cells #[.int .i64 0] 34)) :=
  ⟨blk_at ((((Blk.new _ _ _).alloc _).alloc _).alloc _) (by simp), blk_at (((Blk.new _ _ _).alloc _).alloc _) (by simp), blk_at ((Blk.new _ _ _).alloc _) (by simp), blk_at (Blk.new _ _ _) (by simp)⟩
set_option maxHeartbeats 4000000 in
set_option maxRecDepth 100000 in
theorem hfind_zero {w : World} {p : Option Addr} (h : Zh w p) (at_ : Int) : Calls Try.prog 32 #[.pointer p, .int .i64 at_] w fun e w' => e = .returned (fdv ⟨.zero, 0, false, 1⟩) ∧ Ch (fun _ => False) w w' := by
  have C0 := ch6 w (.cells #[.pointer p] 25) (.cells #[.int .i64 at_] 3) (.cells #[.int .u8 0, .int .i64 0, .int .i64 0, .int .i64 0, .int .u8 0, .int .i64 0] 46) (.cells #[.int .i64 0] 3) (.cells #[.bool false] 4) (.cells #[.int .i64 0] 34)
  have FQ := fq_new w p at_
  have q0 : ((((((w.alloc (.cells #[.pointer p] 25)).alloc (.cells #[.int .i64 at_] 3)).alloc (.cells #[.int .u8 0, .int .i64 0, .int .i64 0, .int .i64 0, .int .u8 0, .int .i64 0] 46)).alloc (.cells #[.int .i64 0] 3)).alloc (.cells #[.bool false] 4)).alloc (.cells #[.int .i64 0] 34)).cell? ⟨w.heap.size, 0, none⟩ = some (.pointer p) := ((((((Blk.new w _ _).alloc _).alloc _).alloc _).alloc _).alloc _).cell 0
  have H := Lib.hid (halive_zero (h.gr C0))
  have CC := Lib.hid C0
  have x0 := FQ.b2.cell 0
  have x1 := FQ.b2.cell 1
  have x2 := FQ.b2.cell 2
  have x3 := FQ.b2.cell 3
  have x4 := FQ.b2.cell 4
  have x5 := FQ.b2.cell 5
  have c3 := FQ.b3.cell 0
  have c4 := FQ.b4.cell 0
  have c5 := FQ.b5.cell 0
  have f2 := fun j => FQ.b2.free j
  have f3 := FQ.b3.free 0
  have f4 := FQ.b4.free 0
  have f5 := FQ.b5.free 0
  have X := Lib.hid (And.intro x0 (And.intro x1 (And.intro x2 (And.intro x3 (And.intro x4 (And.intro x5 (And.intro c3 (And.intro c4 (And.intro c5 (And.intro f2 (And.intro f3 (And.intro f4 (And.intro f5 q0)))))))))))))
  clear h C0 FQ x0 x1 x2 x3 x4 x5 c3 c4 c5 f2 f3 f4 f5 q0
  go_enter Try.func32, Try.ntmps32
  go_wp2_with (go_at_call 26; refine H.out.mono ?_; rintro e w1 ⟨rfl, hw⟩; obtain ⟨x0, x1, x2, x3, x4, x5, c3, c4, c5, f2, f3, f4, f5, q0⟩ := X.out; have CC1 := CC.out; rw [hw] at x0 x1 x2 x3 x4 x5 c3 c4 c5 f2 f3 f4 f5 q0 CC1; clear hw X CC H; have CC := Lib.hid CC1; clear CC1; simp only [List.getElem?_toArray, List.getElem?_cons_zero, List.getElem?_cons_succ] at x0 x1 x2 x3 x4 x5 c3 c4 c5 q0)
  refine bodyPost_ret (v := fdv ⟨.zero, 0, false, 1⟩) (by simp [results, Try.results32, go_sem, fdv, enc, Hd.zero, *]) rfl ⟨rfl, ?_⟩
  have C1 := CC.out
  repeat refine Ch.setCell ?_ (Or.inr (by dsimp only; omega)) _
  exact C1
set_option maxHeartbeats 4000000 in
set_option maxRecDepth 100000 in
theorem hhdz_core (w : World) (q : Option Addr) (at_ : Int) (x : Hd) (p e : Int) (r : Bool)
    (ha : Hid (∀ w1, Ch (fun _ => False) w w1 → Calls Try.prog 32 #[.pointer q, .int .i64 at_] w1 fun e2 w' => e2 = .returned (fdv ⟨x, p, r, e⟩) ∧ Ch (fun _ => False) w1 w')) :
    Calls Try.prog 9 #[.pointer q, .int .i64 at_] w fun e2 w' => e2 = .returned (.tuple #[enc x, .int .i64 e]) ∧ Ch (fun _ => False) w w' := by
  obtain ⟨kd, cl, el, ow, fl, cn⟩ := x
  simp only [fdv, enc] at ha ⊢
  go_enter Try.func9, Try.ntmps9
  go_wp2_with (go_at_call 32; refine (ha.out _ ((Ch.refl _ w).alloc _)).mono ?_; rintro e2 w' ⟨rfl, c1⟩; have Z := (Blk.new w #[.int .u8 0, .int .i64 0, .int .i64 0, .int .i64 0, .int .u8 0, .int .i64 0] 46).ch c1 (fun h => h); have z0 : ∀ o, (w'.alloc o).cell? ⟨w.heap.size, 0, none⟩ = some (.int .u8 0) := fun o => (Z.alloc o).cell 0; have y0 : ∀ o, (w'.alloc o).frozen? ⟨w.heap.size, 0, none⟩ = false := fun o => (Z.alloc o).free 0; have z1 : ∀ o, (w'.alloc o).cell? ⟨w.heap.size, 1, none⟩ = some (.int .i64 0) := fun o => (Z.alloc o).cell 1; have y1 : ∀ o, (w'.alloc o).frozen? ⟨w.heap.size, 1, none⟩ = false := fun o => (Z.alloc o).free 1; have z2 : ∀ o, (w'.alloc o).cell? ⟨w.heap.size, 2, none⟩ = some (.int .i64 0) := fun o => (Z.alloc o).cell 2; have y2 : ∀ o, (w'.alloc o).frozen? ⟨w.heap.size, 2, none⟩ = false := fun o => (Z.alloc o).free 2; have z3 : ∀ o, (w'.alloc o).cell? ⟨w.heap.size, 3, none⟩ = some (.int .i64 0) := fun o => (Z.alloc o).cell 3; have y3 : ∀ o, (w'.alloc o).frozen? ⟨w.heap.size, 3, none⟩ = false := fun o => (Z.alloc o).free 3; have z4 : ∀ o, (w'.alloc o).cell? ⟨w.heap.size, 4, none⟩ = some (.int .u8 0) := fun o => (Z.alloc o).cell 4; have y4 : ∀ o, (w'.alloc o).frozen? ⟨w.heap.size, 4, none⟩ = false := fun o => (Z.alloc o).free 4; have z5 : ∀ o, (w'.alloc o).cell? ⟨w.heap.size, 5, none⟩ = some (.int .i64 0) := fun o => (Z.alloc o).cell 5; have y5 : ∀ o, (w'.alloc o).frozen? ⟨w.heap.size, 5, none⟩ = false := fun o => (Z.alloc o).free 5)
  refine bodyPost_ret (v := .tuple #[.agg #[.int .u8 kd, .int .i64 cl, .int .i64 el, .int .i64 ow, .int .u8 fl, .int .i64 cn], .int .i64 e]) (by simp [results, Try.results9, go_sem, *]) rfl ⟨rfl, ?_⟩
  repeat refine Ch.setCell ?_ (Or.inr (Nat.le_refl _)) _
  exact (((Ch.refl _ w).alloc _).then c1).alloc _
theorem hhead_zero {w : World} {p : Option Addr} (h : Zh w p) (at_ : Int) : Calls Try.prog 9 #[.pointer p, .int .i64 at_] w fun e w' => e = .returned (.tuple #[enc .zero, .int .i64 1]) ∧ Ch (fun _ => False) w w' :=
  hhdz_core w p at_ _ _ _ _ (Lib.hid (fun w1 c => hfind_zero (h.gr c) at_))
set_option maxHeartbeats 4000000 in
set_option maxRecDepth 100000 in
theorem hslot_zero {w : World} {p : Option Addr} (h : Zh w p) (at_ i : Int) : Calls Try.prog 33 #[.pointer p, .int .i64 at_, .int .i64 i] w fun e w' => e = .returned (slv ⟨0, 0, false, 1⟩) ∧ Ch (fun _ => False) w w' := by
  have H0 := hfind_zero h at_
  simp only [fdv, enc, Hd.zero] at H0
  have H := Lib.hid H0
  clear h H0
  unfold slv
  go_enter Try.func33, Try.ntmps33
  go_wp2_with (go_at_call 32; refine H.out.mono ?_; rintro e w1 ⟨rfl, c1⟩)
  refine bodyPost_ret (v := .tuple #[.int .i64 0, .int .i64 0, .bool false, .int .i64 1]) (by simp [results, Try.results33, go_sem]) rfl ⟨rfl, by first | exact c1 | exact c1.alloc _ | skip⟩
set_option maxHeartbeats 4000000 in
set_option maxRecDepth 100000 in
theorem hget_zero {w : World} {p : Option Addr} (h : Zh w p) (at_ i : Int) : Calls Try.prog 10 #[.pointer p, .int .i64 at_, .int .i64 i] w fun e w' => e = .returned (.tuple #[.int .u16 0, .int .i64 1]) ∧ Ch (fun _ => False) w w' := by
  have H0 := hslot_zero h at_ i
  simp only [slv] at H0
  have H := Lib.hid H0
  clear h H0
  go_enter Try.func10, Try.ntmps10
  go_wp2_with (go_at_call 33; refine H.out.mono ?_; rintro e w1 ⟨rfl, c1⟩)
  go_ret2
  exact ⟨rfl, c1⟩
set_option maxHeartbeats 4000000 in
set_option maxRecDepth 100000 in
theorem hput_zero {w : World} {p : Option Addr} (h : Zh w p) (at_ i v : Int) : Calls Try.prog 13 #[.pointer p, .int .i64 at_, .int .i64 i, .int .u16 v] w fun e w' => e = .returned (.int .i64 1) ∧ Ch (fun _ => False) w w' := by
  have H0 := hslot_zero h at_ i
  simp only [slv] at H0
  have H := Lib.hid H0
  clear h H0
  go_enter Try.func13, Try.ntmps13
  go_wp2_with (go_at_call 33; refine H.out.mono ?_; rintro e w1 ⟨rfl, c1⟩)
  go_ret
  exact ⟨rfl, c1⟩
set_option maxHeartbeats 4000000 in
set_option maxRecDepth 100000 in
theorem hraw_zero {w : World} {p : Option Addr} (h : Zh w p) (at_ i v : Int) : Calls Try.prog 14 #[.pointer p, .int .i64 at_, .int .i64 i, .int .u16 v] w fun e w' => e = .returned (.int .i64 1) ∧ Ch (fun _ => False) w w' := by
  have H0 := hslot_zero h at_ i
  simp only [slv] at H0
  have H := Lib.hid H0
  clear h H0
  go_enter Try.func14, Try.ntmps14
  go_wp2_with (go_at_call 33; refine H.out.mono ?_; rintro e w1 ⟨rfl, c1⟩)
  go_ret
  exact ⟨rfl, c1⟩
/-- None, or a zero ram. -/
def Zr (w : World) (p : Option Addr) : Prop := p = none ∨ ∃ R l, p = some ⟨R, 0, none⟩ ∧ Blk w R (Ram.cp false l) 31
theorem Zr.gr {w w' : World} {p : Option Addr} (h : Zr w p) (c : Ch (fun _ => False) w w') : Zr w' p := by
  rcases h with h | ⟨T, l, h, b⟩
  · exact Or.inl h
  · exact Or.inr ⟨T, l, h, b.ch c (fun h => h)⟩
set_option maxHeartbeats 4000000 in
set_option maxRecDepth 100000 in
theorem rbys_zero {w : World} {p : Option Addr} (h : Zr w p) : Calls Try.prog 20 #[.pointer p] w fun e w' => e = .returned (.slice none 0 0) ∧ w = w' := by
  rcases h with rfl | ⟨R, l, rfl, b⟩
  · go_enter Try.func20, Try.ntmps20
    go_wp2_with (first | (go_at_call 43; refine (Ram.ask_nil _ _ _).mono ?_; rintro e w1 ⟨rfl, rfl⟩))
    go_ret
    exact ⟨rfl, rfl⟩
  · have c0 : w.cell? ⟨R, 0, none⟩ = some (.bool false) := by rw [b.cell 0]; exact Ram.cp_zero _ _
    have HA := Lib.hid (fun x y => Ram.ask_zero w R x y c0)
    clear b
    go_enter Try.func20, Try.ntmps20
    go_wp2_with (first | (go_at_call 43; refine (HA.out _ _).mono ?_; rintro e w1 ⟨rfl, rfl⟩))
    go_ret
    exact ⟨rfl, rfl⟩
set_option maxHeartbeats 4000000 in
set_option maxRecDepth 100000 in
theorem hnew_zt {w : World} {p r : Option Addr} (h : Zt w p) : Calls Try.prog 4 #[.pointer p, .pointer r] w fun e w' => e = .returned (.tuple #[.pointer none, .int .i64 1]) ∧ w = w' := by
  have H := Lib.hid (nvm_zero h)
  clear h
  go_enter Try.func4, Try.ntmps4
  go_wp2_with (first | (go_at_call 19; refine H.out.mono ?_; rintro e w1 ⟨rfl, rfl⟩))
  go_ret2
  exact ⟨rfl, rfl⟩
set_option maxHeartbeats 4000000 in
set_option maxRecDepth 100000 in
theorem hnew_zr {w : World} {F : Nat → Prop} {T N L : Nat} {s : St} (ht : Tx w F T N L s) {r : Option Addr} (h : Zr w r) : Calls Try.prog 4 #[.pointer (some ⟨T, 0, none⟩), .pointer r] w fun e w' => e = .returned (.tuple #[.pointer none, .int .i64 1]) ∧ w = w' := by
  have H := Lib.hid (rbys_zero h)
  have c0 := ht.c0
  clear h ht
  go_enter Try.func4, Try.ntmps4
  go_wp2_with (first | (go_at_call 19; refine (nvm_core _ T N c0).mono ?_; rintro e w1 ⟨rfl, rfl⟩) | (go_at_call 20; refine H.out.mono ?_; rintro e w1 ⟨rfl, rfl⟩))
  go_ret2
  exact ⟨rfl, rfl⟩
end Go.Proofs.Ytjeaidmmhplglaa.Nvm
