/- Of none, and of zero transactions, all is refused. -/
import Derived.Test.YtjeaidmmhplglaaTxnAll
set_option linter.unusedVariables false
set_option linter.unusedSimpArgs false
namespace Go.Proofs.Ytjeaidmmhplglaa.Nvm
open Go.RowKit Go.Proofs.Ytjeaidmmhplglaa.Base
/-- None, or zero transactions. -/
def Zt (w : World) (p : Option Addr) : Prop := p = none ∨ ∃ T, p = some ⟨T, 0, none⟩ ∧ Blk w T #[.pointer none] 28
theorem Zt.gr {w w' : World} {p : Option Addr} (h : Zt w p) (c : Ch (fun _ => False) w w') : Zt w' p := by
  rcases h with h | ⟨T, h, b⟩
  · exact Or.inl h
  · exact Or.inr ⟨T, h, b.ch c (fun h => h)⟩
set_option maxHeartbeats 4000000 in
set_option maxRecDepth 100000 in
theorem off_zero {w : World} {p : Option Addr} (h : Zt w p) : Calls Try.prog 42 #[.pointer p] w fun e w' => e = .returned (.bool true) ∧ w = w' := by
  rcases h with rfl | ⟨T, rfl, b⟩
  · go_enter Try.func42, Try.ntmps42
    go_wp2
    go_ret
    exact ⟨rfl, rfl⟩
  · have c0 : w.cell? ⟨T, 0, none⟩ = some (.pointer none) := b.cell 0
    clear b
    go_enter Try.func42, Try.ntmps42
    go_wp2
    go_ret
    exact ⟨rfl, rfl⟩
set_option maxHeartbeats 4000000 in
set_option maxRecDepth 100000 in
theorem ask_zero {w : World} {p : Option Addr} (h : Zt w p) (at_ : Int) : Calls Try.prog 44 #[.pointer p, .int .i64 at_] w fun e w' => e = .returned (.int .i64 1) ∧ w = w' := by
  have H := Lib.hid (fun wx : World => show Zt wx p → _ from fun hz => off_zero hz)
  have HZ := Lib.hid h
  clear h
  go_enter Try.func44, Try.ntmps44
  go_wp2_with (fail)
  refine (H.out _ HZ.out).mono ?_
  rintro e w1 ⟨rfl, rfl⟩
  go_wp2_with (fail)
  go_ret
  exact ⟨rfl, rfl⟩
set_option maxHeartbeats 4000000 in
set_option maxRecDepth 100000 in
theorem askB_zero {w : World} {p : Option Addr} (h : Zt w p) (at_ : Int) : Calls Try.prog 54 #[.pointer p, .int .i64 at_] w fun e w' => e = .returned (.int .i64 1) ∧ w = w' := by
  have H := Lib.hid (fun (wx : World) (hz : Zt wx p) (x : Int) => ask_zero hz x)
  have HZ := Lib.hid h
  clear h
  by_cases c : at_ < 0
  · go_enter Try.func54, Try.ntmps54
    go_wp2_with (fail)
    refine (H.out _ HZ.out _).mono ?_
    rintro e w1 ⟨rfl, rfl⟩
    go_wp2_with (fail)
    go_ret
    exact ⟨rfl, rfl⟩
  · go_enter Try.func54, Try.ntmps54
    go_wp2_with (fail)
    refine (H.out _ HZ.out _).mono ?_
    rintro e w1 ⟨rfl, rfl⟩
    go_wp2_with (fail)
    go_ret
    exact ⟨rfl, rfl⟩
set_option maxHeartbeats 4000000 in
set_option maxRecDepth 100000 in
theorem open_zero {w : World} {p : Option Addr} (h : Zt w p) : Calls Try.prog 46 #[.pointer p] w fun e w' => e = .returned (.bool false) ∧ w = w' := by
  have H := Lib.hid (fun wx : World => show Zt wx p → _ from fun hz => off_zero hz)
  have HZ := Lib.hid h
  clear h
  go_enter Try.func46, Try.ntmps46
  go_wp2_with (fail)
  refine (H.out _ HZ.out).mono ?_
  rintro e w1 ⟨rfl, rfl⟩
  go_wp2_with (fail)
  go_ret
  exact ⟨rfl, rfl⟩
set_option maxHeartbeats 4000000 in
set_option maxRecDepth 100000 in
theorem nvm_zero {w : World} {p : Option Addr} (h : Zt w p) : Calls Try.prog 19 #[.pointer p] w fun e w' => e = .returned (.pointer none) ∧ w = w' := by
  have H := Lib.hid (fun wx : World => show Zt wx p → _ from fun hz => off_zero hz)
  have HZ := Lib.hid h
  clear h
  go_enter Try.func19, Try.ntmps19
  go_wp2_with (fail)
  refine (H.out _ HZ.out).mono ?_
  rintro e w1 ⟨rfl, rfl⟩
  go_wp2_with (fail)
  go_ret
  exact ⟨rfl, rfl⟩
set_option maxHeartbeats 4000000 in
set_option maxRecDepth 100000 in
theorem word_zero {w : World} {p : Option Addr} (h : Zt w p) (at_ : Int) : Calls Try.prog 21 #[.pointer p, .int .i64 at_] w fun e w' => e = .returned (.tuple #[.int .u16 0, .int .i64 1]) ∧ w = w' := by
  have H := Lib.hid (fun wx : World => show Zt wx p → _ from fun hz => ask_zero hz at_)
  have HZ := Lib.hid h
  clear h
  go_enter Try.func21, Try.ntmps21
  go_wp2_with (fail)
  refine (H.out _ HZ.out).mono ?_
  rintro e w1 ⟨rfl, rfl⟩
  go_wp2_with (fail)
  go_ret2
  exact ⟨rfl, rfl⟩
set_option maxHeartbeats 4000000 in
set_option maxRecDepth 100000 in
theorem tbyte_zero {w : World} {p : Option Addr} (h : Zt w p) (at_ : Int) : Calls Try.prog 36 #[.pointer p, .int .i64 at_] w fun e w' => e = .returned (.tuple #[.int .u8 0, .int .i64 1]) ∧ w = w' := by
  have H := Lib.hid (fun wx : World => show Zt wx p → _ from fun hz => askB_zero hz at_)
  have HZ := Lib.hid h
  clear h
  go_enter Try.func36, Try.ntmps36
  go_wp2_with (fail)
  refine (H.out _ HZ.out).mono ?_
  rintro e w1 ⟨rfl, rfl⟩
  go_wp2_with (fail)
  go_ret2
  exact ⟨rfl, rfl⟩
set_option maxHeartbeats 4000000 in
set_option maxRecDepth 100000 in
theorem raw_zero {w : World} {p : Option Addr} (h : Zt w p) (at_ v : Int) : Calls Try.prog 30 #[.pointer p, .int .i64 at_, .int .u8 v] w fun e w' => e = .returned (.int .i64 1) ∧ w = w' := by
  have H := Lib.hid (fun wx : World => show Zt wx p → _ from fun hz => askB_zero hz at_)
  have HZ := Lib.hid h
  clear h
  go_enter Try.func30, Try.ntmps30
  go_wp2_with (fail)
  refine (H.out _ HZ.out).mono ?_
  rintro e w1 ⟨rfl, rfl⟩
  go_wp2_with (fail)
  go_ret
  exact ⟨rfl, rfl⟩
set_option maxHeartbeats 4000000 in
set_option maxRecDepth 100000 in
theorem put_zero {w : World} {p : Option Addr} (h : Zt w p) (at_ v : Int) : Calls Try.prog 22 #[.pointer p, .int .i64 at_, .int .u16 v] w fun e w' => e = .returned (.int .i64 1) ∧ Ch (fun _ => False) w w' := by
  have c : Ch (fun _ => False) w ((w.alloc (.cells #[.pointer p] 23)).alloc (.cells #[.int .i64 at_] 3)) := ((Ch.refl _ _).alloc _).alloc _
  have p0 := (Blk.new w #[.pointer p] 23).alloc (.cells #[.int .i64 at_] 3)
  have p1 := Blk.new (w.alloc (.cells #[.pointer p] 23)) #[.int .i64 at_] 3
  rw [show (w.alloc (.cells #[.pointer p] 23)).heap.size = w.heap.size + 1 from by simp] at p1
  have q0 := p0.cell 0
  have q1 := p1.cell 0
  simp only [List.getElem?_toArray, List.getElem?_cons_zero] at q0 q1
  have H := Lib.hid (ask_zero (h.gr c) at_)
  clear p0 p1 h
  go_enter Try.func22, Try.ntmps22
  go_wp2_with (fail)
  refine H.out.mono ?_
  rintro e w1 ⟨rfl, rfl⟩
  go_wp2_with (fail)
  go_ret
  exact ⟨rfl, c⟩
set_option maxHeartbeats 4000000 in
set_option maxRecDepth 100000 in
theorem putb_zero {w : World} {p : Option Addr} (h : Zt w p) (at_ v : Int) : Calls Try.prog 39 #[.pointer p, .int .i64 at_, .int .u8 v] w fun e w' => e = .returned (.int .i64 1) ∧ Ch (fun _ => False) w w' := by
  have c : Ch (fun _ => False) w ((w.alloc (.cells #[.pointer p] 23)).alloc (.cells #[.int .i64 at_] 3)) := ((Ch.refl _ _).alloc _).alloc _
  have p0 := (Blk.new w #[.pointer p] 23).alloc (.cells #[.int .i64 at_] 3)
  have p1 := Blk.new (w.alloc (.cells #[.pointer p] 23)) #[.int .i64 at_] 3
  rw [show (w.alloc (.cells #[.pointer p] 23)).heap.size = w.heap.size + 1 from by simp] at p1
  have q0 := p0.cell 0
  have q1 := p1.cell 0
  simp only [List.getElem?_toArray, List.getElem?_cons_zero] at q0 q1
  have H := Lib.hid (askB_zero (h.gr c) at_)
  clear p0 p1 h
  go_enter Try.func39, Try.ntmps39
  go_wp2_with (fail)
  refine H.out.mono ?_
  rintro e w1 ⟨rfl, rfl⟩
  go_wp2_with (fail)
  go_ret
  exact ⟨rfl, c⟩
/-- None, or a zero memory. -/
def Zn (w : World) (p : Option Addr) : Prop := p = none ∨ ∃ N, p = some ⟨N, 0, none⟩ ∧ Blk w N #[.slice none 0 0, .pointer none, .bool false, .int .i64 0] 68
set_option maxHeartbeats 4000000 in
set_option maxRecDepth 100000 in
theorem noff_zero {w : World} {p : Option Addr} (h : Zn w p) : Calls Try.prog 53 #[.pointer p] w fun e w' => e = .returned (.bool true) ∧ w = w' := by
  rcases h with rfl | ⟨N, rfl, b⟩
  · go_enter Try.func53, Try.ntmps53
    go_wp2
    go_ret
    exact ⟨rfl, rfl⟩
  · have c0 : w.cell? ⟨N, 0, none⟩ = some (.slice none 0 0) := b.cell 0
    have hn := fun wx : World => Lib.run_eql_slice_nil (P := Try.prog) wx 62 5 none 0 0 0 0 Try.underlying62
    clear b
    go_enter Try.func53, Try.ntmps53
    go_wp2
    go_ret
    exact ⟨rfl, rfl⟩
set_option maxHeartbeats 4000000 in
set_option maxRecDepth 100000 in
theorem size_zero {w : World} {p : Option Addr} (h : Zn w p) : Calls Try.prog 23 #[.pointer p] w fun e w' => e = .returned (.int .i64 0) ∧ w = w' := by
  have H := Lib.hid (noff_zero h)
  clear h
  go_enter Try.func23, Try.ntmps23
  go_wp2_with (fail)
  refine H.out.mono ?_
  rintro e w1 ⟨rfl, rfl⟩
  go_wp2_with (fail)
  go_ret
  exact ⟨rfl, rfl⟩
set_option maxHeartbeats 4000000 in
set_option maxRecDepth 100000 in
theorem newt_zero {w : World} {p : Option Addr} (h : Zn w p) : Calls Try.prog 7 #[.pointer p] w fun e w' => e = .returned (.tuple #[.pointer none, .int .i64 1]) ∧ w = w' := by
  have H := Lib.hid (size_zero h)
  clear h
  go_enter Try.func7, Try.ntmps7
  go_wp2_with (fail)
  refine H.out.mono ?_
  rintro e w1 ⟨rfl, rfl⟩
  go_wp2_with (fail)
  go_ret2
  exact ⟨rfl, rfl⟩
end Go.Proofs.Ytjeaidmmhplglaa.Nvm
