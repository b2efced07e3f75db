/- The access of an instruction, as the program and the reference tell it: a walk for each kind of instruction. (Printed by gen_fire.py.) -/
import Derived.Test.YtjknnifcbcdjiaaProg
import Derived.OwnWalk
import Derived.WalkKit
import Derived.Tactics
import Derived.KernelRfl
import Derived.Deep.QuietTactic
import Derived.BigQuiet
import Derived.RowKit
import Derived.Below
set_option linter.unusedVariables false
set_option linter.unusedSimpArgs false
namespace Go.Proofs.Ytjknnifcbcdjiaa.FireWalk
open Go.RowKit
set_option maxRecDepth 100000
/-- The access of an instruction. -/
def ans (o a p : Int) : Int × Int × Bool :=
  if (131 ≤ o ∧ o ≤ 133) ∨ (135 ≤ o ∧ o ≤ 137) then (1, 0, true)
  else if (36 ≤ o ∧ o ≤ 38) ∨ (55 ≤ o ∧ o ≤ 57) ∨ o = 146 then (2, 0, true)
  else if o = 139 then (3, 0, true)
  else if o = 140 then (4, 0, true)
  else if o = 147 then (5, 0, true)
  else if o = 142 then (6, p, true)
  else if o = 148 ∨ o = 149 then (7, if a = 0 then p else -1, true)
  else (0, 0, false)
section
variable (a0 a2 a3 a4 a5 a6 : Int) (A7 : Option Addr) (n7 c7 : Nat) (A8 : Option Addr) (n8 c8 : Nat) (a9 : Int) (w : World)
theorem w47_131 : Calls Try.prog 47 #[.agg #[.int .i64 a0, .int .u8 131, .int .i64 a2, .int .u8 a3, .int .u16 a4, .int .i64 a5, .int .i64 a6, .slice A7 n7 c7, .slice A8 n8 c8, .int .u16 a9]] w fun e w' => e = .returned (.tuple #[.agg #[.int .u8 1, .int .i64 0], .bool true]) ∧ Below w.heap.size w w' := by
  go_enter Try.func47, Try.ntmps47
  go_wp2
  refine bodyPost_ret (v := .tuple #[.agg #[.int .u8 1, .int .i64 0], .bool true]) (by simp [results, Try.results47, go_sem]) rfl ⟨rfl, ?_⟩
  repeat (first | exact Below.refl _ _ | (refine Below.alloc ?_ (by first | exact Nat.le_refl _ | (simp; done) | (simp; omega)) _) | (refine Below.setCell ?_ (by first | exact Nat.le_refl _ | (simp; done) | (simp; omega)) _))
theorem w47_132 : Calls Try.prog 47 #[.agg #[.int .i64 a0, .int .u8 132, .int .i64 a2, .int .u8 a3, .int .u16 a4, .int .i64 a5, .int .i64 a6, .slice A7 n7 c7, .slice A8 n8 c8, .int .u16 a9]] w fun e w' => e = .returned (.tuple #[.agg #[.int .u8 1, .int .i64 0], .bool true]) ∧ Below w.heap.size w w' := by
  go_enter Try.func47, Try.ntmps47
  go_wp2
  refine bodyPost_ret (v := .tuple #[.agg #[.int .u8 1, .int .i64 0], .bool true]) (by simp [results, Try.results47, go_sem]) rfl ⟨rfl, ?_⟩
  repeat (first | exact Below.refl _ _ | (refine Below.alloc ?_ (by first | exact Nat.le_refl _ | (simp; done) | (simp; omega)) _) | (refine Below.setCell ?_ (by first | exact Nat.le_refl _ | (simp; done) | (simp; omega)) _))
theorem w47_133 : Calls Try.prog 47 #[.agg #[.int .i64 a0, .int .u8 133, .int .i64 a2, .int .u8 a3, .int .u16 a4, .int .i64 a5, .int .i64 a6, .slice A7 n7 c7, .slice A8 n8 c8, .int .u16 a9]] w fun e w' => e = .returned (.tuple #[.agg #[.int .u8 1, .int .i64 0], .bool true]) ∧ Below w.heap.size w w' := by
  go_enter Try.func47, Try.ntmps47
  go_wp2
  refine bodyPost_ret (v := .tuple #[.agg #[.int .u8 1, .int .i64 0], .bool true]) (by simp [results, Try.results47, go_sem]) rfl ⟨rfl, ?_⟩
  repeat (first | exact Below.refl _ _ | (refine Below.alloc ?_ (by first | exact Nat.le_refl _ | (simp; done) | (simp; omega)) _) | (refine Below.setCell ?_ (by first | exact Nat.le_refl _ | (simp; done) | (simp; omega)) _))
theorem w47_135 : Calls Try.prog 47 #[.agg #[.int .i64 a0, .int .u8 135, .int .i64 a2, .int .u8 a3, .int .u16 a4, .int .i64 a5, .int .i64 a6, .slice A7 n7 c7, .slice A8 n8 c8, .int .u16 a9]] w fun e w' => e = .returned (.tuple #[.agg #[.int .u8 1, .int .i64 0], .bool true]) ∧ Below w.heap.size w w' := by
  go_enter Try.func47, Try.ntmps47
  go_wp2
  refine bodyPost_ret (v := .tuple #[.agg #[.int .u8 1, .int .i64 0], .bool true]) (by simp [results, Try.results47, go_sem]) rfl ⟨rfl, ?_⟩
  repeat (first | exact Below.refl _ _ | (refine Below.alloc ?_ (by first | exact Nat.le_refl _ | (simp; done) | (simp; omega)) _) | (refine Below.setCell ?_ (by first | exact Nat.le_refl _ | (simp; done) | (simp; omega)) _))
theorem w47_136 : Calls Try.prog 47 #[.agg #[.int .i64 a0, .int .u8 136, .int .i64 a2, .int .u8 a3, .int .u16 a4, .int .i64 a5, .int .i64 a6, .slice A7 n7 c7, .slice A8 n8 c8, .int .u16 a9]] w fun e w' => e = .returned (.tuple #[.agg #[.int .u8 1, .int .i64 0], .bool true]) ∧ Below w.heap.size w w' := by
  go_enter Try.func47, Try.ntmps47
  go_wp2
  refine bodyPost_ret (v := .tuple #[.agg #[.int .u8 1, .int .i64 0], .bool true]) (by simp [results, Try.results47, go_sem]) rfl ⟨rfl, ?_⟩
  repeat (first | exact Below.refl _ _ | (refine Below.alloc ?_ (by first | exact Nat.le_refl _ | (simp; done) | (simp; omega)) _) | (refine Below.setCell ?_ (by first | exact Nat.le_refl _ | (simp; done) | (simp; omega)) _))
theorem w47_137 : Calls Try.prog 47 #[.agg #[.int .i64 a0, .int .u8 137, .int .i64 a2, .int .u8 a3, .int .u16 a4, .int .i64 a5, .int .i64 a6, .slice A7 n7 c7, .slice A8 n8 c8, .int .u16 a9]] w fun e w' => e = .returned (.tuple #[.agg #[.int .u8 1, .int .i64 0], .bool true]) ∧ Below w.heap.size w w' := by
  go_enter Try.func47, Try.ntmps47
  go_wp2
  refine bodyPost_ret (v := .tuple #[.agg #[.int .u8 1, .int .i64 0], .bool true]) (by simp [results, Try.results47, go_sem]) rfl ⟨rfl, ?_⟩
  repeat (first | exact Below.refl _ _ | (refine Below.alloc ?_ (by first | exact Nat.le_refl _ | (simp; done) | (simp; omega)) _) | (refine Below.setCell ?_ (by first | exact Nat.le_refl _ | (simp; done) | (simp; omega)) _))
theorem w47_36 : Calls Try.prog 47 #[.agg #[.int .i64 a0, .int .u8 36, .int .i64 a2, .int .u8 a3, .int .u16 a4, .int .i64 a5, .int .i64 a6, .slice A7 n7 c7, .slice A8 n8 c8, .int .u16 a9]] w fun e w' => e = .returned (.tuple #[.agg #[.int .u8 2, .int .i64 0], .bool true]) ∧ Below w.heap.size w w' := by
  go_enter Try.func47, Try.ntmps47
  go_wp2
  refine bodyPost_ret (v := .tuple #[.agg #[.int .u8 2, .int .i64 0], .bool true]) (by simp [results, Try.results47, go_sem]) rfl ⟨rfl, ?_⟩
  repeat (first | exact Below.refl _ _ | (refine Below.alloc ?_ (by first | exact Nat.le_refl _ | (simp; done) | (simp; omega)) _) | (refine Below.setCell ?_ (by first | exact Nat.le_refl _ | (simp; done) | (simp; omega)) _))
theorem w47_37 : Calls Try.prog 47 #[.agg #[.int .i64 a0, .int .u8 37, .int .i64 a2, .int .u8 a3, .int .u16 a4, .int .i64 a5, .int .i64 a6, .slice A7 n7 c7, .slice A8 n8 c8, .int .u16 a9]] w fun e w' => e = .returned (.tuple #[.agg #[.int .u8 2, .int .i64 0], .bool true]) ∧ Below w.heap.size w w' := by
  go_enter Try.func47, Try.ntmps47
  go_wp2
  refine bodyPost_ret (v := .tuple #[.agg #[.int .u8 2, .int .i64 0], .bool true]) (by simp [results, Try.results47, go_sem]) rfl ⟨rfl, ?_⟩
  repeat (first | exact Below.refl _ _ | (refine Below.alloc ?_ (by first | exact Nat.le_refl _ | (simp; done) | (simp; omega)) _) | (refine Below.setCell ?_ (by first | exact Nat.le_refl _ | (simp; done) | (simp; omega)) _))
theorem w47_38 : Calls Try.prog 47 #[.agg #[.int .i64 a0, .int .u8 38, .int .i64 a2, .int .u8 a3, .int .u16 a4, .int .i64 a5, .int .i64 a6, .slice A7 n7 c7, .slice A8 n8 c8, .int .u16 a9]] w fun e w' => e = .returned (.tuple #[.agg #[.int .u8 2, .int .i64 0], .bool true]) ∧ Below w.heap.size w w' := by
  go_enter Try.func47, Try.ntmps47
  go_wp2
  refine bodyPost_ret (v := .tuple #[.agg #[.int .u8 2, .int .i64 0], .bool true]) (by simp [results, Try.results47, go_sem]) rfl ⟨rfl, ?_⟩
  repeat (first | exact Below.refl _ _ | (refine Below.alloc ?_ (by first | exact Nat.le_refl _ | (simp; done) | (simp; omega)) _) | (refine Below.setCell ?_ (by first | exact Nat.le_refl _ | (simp; done) | (simp; omega)) _))
theorem w47_55 : Calls Try.prog 47 #[.agg #[.int .i64 a0, .int .u8 55, .int .i64 a2, .int .u8 a3, .int .u16 a4, .int .i64 a5, .int .i64 a6, .slice A7 n7 c7, .slice A8 n8 c8, .int .u16 a9]] w fun e w' => e = .returned (.tuple #[.agg #[.int .u8 2, .int .i64 0], .bool true]) ∧ Below w.heap.size w w' := by
  go_enter Try.func47, Try.ntmps47
  go_wp2
  refine bodyPost_ret (v := .tuple #[.agg #[.int .u8 2, .int .i64 0], .bool true]) (by simp [results, Try.results47, go_sem]) rfl ⟨rfl, ?_⟩
  repeat (first | exact Below.refl _ _ | (refine Below.alloc ?_ (by first | exact Nat.le_refl _ | (simp; done) | (simp; omega)) _) | (refine Below.setCell ?_ (by first | exact Nat.le_refl _ | (simp; done) | (simp; omega)) _))
theorem w47_56 : Calls Try.prog 47 #[.agg #[.int .i64 a0, .int .u8 56, .int .i64 a2, .int .u8 a3, .int .u16 a4, .int .i64 a5, .int .i64 a6, .slice A7 n7 c7, .slice A8 n8 c8, .int .u16 a9]] w fun e w' => e = .returned (.tuple #[.agg #[.int .u8 2, .int .i64 0], .bool true]) ∧ Below w.heap.size w w' := by
  go_enter Try.func47, Try.ntmps47
  go_wp2
  refine bodyPost_ret (v := .tuple #[.agg #[.int .u8 2, .int .i64 0], .bool true]) (by simp [results, Try.results47, go_sem]) rfl ⟨rfl, ?_⟩
  repeat (first | exact Below.refl _ _ | (refine Below.alloc ?_ (by first | exact Nat.le_refl _ | (simp; done) | (simp; omega)) _) | (refine Below.setCell ?_ (by first | exact Nat.le_refl _ | (simp; done) | (simp; omega)) _))
theorem w47_57 : Calls Try.prog 47 #[.agg #[.int .i64 a0, .int .u8 57, .int .i64 a2, .int .u8 a3, .int .u16 a4, .int .i64 a5, .int .i64 a6, .slice A7 n7 c7, .slice A8 n8 c8, .int .u16 a9]] w fun e w' => e = .returned (.tuple #[.agg #[.int .u8 2, .int .i64 0], .bool true]) ∧ Below w.heap.size w w' := by
  go_enter Try.func47, Try.ntmps47
  go_wp2
  refine bodyPost_ret (v := .tuple #[.agg #[.int .u8 2, .int .i64 0], .bool true]) (by simp [results, Try.results47, go_sem]) rfl ⟨rfl, ?_⟩
  repeat (first | exact Below.refl _ _ | (refine Below.alloc ?_ (by first | exact Nat.le_refl _ | (simp; done) | (simp; omega)) _) | (refine Below.setCell ?_ (by first | exact Nat.le_refl _ | (simp; done) | (simp; omega)) _))
theorem w47_146 : Calls Try.prog 47 #[.agg #[.int .i64 a0, .int .u8 146, .int .i64 a2, .int .u8 a3, .int .u16 a4, .int .i64 a5, .int .i64 a6, .slice A7 n7 c7, .slice A8 n8 c8, .int .u16 a9]] w fun e w' => e = .returned (.tuple #[.agg #[.int .u8 2, .int .i64 0], .bool true]) ∧ Below w.heap.size w w' := by
  go_enter Try.func47, Try.ntmps47
  go_wp2
  refine bodyPost_ret (v := .tuple #[.agg #[.int .u8 2, .int .i64 0], .bool true]) (by simp [results, Try.results47, go_sem]) rfl ⟨rfl, ?_⟩
  repeat (first | exact Below.refl _ _ | (refine Below.alloc ?_ (by first | exact Nat.le_refl _ | (simp; done) | (simp; omega)) _) | (refine Below.setCell ?_ (by first | exact Nat.le_refl _ | (simp; done) | (simp; omega)) _))
theorem w47_139 : Calls Try.prog 47 #[.agg #[.int .i64 a0, .int .u8 139, .int .i64 a2, .int .u8 a3, .int .u16 a4, .int .i64 a5, .int .i64 a6, .slice A7 n7 c7, .slice A8 n8 c8, .int .u16 a9]] w fun e w' => e = .returned (.tuple #[.agg #[.int .u8 3, .int .i64 0], .bool true]) ∧ Below w.heap.size w w' := by
  go_enter Try.func47, Try.ntmps47
  go_wp2
  refine bodyPost_ret (v := .tuple #[.agg #[.int .u8 3, .int .i64 0], .bool true]) (by simp [results, Try.results47, go_sem]) rfl ⟨rfl, ?_⟩
  repeat (first | exact Below.refl _ _ | (refine Below.alloc ?_ (by first | exact Nat.le_refl _ | (simp; done) | (simp; omega)) _) | (refine Below.setCell ?_ (by first | exact Nat.le_refl _ | (simp; done) | (simp; omega)) _))
theorem w47_140 : Calls Try.prog 47 #[.agg #[.int .i64 a0, .int .u8 140, .int .i64 a2, .int .u8 a3, .int .u16 a4, .int .i64 a5, .int .i64 a6, .slice A7 n7 c7, .slice A8 n8 c8, .int .u16 a9]] w fun e w' => e = .returned (.tuple #[.agg #[.int .u8 4, .int .i64 0], .bool true]) ∧ Below w.heap.size w w' := by
  go_enter Try.func47, Try.ntmps47
  go_wp2
  refine bodyPost_ret (v := .tuple #[.agg #[.int .u8 4, .int .i64 0], .bool true]) (by simp [results, Try.results47, go_sem]) rfl ⟨rfl, ?_⟩
  repeat (first | exact Below.refl _ _ | (refine Below.alloc ?_ (by first | exact Nat.le_refl _ | (simp; done) | (simp; omega)) _) | (refine Below.setCell ?_ (by first | exact Nat.le_refl _ | (simp; done) | (simp; omega)) _))
theorem w47_147 : Calls Try.prog 47 #[.agg #[.int .i64 a0, .int .u8 147, .int .i64 a2, .int .u8 a3, .int .u16 a4, .int .i64 a5, .int .i64 a6, .slice A7 n7 c7, .slice A8 n8 c8, .int .u16 a9]] w fun e w' => e = .returned (.tuple #[.agg #[.int .u8 5, .int .i64 0], .bool true]) ∧ Below w.heap.size w w' := by
  go_enter Try.func47, Try.ntmps47
  go_wp2
  refine bodyPost_ret (v := .tuple #[.agg #[.int .u8 5, .int .i64 0], .bool true]) (by simp [results, Try.results47, go_sem]) rfl ⟨rfl, ?_⟩
  repeat (first | exact Below.refl _ _ | (refine Below.alloc ?_ (by first | exact Nat.le_refl _ | (simp; done) | (simp; omega)) _) | (refine Below.setCell ?_ (by first | exact Nat.le_refl _ | (simp; done) | (simp; omega)) _))
theorem w47_142 : Calls Try.prog 47 #[.agg #[.int .i64 a0, .int .u8 142, .int .i64 a2, .int .u8 a3, .int .u16 a4, .int .i64 a5, .int .i64 a6, .slice A7 n7 c7, .slice A8 n8 c8, .int .u16 a9]] w fun e w' => e = .returned (.tuple #[.agg #[.int .u8 6, .int .i64 a5], .bool true]) ∧ Below w.heap.size w w' := by
  go_enter Try.func47, Try.ntmps47
  go_wp2
  refine bodyPost_ret (v := .tuple #[.agg #[.int .u8 6, .int .i64 a5], .bool true]) (by simp [results, Try.results47, go_sem]) rfl ⟨rfl, ?_⟩
  repeat (first | exact Below.refl _ _ | (refine Below.alloc ?_ (by first | exact Nat.le_refl _ | (simp; done) | (simp; omega)) _) | (refine Below.setCell ?_ (by first | exact Nat.le_refl _ | (simp; done) | (simp; omega)) _))
theorem w47_148y (h : a2 = 0) : Calls Try.prog 47 #[.agg #[.int .i64 a0, .int .u8 148, .int .i64 a2, .int .u8 a3, .int .u16 a4, .int .i64 a5, .int .i64 a6, .slice A7 n7 c7, .slice A8 n8 c8, .int .u16 a9]] w fun e w' => e = .returned (.tuple #[.agg #[.int .u8 7, .int .i64 a5], .bool true]) ∧ Below w.heap.size w w' := by
  subst h
  go_enter Try.func47, Try.ntmps47
  go_wp2
  refine bodyPost_ret (v := .tuple #[.agg #[.int .u8 7, .int .i64 a5], .bool true]) (by simp [results, Try.results47, go_sem]) rfl ⟨rfl, ?_⟩
  repeat (first | exact Below.refl _ _ | (refine Below.alloc ?_ (by first | exact Nat.le_refl _ | (simp; done) | (simp; omega)) _) | (refine Below.setCell ?_ (by first | exact Nat.le_refl _ | (simp; done) | (simp; omega)) _))
theorem w47_148n (h : a2 ≠ 0) : Calls Try.prog 47 #[.agg #[.int .i64 a0, .int .u8 148, .int .i64 a2, .int .u8 a3, .int .u16 a4, .int .i64 a5, .int .i64 a6, .slice A7 n7 c7, .slice A8 n8 c8, .int .u16 a9]] w fun e w' => e = .returned (.tuple #[.agg #[.int .u8 7, .int .i64 (-1)], .bool true]) ∧ Below w.heap.size w w' := by
  have h1 : (a2 == 0) = false := beq_eq_false_iff_ne.mpr h
  have h2 : (a2 != 0) = true := bne_iff_ne.mpr h
  go_enter Try.func47, Try.ntmps47
  go_wp2
  refine bodyPost_ret (v := .tuple #[.agg #[.int .u8 7, .int .i64 (-1)], .bool true]) (by simp [results, Try.results47, go_sem]) rfl ⟨rfl, ?_⟩
  repeat (first | exact Below.refl _ _ | (refine Below.alloc ?_ (by first | exact Nat.le_refl _ | (simp; done) | (simp; omega)) _) | (refine Below.setCell ?_ (by first | exact Nat.le_refl _ | (simp; done) | (simp; omega)) _))
theorem w47_149y (h : a2 = 0) : Calls Try.prog 47 #[.agg #[.int .i64 a0, .int .u8 149, .int .i64 a2, .int .u8 a3, .int .u16 a4, .int .i64 a5, .int .i64 a6, .slice A7 n7 c7, .slice A8 n8 c8, .int .u16 a9]] w fun e w' => e = .returned (.tuple #[.agg #[.int .u8 7, .int .i64 a5], .bool true]) ∧ Below w.heap.size w w' := by
  subst h
  go_enter Try.func47, Try.ntmps47
  go_wp2
  refine bodyPost_ret (v := .tuple #[.agg #[.int .u8 7, .int .i64 a5], .bool true]) (by simp [results, Try.results47, go_sem]) rfl ⟨rfl, ?_⟩
  repeat (first | exact Below.refl _ _ | (refine Below.alloc ?_ (by first | exact Nat.le_refl _ | (simp; done) | (simp; omega)) _) | (refine Below.setCell ?_ (by first | exact Nat.le_refl _ | (simp; done) | (simp; omega)) _))
theorem w47_149n (h : a2 ≠ 0) : Calls Try.prog 47 #[.agg #[.int .i64 a0, .int .u8 149, .int .i64 a2, .int .u8 a3, .int .u16 a4, .int .i64 a5, .int .i64 a6, .slice A7 n7 c7, .slice A8 n8 c8, .int .u16 a9]] w fun e w' => e = .returned (.tuple #[.agg #[.int .u8 7, .int .i64 (-1)], .bool true]) ∧ Below w.heap.size w w' := by
  have h1 : (a2 == 0) = false := beq_eq_false_iff_ne.mpr h
  have h2 : (a2 != 0) = true := bne_iff_ne.mpr h
  go_enter Try.func47, Try.ntmps47
  go_wp2
  refine bodyPost_ret (v := .tuple #[.agg #[.int .u8 7, .int .i64 (-1)], .bool true]) (by simp [results, Try.results47, go_sem]) rfl ⟨rfl, ?_⟩
  repeat (first | exact Below.refl _ _ | (refine Below.alloc ?_ (by first | exact Nat.le_refl _ | (simp; done) | (simp; omega)) _) | (refine Below.setCell ?_ (by first | exact Nat.le_refl _ | (simp; done) | (simp; omega)) _))
theorem w47_g0 (o : Int) (h : o ≤ 35) : Calls Try.prog 47 #[.agg #[.int .i64 a0, .int .u8 o, .int .i64 a2, .int .u8 a3, .int .u16 a4, .int .i64 a5, .int .i64 a6, .slice A7 n7 c7, .slice A8 n8 c8, .int .u16 a9]] w fun e w' => e = .returned (.tuple #[.agg #[.int .u8 0, .int .i64 0], .bool false]) ∧ Below w.heap.size w w' := by
  have hg131 : decide (131 ≤ o) = false := by simp; omega
  have hg135 : decide (135 ≤ o) = false := by simp; omega
  have hg36 : decide (36 ≤ o) = false := by simp; omega
  have hg55 : decide (55 ≤ o) = false := by simp; omega
  have hl133 : decide (o ≤ 133) = true := by simp; omega
  have hl137 : decide (o ≤ 137) = true := by simp; omega
  have hl38 : decide (o ≤ 38) = true := by simp; omega
  have hl57 : decide (o ≤ 57) = true := by simp; omega
  have he131 : (o == 131) = false := by simp; omega
  have hn131 : (o != 131) = true := by simp; omega
  have he132 : (o == 132) = false := by simp; omega
  have hn132 : (o != 132) = true := by simp; omega
  have he133 : (o == 133) = false := by simp; omega
  have hn133 : (o != 133) = true := by simp; omega
  have he135 : (o == 135) = false := by simp; omega
  have hn135 : (o != 135) = true := by simp; omega
  have he136 : (o == 136) = false := by simp; omega
  have hn136 : (o != 136) = true := by simp; omega
  have he137 : (o == 137) = false := by simp; omega
  have hn137 : (o != 137) = true := by simp; omega
  have he36 : (o == 36) = false := by simp; omega
  have hn36 : (o != 36) = true := by simp; omega
  have he37 : (o == 37) = false := by simp; omega
  have hn37 : (o != 37) = true := by simp; omega
  have he38 : (o == 38) = false := by simp; omega
  have hn38 : (o != 38) = true := by simp; omega
  have he55 : (o == 55) = false := by simp; omega
  have hn55 : (o != 55) = true := by simp; omega
  have he56 : (o == 56) = false := by simp; omega
  have hn56 : (o != 56) = true := by simp; omega
  have he57 : (o == 57) = false := by simp; omega
  have hn57 : (o != 57) = true := by simp; omega
  have he146 : (o == 146) = false := by simp; omega
  have hn146 : (o != 146) = true := by simp; omega
  have he139 : (o == 139) = false := by simp; omega
  have hn139 : (o != 139) = true := by simp; omega
  have he140 : (o == 140) = false := by simp; omega
  have hn140 : (o != 140) = true := by simp; omega
  have he147 : (o == 147) = false := by simp; omega
  have hn147 : (o != 147) = true := by simp; omega
  have he142 : (o == 142) = false := by simp; omega
  have hn142 : (o != 142) = true := by simp; omega
  have he148 : (o == 148) = false := by simp; omega
  have hn148 : (o != 148) = true := by simp; omega
  have he149 : (o == 149) = false := by simp; omega
  have hn149 : (o != 149) = true := by simp; omega
  clear h
  go_enter Try.func47, Try.ntmps47
  go_wp2
  refine bodyPost_ret (v := .tuple #[.agg #[.int .u8 0, .int .i64 0], .bool false]) (by simp [results, Try.results47, go_sem]) rfl ⟨rfl, ?_⟩
  repeat (first | exact Below.refl _ _ | (refine Below.alloc ?_ (by first | exact Nat.le_refl _ | (simp; done) | (simp; omega)) _) | (refine Below.setCell ?_ (by first | exact Nat.le_refl _ | (simp; done) | (simp; omega)) _))
theorem w47_g39 (o : Int) (h : 39 ≤ o ∧ o ≤ 54) : Calls Try.prog 47 #[.agg #[.int .i64 a0, .int .u8 o, .int .i64 a2, .int .u8 a3, .int .u16 a4, .int .i64 a5, .int .i64 a6, .slice A7 n7 c7, .slice A8 n8 c8, .int .u16 a9]] w fun e w' => e = .returned (.tuple #[.agg #[.int .u8 0, .int .i64 0], .bool false]) ∧ Below w.heap.size w w' := by
  have hg131 : decide (131 ≤ o) = false := by simp; omega
  have hg135 : decide (135 ≤ o) = false := by simp; omega
  have hg36 : decide (36 ≤ o) = true := by simp; omega
  have hg55 : decide (55 ≤ o) = false := by simp; omega
  have hl133 : decide (o ≤ 133) = true := by simp; omega
  have hl137 : decide (o ≤ 137) = true := by simp; omega
  have hl38 : decide (o ≤ 38) = false := by simp; omega
  have hl57 : decide (o ≤ 57) = true := by simp; omega
  have he131 : (o == 131) = false := by simp; omega
  have hn131 : (o != 131) = true := by simp; omega
  have he132 : (o == 132) = false := by simp; omega
  have hn132 : (o != 132) = true := by simp; omega
  have he133 : (o == 133) = false := by simp; omega
  have hn133 : (o != 133) = true := by simp; omega
  have he135 : (o == 135) = false := by simp; omega
  have hn135 : (o != 135) = true := by simp; omega
  have he136 : (o == 136) = false := by simp; omega
  have hn136 : (o != 136) = true := by simp; omega
  have he137 : (o == 137) = false := by simp; omega
  have hn137 : (o != 137) = true := by simp; omega
  have he36 : (o == 36) = false := by simp; omega
  have hn36 : (o != 36) = true := by simp; omega
  have he37 : (o == 37) = false := by simp; omega
  have hn37 : (o != 37) = true := by simp; omega
  have he38 : (o == 38) = false := by simp; omega
  have hn38 : (o != 38) = true := by simp; omega
  have he55 : (o == 55) = false := by simp; omega
  have hn55 : (o != 55) = true := by simp; omega
  have he56 : (o == 56) = false := by simp; omega
  have hn56 : (o != 56) = true := by simp; omega
  have he57 : (o == 57) = false := by simp; omega
  have hn57 : (o != 57) = true := by simp; omega
  have he146 : (o == 146) = false := by simp; omega
  have hn146 : (o != 146) = true := by simp; omega
  have he139 : (o == 139) = false := by simp; omega
  have hn139 : (o != 139) = true := by simp; omega
  have he140 : (o == 140) = false := by simp; omega
  have hn140 : (o != 140) = true := by simp; omega
  have he147 : (o == 147) = false := by simp; omega
  have hn147 : (o != 147) = true := by simp; omega
  have he142 : (o == 142) = false := by simp; omega
  have hn142 : (o != 142) = true := by simp; omega
  have he148 : (o == 148) = false := by simp; omega
  have hn148 : (o != 148) = true := by simp; omega
  have he149 : (o == 149) = false := by simp; omega
  have hn149 : (o != 149) = true := by simp; omega
  clear h
  go_enter Try.func47, Try.ntmps47
  go_wp2
  refine bodyPost_ret (v := .tuple #[.agg #[.int .u8 0, .int .i64 0], .bool false]) (by simp [results, Try.results47, go_sem]) rfl ⟨rfl, ?_⟩
  repeat (first | exact Below.refl _ _ | (refine Below.alloc ?_ (by first | exact Nat.le_refl _ | (simp; done) | (simp; omega)) _) | (refine Below.setCell ?_ (by first | exact Nat.le_refl _ | (simp; done) | (simp; omega)) _))
theorem w47_g58 (o : Int) (h : 58 ≤ o ∧ o ≤ 130) : Calls Try.prog 47 #[.agg #[.int .i64 a0, .int .u8 o, .int .i64 a2, .int .u8 a3, .int .u16 a4, .int .i64 a5, .int .i64 a6, .slice A7 n7 c7, .slice A8 n8 c8, .int .u16 a9]] w fun e w' => e = .returned (.tuple #[.agg #[.int .u8 0, .int .i64 0], .bool false]) ∧ Below w.heap.size w w' := by
  have hg131 : decide (131 ≤ o) = false := by simp; omega
  have hg135 : decide (135 ≤ o) = false := by simp; omega
  have hg36 : decide (36 ≤ o) = true := by simp; omega
  have hg55 : decide (55 ≤ o) = true := by simp; omega
  have hl133 : decide (o ≤ 133) = true := by simp; omega
  have hl137 : decide (o ≤ 137) = true := by simp; omega
  have hl38 : decide (o ≤ 38) = false := by simp; omega
  have hl57 : decide (o ≤ 57) = false := by simp; omega
  have he131 : (o == 131) = false := by simp; omega
  have hn131 : (o != 131) = true := by simp; omega
  have he132 : (o == 132) = false := by simp; omega
  have hn132 : (o != 132) = true := by simp; omega
  have he133 : (o == 133) = false := by simp; omega
  have hn133 : (o != 133) = true := by simp; omega
  have he135 : (o == 135) = false := by simp; omega
  have hn135 : (o != 135) = true := by simp; omega
  have he136 : (o == 136) = false := by simp; omega
  have hn136 : (o != 136) = true := by simp; omega
  have he137 : (o == 137) = false := by simp; omega
  have hn137 : (o != 137) = true := by simp; omega
  have he36 : (o == 36) = false := by simp; omega
  have hn36 : (o != 36) = true := by simp; omega
  have he37 : (o == 37) = false := by simp; omega
  have hn37 : (o != 37) = true := by simp; omega
  have he38 : (o == 38) = false := by simp; omega
  have hn38 : (o != 38) = true := by simp; omega
  have he55 : (o == 55) = false := by simp; omega
  have hn55 : (o != 55) = true := by simp; omega
  have he56 : (o == 56) = false := by simp; omega
  have hn56 : (o != 56) = true := by simp; omega
  have he57 : (o == 57) = false := by simp; omega
  have hn57 : (o != 57) = true := by simp; omega
  have he146 : (o == 146) = false := by simp; omega
  have hn146 : (o != 146) = true := by simp; omega
  have he139 : (o == 139) = false := by simp; omega
  have hn139 : (o != 139) = true := by simp; omega
  have he140 : (o == 140) = false := by simp; omega
  have hn140 : (o != 140) = true := by simp; omega
  have he147 : (o == 147) = false := by simp; omega
  have hn147 : (o != 147) = true := by simp; omega
  have he142 : (o == 142) = false := by simp; omega
  have hn142 : (o != 142) = true := by simp; omega
  have he148 : (o == 148) = false := by simp; omega
  have hn148 : (o != 148) = true := by simp; omega
  have he149 : (o == 149) = false := by simp; omega
  have hn149 : (o != 149) = true := by simp; omega
  clear h
  go_enter Try.func47, Try.ntmps47
  go_wp2
  refine bodyPost_ret (v := .tuple #[.agg #[.int .u8 0, .int .i64 0], .bool false]) (by simp [results, Try.results47, go_sem]) rfl ⟨rfl, ?_⟩
  repeat (first | exact Below.refl _ _ | (refine Below.alloc ?_ (by first | exact Nat.le_refl _ | (simp; done) | (simp; omega)) _) | (refine Below.setCell ?_ (by first | exact Nat.le_refl _ | (simp; done) | (simp; omega)) _))
theorem w47_g134 (o : Int) (h : 134 ≤ o ∧ o ≤ 134) : Calls Try.prog 47 #[.agg #[.int .i64 a0, .int .u8 o, .int .i64 a2, .int .u8 a3, .int .u16 a4, .int .i64 a5, .int .i64 a6, .slice A7 n7 c7, .slice A8 n8 c8, .int .u16 a9]] w fun e w' => e = .returned (.tuple #[.agg #[.int .u8 0, .int .i64 0], .bool false]) ∧ Below w.heap.size w w' := by
  have hg131 : decide (131 ≤ o) = true := by simp; omega
  have hg135 : decide (135 ≤ o) = false := by simp; omega
  have hg36 : decide (36 ≤ o) = true := by simp; omega
  have hg55 : decide (55 ≤ o) = true := by simp; omega
  have hl133 : decide (o ≤ 133) = false := by simp; omega
  have hl137 : decide (o ≤ 137) = true := by simp; omega
  have hl38 : decide (o ≤ 38) = false := by simp; omega
  have hl57 : decide (o ≤ 57) = false := by simp; omega
  have he131 : (o == 131) = false := by simp; omega
  have hn131 : (o != 131) = true := by simp; omega
  have he132 : (o == 132) = false := by simp; omega
  have hn132 : (o != 132) = true := by simp; omega
  have he133 : (o == 133) = false := by simp; omega
  have hn133 : (o != 133) = true := by simp; omega
  have he135 : (o == 135) = false := by simp; omega
  have hn135 : (o != 135) = true := by simp; omega
  have he136 : (o == 136) = false := by simp; omega
  have hn136 : (o != 136) = true := by simp; omega
  have he137 : (o == 137) = false := by simp; omega
  have hn137 : (o != 137) = true := by simp; omega
  have he36 : (o == 36) = false := by simp; omega
  have hn36 : (o != 36) = true := by simp; omega
  have he37 : (o == 37) = false := by simp; omega
  have hn37 : (o != 37) = true := by simp; omega
  have he38 : (o == 38) = false := by simp; omega
  have hn38 : (o != 38) = true := by simp; omega
  have he55 : (o == 55) = false := by simp; omega
  have hn55 : (o != 55) = true := by simp; omega
  have he56 : (o == 56) = false := by simp; omega
  have hn56 : (o != 56) = true := by simp; omega
  have he57 : (o == 57) = false := by simp; omega
  have hn57 : (o != 57) = true := by simp; omega
  have he146 : (o == 146) = false := by simp; omega
  have hn146 : (o != 146) = true := by simp; omega
  have he139 : (o == 139) = false := by simp; omega
  have hn139 : (o != 139) = true := by simp; omega
  have he140 : (o == 140) = false := by simp; omega
  have hn140 : (o != 140) = true := by simp; omega
  have he147 : (o == 147) = false := by simp; omega
  have hn147 : (o != 147) = true := by simp; omega
  have he142 : (o == 142) = false := by simp; omega
  have hn142 : (o != 142) = true := by simp; omega
  have he148 : (o == 148) = false := by simp; omega
  have hn148 : (o != 148) = true := by simp; omega
  have he149 : (o == 149) = false := by simp; omega
  have hn149 : (o != 149) = true := by simp; omega
  clear h
  go_enter Try.func47, Try.ntmps47
  go_wp2
  refine bodyPost_ret (v := .tuple #[.agg #[.int .u8 0, .int .i64 0], .bool false]) (by simp [results, Try.results47, go_sem]) rfl ⟨rfl, ?_⟩
  repeat (first | exact Below.refl _ _ | (refine Below.alloc ?_ (by first | exact Nat.le_refl _ | (simp; done) | (simp; omega)) _) | (refine Below.setCell ?_ (by first | exact Nat.le_refl _ | (simp; done) | (simp; omega)) _))
theorem w47_g138 (o : Int) (h : 138 ≤ o ∧ o ≤ 138) : Calls Try.prog 47 #[.agg #[.int .i64 a0, .int .u8 o, .int .i64 a2, .int .u8 a3, .int .u16 a4, .int .i64 a5, .int .i64 a6, .slice A7 n7 c7, .slice A8 n8 c8, .int .u16 a9]] w fun e w' => e = .returned (.tuple #[.agg #[.int .u8 0, .int .i64 0], .bool false]) ∧ Below w.heap.size w w' := by
  have hg131 : decide (131 ≤ o) = true := by simp; omega
  have hg135 : decide (135 ≤ o) = true := by simp; omega
  have hg36 : decide (36 ≤ o) = true := by simp; omega
  have hg55 : decide (55 ≤ o) = true := by simp; omega
  have hl133 : decide (o ≤ 133) = false := by simp; omega
  have hl137 : decide (o ≤ 137) = false := by simp; omega
  have hl38 : decide (o ≤ 38) = false := by simp; omega
  have hl57 : decide (o ≤ 57) = false := by simp; omega
  have he131 : (o == 131) = false := by simp; omega
  have hn131 : (o != 131) = true := by simp; omega
  have he132 : (o == 132) = false := by simp; omega
  have hn132 : (o != 132) = true := by simp; omega
  have he133 : (o == 133) = false := by simp; omega
  have hn133 : (o != 133) = true := by simp; omega
  have he135 : (o == 135) = false := by simp; omega
  have hn135 : (o != 135) = true := by simp; omega
  have he136 : (o == 136) = false := by simp; omega
  have hn136 : (o != 136) = true := by simp; omega
  have he137 : (o == 137) = false := by simp; omega
  have hn137 : (o != 137) = true := by simp; omega
  have he36 : (o == 36) = false := by simp; omega
  have hn36 : (o != 36) = true := by simp; omega
  have he37 : (o == 37) = false := by simp; omega
  have hn37 : (o != 37) = true := by simp; omega
  have he38 : (o == 38) = false := by simp; omega
  have hn38 : (o != 38) = true := by simp; omega
  have he55 : (o == 55) = false := by simp; omega
  have hn55 : (o != 55) = true := by simp; omega
  have he56 : (o == 56) = false := by simp; omega
  have hn56 : (o != 56) = true := by simp; omega
  have he57 : (o == 57) = false := by simp; omega
  have hn57 : (o != 57) = true := by simp; omega
  have he146 : (o == 146) = false := by simp; omega
  have hn146 : (o != 146) = true := by simp; omega
  have he139 : (o == 139) = false := by simp; omega
  have hn139 : (o != 139) = true := by simp; omega
  have he140 : (o == 140) = false := by simp; omega
  have hn140 : (o != 140) = true := by simp; omega
  have he147 : (o == 147) = false := by simp; omega
  have hn147 : (o != 147) = true := by simp; omega
  have he142 : (o == 142) = false := by simp; omega
  have hn142 : (o != 142) = true := by simp; omega
  have he148 : (o == 148) = false := by simp; omega
  have hn148 : (o != 148) = true := by simp; omega
  have he149 : (o == 149) = false := by simp; omega
  have hn149 : (o != 149) = true := by simp; omega
  clear h
  go_enter Try.func47, Try.ntmps47
  go_wp2
  refine bodyPost_ret (v := .tuple #[.agg #[.int .u8 0, .int .i64 0], .bool false]) (by simp [results, Try.results47, go_sem]) rfl ⟨rfl, ?_⟩
  repeat (first | exact Below.refl _ _ | (refine Below.alloc ?_ (by first | exact Nat.le_refl _ | (simp; done) | (simp; omega)) _) | (refine Below.setCell ?_ (by first | exact Nat.le_refl _ | (simp; done) | (simp; omega)) _))
theorem w47_g141 (o : Int) (h : 141 ≤ o ∧ o ≤ 141) : Calls Try.prog 47 #[.agg #[.int .i64 a0, .int .u8 o, .int .i64 a2, .int .u8 a3, .int .u16 a4, .int .i64 a5, .int .i64 a6, .slice A7 n7 c7, .slice A8 n8 c8, .int .u16 a9]] w fun e w' => e = .returned (.tuple #[.agg #[.int .u8 0, .int .i64 0], .bool false]) ∧ Below w.heap.size w w' := by
  have hg131 : decide (131 ≤ o) = true := by simp; omega
  have hg135 : decide (135 ≤ o) = true := by simp; omega
  have hg36 : decide (36 ≤ o) = true := by simp; omega
  have hg55 : decide (55 ≤ o) = true := by simp; omega
  have hl133 : decide (o ≤ 133) = false := by simp; omega
  have hl137 : decide (o ≤ 137) = false := by simp; omega
  have hl38 : decide (o ≤ 38) = false := by simp; omega
  have hl57 : decide (o ≤ 57) = false := by simp; omega
  have he131 : (o == 131) = false := by simp; omega
  have hn131 : (o != 131) = true := by simp; omega
  have he132 : (o == 132) = false := by simp; omega
  have hn132 : (o != 132) = true := by simp; omega
  have he133 : (o == 133) = false := by simp; omega
  have hn133 : (o != 133) = true := by simp; omega
  have he135 : (o == 135) = false := by simp; omega
  have hn135 : (o != 135) = true := by simp; omega
  have he136 : (o == 136) = false := by simp; omega
  have hn136 : (o != 136) = true := by simp; omega
  have he137 : (o == 137) = false := by simp; omega
  have hn137 : (o != 137) = true := by simp; omega
  have he36 : (o == 36) = false := by simp; omega
  have hn36 : (o != 36) = true := by simp; omega
  have he37 : (o == 37) = false := by simp; omega
  have hn37 : (o != 37) = true := by simp; omega
  have he38 : (o == 38) = false := by simp; omega
  have hn38 : (o != 38) = true := by simp; omega
  have he55 : (o == 55) = false := by simp; omega
  have hn55 : (o != 55) = true := by simp; omega
  have he56 : (o == 56) = false := by simp; omega
  have hn56 : (o != 56) = true := by simp; omega
  have he57 : (o == 57) = false := by simp; omega
  have hn57 : (o != 57) = true := by simp; omega
  have he146 : (o == 146) = false := by simp; omega
  have hn146 : (o != 146) = true := by simp; omega
  have he139 : (o == 139) = false := by simp; omega
  have hn139 : (o != 139) = true := by simp; omega
  have he140 : (o == 140) = false := by simp; omega
  have hn140 : (o != 140) = true := by simp; omega
  have he147 : (o == 147) = false := by simp; omega
  have hn147 : (o != 147) = true := by simp; omega
  have he142 : (o == 142) = false := by simp; omega
  have hn142 : (o != 142) = true := by simp; omega
  have he148 : (o == 148) = false := by simp; omega
  have hn148 : (o != 148) = true := by simp; omega
  have he149 : (o == 149) = false := by simp; omega
  have hn149 : (o != 149) = true := by simp; omega
  clear h
  go_enter Try.func47, Try.ntmps47
  go_wp2
  refine bodyPost_ret (v := .tuple #[.agg #[.int .u8 0, .int .i64 0], .bool false]) (by simp [results, Try.results47, go_sem]) rfl ⟨rfl, ?_⟩
  repeat (first | exact Below.refl _ _ | (refine Below.alloc ?_ (by first | exact Nat.le_refl _ | (simp; done) | (simp; omega)) _) | (refine Below.setCell ?_ (by first | exact Nat.le_refl _ | (simp; done) | (simp; omega)) _))
theorem w47_g143 (o : Int) (h : 143 ≤ o ∧ o ≤ 145) : Calls Try.prog 47 #[.agg #[.int .i64 a0, .int .u8 o, .int .i64 a2, .int .u8 a3, .int .u16 a4, .int .i64 a5, .int .i64 a6, .slice A7 n7 c7, .slice A8 n8 c8, .int .u16 a9]] w fun e w' => e = .returned (.tuple #[.agg #[.int .u8 0, .int .i64 0], .bool false]) ∧ Below w.heap.size w w' := by
  have hg131 : decide (131 ≤ o) = true := by simp; omega
  have hg135 : decide (135 ≤ o) = true := by simp; omega
  have hg36 : decide (36 ≤ o) = true := by simp; omega
  have hg55 : decide (55 ≤ o) = true := by simp; omega
  have hl133 : decide (o ≤ 133) = false := by simp; omega
  have hl137 : decide (o ≤ 137) = false := by simp; omega
  have hl38 : decide (o ≤ 38) = false := by simp; omega
  have hl57 : decide (o ≤ 57) = false := by simp; omega
  have he131 : (o == 131) = false := by simp; omega
  have hn131 : (o != 131) = true := by simp; omega
  have he132 : (o == 132) = false := by simp; omega
  have hn132 : (o != 132) = true := by simp; omega
  have he133 : (o == 133) = false := by simp; omega
  have hn133 : (o != 133) = true := by simp; omega
  have he135 : (o == 135) = false := by simp; omega
  have hn135 : (o != 135) = true := by simp; omega
  have he136 : (o == 136) = false := by simp; omega
  have hn136 : (o != 136) = true := by simp; omega
  have he137 : (o == 137) = false := by simp; omega
  have hn137 : (o != 137) = true := by simp; omega
  have he36 : (o == 36) = false := by simp; omega
  have hn36 : (o != 36) = true := by simp; omega
  have he37 : (o == 37) = false := by simp; omega
  have hn37 : (o != 37) = true := by simp; omega
  have he38 : (o == 38) = false := by simp; omega
  have hn38 : (o != 38) = true := by simp; omega
  have he55 : (o == 55) = false := by simp; omega
  have hn55 : (o != 55) = true := by simp; omega
  have he56 : (o == 56) = false := by simp; omega
  have hn56 : (o != 56) = true := by simp; omega
  have he57 : (o == 57) = false := by simp; omega
  have hn57 : (o != 57) = true := by simp; omega
  have he146 : (o == 146) = false := by simp; omega
  have hn146 : (o != 146) = true := by simp; omega
  have he139 : (o == 139) = false := by simp; omega
  have hn139 : (o != 139) = true := by simp; omega
  have he140 : (o == 140) = false := by simp; omega
  have hn140 : (o != 140) = true := by simp; omega
  have he147 : (o == 147) = false := by simp; omega
  have hn147 : (o != 147) = true := by simp; omega
  have he142 : (o == 142) = false := by simp; omega
  have hn142 : (o != 142) = true := by simp; omega
  have he148 : (o == 148) = false := by simp; omega
  have hn148 : (o != 148) = true := by simp; omega
  have he149 : (o == 149) = false := by simp; omega
  have hn149 : (o != 149) = true := by simp; omega
  clear h
  go_enter Try.func47, Try.ntmps47
  go_wp2
  refine bodyPost_ret (v := .tuple #[.agg #[.int .u8 0, .int .i64 0], .bool false]) (by simp [results, Try.results47, go_sem]) rfl ⟨rfl, ?_⟩
  repeat (first | exact Below.refl _ _ | (refine Below.alloc ?_ (by first | exact Nat.le_refl _ | (simp; done) | (simp; omega)) _) | (refine Below.setCell ?_ (by first | exact Nat.le_refl _ | (simp; done) | (simp; omega)) _))
theorem w47_g150 (o : Int) (h : 150 ≤ o) : Calls Try.prog 47 #[.agg #[.int .i64 a0, .int .u8 o, .int .i64 a2, .int .u8 a3, .int .u16 a4, .int .i64 a5, .int .i64 a6, .slice A7 n7 c7, .slice A8 n8 c8, .int .u16 a9]] w fun e w' => e = .returned (.tuple #[.agg #[.int .u8 0, .int .i64 0], .bool false]) ∧ Below w.heap.size w w' := by
  have hg131 : decide (131 ≤ o) = true := by simp; omega
  have hg135 : decide (135 ≤ o) = true := by simp; omega
  have hg36 : decide (36 ≤ o) = true := by simp; omega
  have hg55 : decide (55 ≤ o) = true := by simp; omega
  have hl133 : decide (o ≤ 133) = false := by simp; omega
  have hl137 : decide (o ≤ 137) = false := by simp; omega
  have hl38 : decide (o ≤ 38) = false := by simp; omega
  have hl57 : decide (o ≤ 57) = false := by simp; omega
  have he131 : (o == 131) = false := by simp; omega
  have hn131 : (o != 131) = true := by simp; omega
  have he132 : (o == 132) = false := by simp; omega
  have hn132 : (o != 132) = true := by simp; omega
  have he133 : (o == 133) = false := by simp; omega
  have hn133 : (o != 133) = true := by simp; omega
  have he135 : (o == 135) = false := by simp; omega
  have hn135 : (o != 135) = true := by simp; omega
  have he136 : (o == 136) = false := by simp; omega
  have hn136 : (o != 136) = true := by simp; omega
  have he137 : (o == 137) = false := by simp; omega
  have hn137 : (o != 137) = true := by simp; omega
  have he36 : (o == 36) = false := by simp; omega
  have hn36 : (o != 36) = true := by simp; omega
  have he37 : (o == 37) = false := by simp; omega
  have hn37 : (o != 37) = true := by simp; omega
  have he38 : (o == 38) = false := by simp; omega
  have hn38 : (o != 38) = true := by simp; omega
  have he55 : (o == 55) = false := by simp; omega
  have hn55 : (o != 55) = true := by simp; omega
  have he56 : (o == 56) = false := by simp; omega
  have hn56 : (o != 56) = true := by simp; omega
  have he57 : (o == 57) = false := by simp; omega
  have hn57 : (o != 57) = true := by simp; omega
  have he146 : (o == 146) = false := by simp; omega
  have hn146 : (o != 146) = true := by simp; omega
  have he139 : (o == 139) = false := by simp; omega
  have hn139 : (o != 139) = true := by simp; omega
  have he140 : (o == 140) = false := by simp; omega
  have hn140 : (o != 140) = true := by simp; omega
  have he147 : (o == 147) = false := by simp; omega
  have hn147 : (o != 147) = true := by simp; omega
  have he142 : (o == 142) = false := by simp; omega
  have hn142 : (o != 142) = true := by simp; omega
  have he148 : (o == 148) = false := by simp; omega
  have hn148 : (o != 148) = true := by simp; omega
  have he149 : (o == 149) = false := by simp; omega
  have hn149 : (o != 149) = true := by simp; omega
  clear h
  go_enter Try.func47, Try.ntmps47
  go_wp2
  refine bodyPost_ret (v := .tuple #[.agg #[.int .u8 0, .int .i64 0], .bool false]) (by simp [results, Try.results47, go_sem]) rfl ⟨rfl, ?_⟩
  repeat (first | exact Below.refl _ _ | (refine Below.alloc ?_ (by first | exact Nat.le_refl _ | (simp; done) | (simp; omega)) _) | (refine Below.setCell ?_ (by first | exact Nat.le_refl _ | (simp; done) | (simp; omega)) _))
theorem of47 (o : Int) (r1 r2 : Int) (r3 : Bool) (h : ans o a2 a5 = (r1, r2, r3)) : Calls Try.prog 47 #[.agg #[.int .i64 a0, .int .u8 o, .int .i64 a2, .int .u8 a3, .int .u16 a4, .int .i64 a5, .int .i64 a6, .slice A7 n7 c7, .slice A8 n8 c8, .int .u16 a9]] w fun e w' => e = .returned (.tuple #[.agg #[.int .u8 r1, .int .i64 r2], .bool r3]) ∧ Below w.heap.size w w' := by
  by_cases hk : o = 131 ∨ o = 132 ∨ o = 133 ∨ o = 135 ∨ o = 136 ∨ o = 137 ∨ o = 36 ∨ o = 37 ∨ o = 38 ∨ o = 55 ∨ o = 56 ∨ o = 57 ∨ o = 146 ∨ o = 139 ∨ o = 140 ∨ o = 147 ∨ o = 142
  · rcases hk with rfl | rfl | rfl | rfl | rfl | rfl | rfl | rfl | rfl | rfl | rfl | rfl | rfl | rfl | rfl | rfl | rfl
    · obtain ⟨rfl, rfl, rfl⟩ : (1 : Int) = r1 ∧ (0 : Int) = r2 ∧ true = r3 := by simpa [ans] using h
      exact w47_131 a0 a2 a3 a4 a5 a6 A7 n7 c7 A8 n8 c8 a9 w
    · obtain ⟨rfl, rfl, rfl⟩ : (1 : Int) = r1 ∧ (0 : Int) = r2 ∧ true = r3 := by simpa [ans] using h
      exact w47_132 a0 a2 a3 a4 a5 a6 A7 n7 c7 A8 n8 c8 a9 w
    · obtain ⟨rfl, rfl, rfl⟩ : (1 : Int) = r1 ∧ (0 : Int) = r2 ∧ true = r3 := by simpa [ans] using h
      exact w47_133 a0 a2 a3 a4 a5 a6 A7 n7 c7 A8 n8 c8 a9 w
    · obtain ⟨rfl, rfl, rfl⟩ : (1 : Int) = r1 ∧ (0 : Int) = r2 ∧ true = r3 := by simpa [ans] using h
      exact w47_135 a0 a2 a3 a4 a5 a6 A7 n7 c7 A8 n8 c8 a9 w
    · obtain ⟨rfl, rfl, rfl⟩ : (1 : Int) = r1 ∧ (0 : Int) = r2 ∧ true = r3 := by simpa [ans] using h
      exact w47_136 a0 a2 a3 a4 a5 a6 A7 n7 c7 A8 n8 c8 a9 w
    · obtain ⟨rfl, rfl, rfl⟩ : (1 : Int) = r1 ∧ (0 : Int) = r2 ∧ true = r3 := by simpa [ans] using h
      exact w47_137 a0 a2 a3 a4 a5 a6 A7 n7 c7 A8 n8 c8 a9 w
    · obtain ⟨rfl, rfl, rfl⟩ : (2 : Int) = r1 ∧ (0 : Int) = r2 ∧ true = r3 := by simpa [ans] using h
      exact w47_36 a0 a2 a3 a4 a5 a6 A7 n7 c7 A8 n8 c8 a9 w
    · obtain ⟨rfl, rfl, rfl⟩ : (2 : Int) = r1 ∧ (0 : Int) = r2 ∧ true = r3 := by simpa [ans] using h
      exact w47_37 a0 a2 a3 a4 a5 a6 A7 n7 c7 A8 n8 c8 a9 w
    · obtain ⟨rfl, rfl, rfl⟩ : (2 : Int) = r1 ∧ (0 : Int) = r2 ∧ true = r3 := by simpa [ans] using h
      exact w47_38 a0 a2 a3 a4 a5 a6 A7 n7 c7 A8 n8 c8 a9 w
    · obtain ⟨rfl, rfl, rfl⟩ : (2 : Int) = r1 ∧ (0 : Int) = r2 ∧ true = r3 := by simpa [ans] using h
      exact w47_55 a0 a2 a3 a4 a5 a6 A7 n7 c7 A8 n8 c8 a9 w
    · obtain ⟨rfl, rfl, rfl⟩ : (2 : Int) = r1 ∧ (0 : Int) = r2 ∧ true = r3 := by simpa [ans] using h
      exact w47_56 a0 a2 a3 a4 a5 a6 A7 n7 c7 A8 n8 c8 a9 w
    · obtain ⟨rfl, rfl, rfl⟩ : (2 : Int) = r1 ∧ (0 : Int) = r2 ∧ true = r3 := by simpa [ans] using h
      exact w47_57 a0 a2 a3 a4 a5 a6 A7 n7 c7 A8 n8 c8 a9 w
    · obtain ⟨rfl, rfl, rfl⟩ : (2 : Int) = r1 ∧ (0 : Int) = r2 ∧ true = r3 := by simpa [ans] using h
      exact w47_146 a0 a2 a3 a4 a5 a6 A7 n7 c7 A8 n8 c8 a9 w
    · obtain ⟨rfl, rfl, rfl⟩ : (3 : Int) = r1 ∧ (0 : Int) = r2 ∧ true = r3 := by simpa [ans] using h
      exact w47_139 a0 a2 a3 a4 a5 a6 A7 n7 c7 A8 n8 c8 a9 w
    · obtain ⟨rfl, rfl, rfl⟩ : (4 : Int) = r1 ∧ (0 : Int) = r2 ∧ true = r3 := by simpa [ans] using h
      exact w47_140 a0 a2 a3 a4 a5 a6 A7 n7 c7 A8 n8 c8 a9 w
    · obtain ⟨rfl, rfl, rfl⟩ : (5 : Int) = r1 ∧ (0 : Int) = r2 ∧ true = r3 := by simpa [ans] using h
      exact w47_147 a0 a2 a3 a4 a5 a6 A7 n7 c7 A8 n8 c8 a9 w
    · obtain ⟨rfl, rfl, rfl⟩ : (6 : Int) = r1 ∧ a5 = r2 ∧ true = r3 := by simpa [ans] using h
      exact w47_142 a0 a2 a3 a4 a5 a6 A7 n7 c7 A8 n8 c8 a9 w
  simp only [not_or] at hk
  by_cases h148 : o = 148
  · subst h148
    by_cases ha : a2 = 0
    · obtain ⟨rfl, rfl, rfl⟩ : (7 : Int) = r1 ∧ a5 = r2 ∧ true = r3 := by simpa [ans, ha] using h
      exact w47_148y a0 a2 a3 a4 a5 a6 A7 n7 c7 A8 n8 c8 a9 w ha
    · obtain ⟨rfl, rfl, rfl⟩ : (7 : Int) = r1 ∧ (-1 : Int) = r2 ∧ true = r3 := by simpa [ans, ha] using h
      exact w47_148n a0 a2 a3 a4 a5 a6 A7 n7 c7 A8 n8 c8 a9 w ha
  by_cases h149 : o = 149
  · subst h149
    by_cases ha : a2 = 0
    · obtain ⟨rfl, rfl, rfl⟩ : (7 : Int) = r1 ∧ a5 = r2 ∧ true = r3 := by simpa [ans, ha] using h
      exact w47_149y a0 a2 a3 a4 a5 a6 A7 n7 c7 A8 n8 c8 a9 w ha
    · obtain ⟨rfl, rfl, rfl⟩ : (7 : Int) = r1 ∧ (-1 : Int) = r2 ∧ true = r3 := by simpa [ans, ha] using h
      exact w47_149n a0 a2 a3 a4 a5 a6 A7 n7 c7 A8 n8 c8 a9 w ha
  have hz : ans o a2 a5 = (0, 0, false) := by
    unfold ans
    rw [if_neg (by omega), if_neg (by omega), if_neg (by omega), if_neg (by omega), if_neg (by omega), if_neg (by omega), if_neg (by omega)]
  rw [hz] at h
  obtain ⟨rfl, rfl, rfl⟩ : (0 : Int) = r1 ∧ (0 : Int) = r2 ∧ false = r3 := by simpa using h
  by_cases i0 : o ≤ 35
  · exact w47_g0 a0 a2 a3 a4 a5 a6 A7 n7 c7 A8 n8 c8 a9 w o i0
  by_cases i1 : 39 ≤ o ∧ o ≤ 54
  · exact w47_g39 a0 a2 a3 a4 a5 a6 A7 n7 c7 A8 n8 c8 a9 w o i1
  by_cases i2 : 58 ≤ o ∧ o ≤ 130
  · exact w47_g58 a0 a2 a3 a4 a5 a6 A7 n7 c7 A8 n8 c8 a9 w o i2
  by_cases i3 : 134 ≤ o ∧ o ≤ 134
  · exact w47_g134 a0 a2 a3 a4 a5 a6 A7 n7 c7 A8 n8 c8 a9 w o i3
  by_cases i4 : 138 ≤ o ∧ o ≤ 138
  · exact w47_g138 a0 a2 a3 a4 a5 a6 A7 n7 c7 A8 n8 c8 a9 w o i4
  by_cases i5 : 141 ≤ o ∧ o ≤ 141
  · exact w47_g141 a0 a2 a3 a4 a5 a6 A7 n7 c7 A8 n8 c8 a9 w o i5
  by_cases i6 : 143 ≤ o ∧ o ≤ 145
  · exact w47_g143 a0 a2 a3 a4 a5 a6 A7 n7 c7 A8 n8 c8 a9 w o i6
  exact w47_g150 a0 a2 a3 a4 a5 a6 A7 n7 c7 A8 n8 c8 a9 w o (by omega)
theorem w48_131 : Calls Try.prog 48 #[.agg #[.int .i64 a0, .int .u8 131, .int .i64 a2, .int .u8 a3, .int .u16 a4, .int .i64 a5, .int .i64 a6, .slice A7 n7 c7, .slice A8 n8 c8, .int .u16 a9]] w fun e w' => e = .returned (.tuple #[.agg #[.int .u8 1, .int .i64 0], .bool true]) ∧ Below w.heap.size w w' := by
  go_enter Try.func48, Try.ntmps48
  go_wp2
  refine bodyPost_ret (v := .tuple #[.agg #[.int .u8 1, .int .i64 0], .bool true]) (by simp [results, Try.results48, go_sem]) rfl ⟨rfl, ?_⟩
  repeat (first | exact Below.refl _ _ | (refine Below.alloc ?_ (by first | exact Nat.le_refl _ | (simp; done) | (simp; omega)) _) | (refine Below.setCell ?_ (by first | exact Nat.le_refl _ | (simp; done) | (simp; omega)) _))
theorem w48_132 : Calls Try.prog 48 #[.agg #[.int .i64 a0, .int .u8 132, .int .i64 a2, .int .u8 a3, .int .u16 a4, .int .i64 a5, .int .i64 a6, .slice A7 n7 c7, .slice A8 n8 c8, .int .u16 a9]] w fun e w' => e = .returned (.tuple #[.agg #[.int .u8 1, .int .i64 0], .bool true]) ∧ Below w.heap.size w w' := by
  go_enter Try.func48, Try.ntmps48
  go_wp2
  refine bodyPost_ret (v := .tuple #[.agg #[.int .u8 1, .int .i64 0], .bool true]) (by simp [results, Try.results48, go_sem]) rfl ⟨rfl, ?_⟩
  repeat (first | exact Below.refl _ _ | (refine Below.alloc ?_ (by first | exact Nat.le_refl _ | (simp; done) | (simp; omega)) _) | (refine Below.setCell ?_ (by first | exact Nat.le_refl _ | (simp; done) | (simp; omega)) _))
theorem w48_133 : Calls Try.prog 48 #[.agg #[.int .i64 a0, .int .u8 133, .int .i64 a2, .int .u8 a3, .int .u16 a4, .int .i64 a5, .int .i64 a6, .slice A7 n7 c7, .slice A8 n8 c8, .int .u16 a9]] w fun e w' => e = .returned (.tuple #[.agg #[.int .u8 1, .int .i64 0], .bool true]) ∧ Below w.heap.size w w' := by
  go_enter Try.func48, Try.ntmps48
  go_wp2
  refine bodyPost_ret (v := .tuple #[.agg #[.int .u8 1, .int .i64 0], .bool true]) (by simp [results, Try.results48, go_sem]) rfl ⟨rfl, ?_⟩
  repeat (first | exact Below.refl _ _ | (refine Below.alloc ?_ (by first | exact Nat.le_refl _ | (simp; done) | (simp; omega)) _) | (refine Below.setCell ?_ (by first | exact Nat.le_refl _ | (simp; done) | (simp; omega)) _))
theorem w48_135 : Calls Try.prog 48 #[.agg #[.int .i64 a0, .int .u8 135, .int .i64 a2, .int .u8 a3, .int .u16 a4, .int .i64 a5, .int .i64 a6, .slice A7 n7 c7, .slice A8 n8 c8, .int .u16 a9]] w fun e w' => e = .returned (.tuple #[.agg #[.int .u8 1, .int .i64 0], .bool true]) ∧ Below w.heap.size w w' := by
  go_enter Try.func48, Try.ntmps48
  go_wp2
  refine bodyPost_ret (v := .tuple #[.agg #[.int .u8 1, .int .i64 0], .bool true]) (by simp [results, Try.results48, go_sem]) rfl ⟨rfl, ?_⟩
  repeat (first | exact Below.refl _ _ | (refine Below.alloc ?_ (by first | exact Nat.le_refl _ | (simp; done) | (simp; omega)) _) | (refine Below.setCell ?_ (by first | exact Nat.le_refl _ | (simp; done) | (simp; omega)) _))
theorem w48_136 : Calls Try.prog 48 #[.agg #[.int .i64 a0, .int .u8 136, .int .i64 a2, .int .u8 a3, .int .u16 a4, .int .i64 a5, .int .i64 a6, .slice A7 n7 c7, .slice A8 n8 c8, .int .u16 a9]] w fun e w' => e = .returned (.tuple #[.agg #[.int .u8 1, .int .i64 0], .bool true]) ∧ Below w.heap.size w w' := by
  go_enter Try.func48, Try.ntmps48
  go_wp2
  refine bodyPost_ret (v := .tuple #[.agg #[.int .u8 1, .int .i64 0], .bool true]) (by simp [results, Try.results48, go_sem]) rfl ⟨rfl, ?_⟩
  repeat (first | exact Below.refl _ _ | (refine Below.alloc ?_ (by first | exact Nat.le_refl _ | (simp; done) | (simp; omega)) _) | (refine Below.setCell ?_ (by first | exact Nat.le_refl _ | (simp; done) | (simp; omega)) _))
theorem w48_137 : Calls Try.prog 48 #[.agg #[.int .i64 a0, .int .u8 137, .int .i64 a2, .int .u8 a3, .int .u16 a4, .int .i64 a5, .int .i64 a6, .slice A7 n7 c7, .slice A8 n8 c8, .int .u16 a9]] w fun e w' => e = .returned (.tuple #[.agg #[.int .u8 1, .int .i64 0], .bool true]) ∧ Below w.heap.size w w' := by
  go_enter Try.func48, Try.ntmps48
  go_wp2
  refine bodyPost_ret (v := .tuple #[.agg #[.int .u8 1, .int .i64 0], .bool true]) (by simp [results, Try.results48, go_sem]) rfl ⟨rfl, ?_⟩
  repeat (first | exact Below.refl _ _ | (refine Below.alloc ?_ (by first | exact Nat.le_refl _ | (simp; done) | (simp; omega)) _) | (refine Below.setCell ?_ (by first | exact Nat.le_refl _ | (simp; done) | (simp; omega)) _))
theorem w48_36 : Calls Try.prog 48 #[.agg #[.int .i64 a0, .int .u8 36, .int .i64 a2, .int .u8 a3, .int .u16 a4, .int .i64 a5, .int .i64 a6, .slice A7 n7 c7, .slice A8 n8 c8, .int .u16 a9]] w fun e w' => e = .returned (.tuple #[.agg #[.int .u8 2, .int .i64 0], .bool true]) ∧ Below w.heap.size w w' := by
  go_enter Try.func48, Try.ntmps48
  go_wp2
  refine bodyPost_ret (v := .tuple #[.agg #[.int .u8 2, .int .i64 0], .bool true]) (by simp [results, Try.results48, go_sem]) rfl ⟨rfl, ?_⟩
  repeat (first | exact Below.refl _ _ | (refine Below.alloc ?_ (by first | exact Nat.le_refl _ | (simp; done) | (simp; omega)) _) | (refine Below.setCell ?_ (by first | exact Nat.le_refl _ | (simp; done) | (simp; omega)) _))
theorem w48_37 : Calls Try.prog 48 #[.agg #[.int .i64 a0, .int .u8 37, .int .i64 a2, .int .u8 a3, .int .u16 a4, .int .i64 a5, .int .i64 a6, .slice A7 n7 c7, .slice A8 n8 c8, .int .u16 a9]] w fun e w' => e = .returned (.tuple #[.agg #[.int .u8 2, .int .i64 0], .bool true]) ∧ Below w.heap.size w w' := by
  go_enter Try.func48, Try.ntmps48
  go_wp2
  refine bodyPost_ret (v := .tuple #[.agg #[.int .u8 2, .int .i64 0], .bool true]) (by simp [results, Try.results48, go_sem]) rfl ⟨rfl, ?_⟩
  repeat (first | exact Below.refl _ _ | (refine Below.alloc ?_ (by first | exact Nat.le_refl _ | (simp; done) | (simp; omega)) _) | (refine Below.setCell ?_ (by first | exact Nat.le_refl _ | (simp; done) | (simp; omega)) _))
theorem w48_38 : Calls Try.prog 48 #[.agg #[.int .i64 a0, .int .u8 38, .int .i64 a2, .int .u8 a3, .int .u16 a4, .int .i64 a5, .int .i64 a6, .slice A7 n7 c7, .slice A8 n8 c8, .int .u16 a9]] w fun e w' => e = .returned (.tuple #[.agg #[.int .u8 2, .int .i64 0], .bool true]) ∧ Below w.heap.size w w' := by
  go_enter Try.func48, Try.ntmps48
  go_wp2
  refine bodyPost_ret (v := .tuple #[.agg #[.int .u8 2, .int .i64 0], .bool true]) (by simp [results, Try.results48, go_sem]) rfl ⟨rfl, ?_⟩
  repeat (first | exact Below.refl _ _ | (refine Below.alloc ?_ (by first | exact Nat.le_refl _ | (simp; done) | (simp; omega)) _) | (refine Below.setCell ?_ (by first | exact Nat.le_refl _ | (simp; done) | (simp; omega)) _))
theorem w48_55 : Calls Try.prog 48 #[.agg #[.int .i64 a0, .int .u8 55, .int .i64 a2, .int .u8 a3, .int .u16 a4, .int .i64 a5, .int .i64 a6, .slice A7 n7 c7, .slice A8 n8 c8, .int .u16 a9]] w fun e w' => e = .returned (.tuple #[.agg #[.int .u8 2, .int .i64 0], .bool true]) ∧ Below w.heap.size w w' := by
  go_enter Try.func48, Try.ntmps48
  go_wp2
  refine bodyPost_ret (v := .tuple #[.agg #[.int .u8 2, .int .i64 0], .bool true]) (by simp [results, Try.results48, go_sem]) rfl ⟨rfl, ?_⟩
  repeat (first | exact Below.refl _ _ | (refine Below.alloc ?_ (by first | exact Nat.le_refl _ | (simp; done) | (simp; omega)) _) | (refine Below.setCell ?_ (by first | exact Nat.le_refl _ | (simp; done) | (simp; omega)) _))
theorem w48_56 : Calls Try.prog 48 #[.agg #[.int .i64 a0, .int .u8 56, .int .i64 a2, .int .u8 a3, .int .u16 a4, .int .i64 a5, .int .i64 a6, .slice A7 n7 c7, .slice A8 n8 c8, .int .u16 a9]] w fun e w' => e = .returned (.tuple #[.agg #[.int .u8 2, .int .i64 0], .bool true]) ∧ Below w.heap.size w w' := by
  go_enter Try.func48, Try.ntmps48
  go_wp2
  refine bodyPost_ret (v := .tuple #[.agg #[.int .u8 2, .int .i64 0], .bool true]) (by simp [results, Try.results48, go_sem]) rfl ⟨rfl, ?_⟩
  repeat (first | exact Below.refl _ _ | (refine Below.alloc ?_ (by first | exact Nat.le_refl _ | (simp; done) | (simp; omega)) _) | (refine Below.setCell ?_ (by first | exact Nat.le_refl _ | (simp; done) | (simp; omega)) _))
theorem w48_57 : Calls Try.prog 48 #[.agg #[.int .i64 a0, .int .u8 57, .int .i64 a2, .int .u8 a3, .int .u16 a4, .int .i64 a5, .int .i64 a6, .slice A7 n7 c7, .slice A8 n8 c8, .int .u16 a9]] w fun e w' => e = .returned (.tuple #[.agg #[.int .u8 2, .int .i64 0], .bool true]) ∧ Below w.heap.size w w' := by
  go_enter Try.func48, Try.ntmps48
  go_wp2
  refine bodyPost_ret (v := .tuple #[.agg #[.int .u8 2, .int .i64 0], .bool true]) (by simp [results, Try.results48, go_sem]) rfl ⟨rfl, ?_⟩
  repeat (first | exact Below.refl _ _ | (refine Below.alloc ?_ (by first | exact Nat.le_refl _ | (simp; done) | (simp; omega)) _) | (refine Below.setCell ?_ (by first | exact Nat.le_refl _ | (simp; done) | (simp; omega)) _))
theorem w48_146 : Calls Try.prog 48 #[.agg #[.int .i64 a0, .int .u8 146, .int .i64 a2, .int .u8 a3, .int .u16 a4, .int .i64 a5, .int .i64 a6, .slice A7 n7 c7, .slice A8 n8 c8, .int .u16 a9]] w fun e w' => e = .returned (.tuple #[.agg #[.int .u8 2, .int .i64 0], .bool true]) ∧ Below w.heap.size w w' := by
  go_enter Try.func48, Try.ntmps48
  go_wp2
  refine bodyPost_ret (v := .tuple #[.agg #[.int .u8 2, .int .i64 0], .bool true]) (by simp [results, Try.results48, go_sem]) rfl ⟨rfl, ?_⟩
  repeat (first | exact Below.refl _ _ | (refine Below.alloc ?_ (by first | exact Nat.le_refl _ | (simp; done) | (simp; omega)) _) | (refine Below.setCell ?_ (by first | exact Nat.le_refl _ | (simp; done) | (simp; omega)) _))
theorem w48_139 : Calls Try.prog 48 #[.agg #[.int .i64 a0, .int .u8 139, .int .i64 a2, .int .u8 a3, .int .u16 a4, .int .i64 a5, .int .i64 a6, .slice A7 n7 c7, .slice A8 n8 c8, .int .u16 a9]] w fun e w' => e = .returned (.tuple #[.agg #[.int .u8 3, .int .i64 0], .bool true]) ∧ Below w.heap.size w w' := by
  go_enter Try.func48, Try.ntmps48
  go_wp2
  refine bodyPost_ret (v := .tuple #[.agg #[.int .u8 3, .int .i64 0], .bool true]) (by simp [results, Try.results48, go_sem]) rfl ⟨rfl, ?_⟩
  repeat (first | exact Below.refl _ _ | (refine Below.alloc ?_ (by first | exact Nat.le_refl _ | (simp; done) | (simp; omega)) _) | (refine Below.setCell ?_ (by first | exact Nat.le_refl _ | (simp; done) | (simp; omega)) _))
theorem w48_140 : Calls Try.prog 48 #[.agg #[.int .i64 a0, .int .u8 140, .int .i64 a2, .int .u8 a3, .int .u16 a4, .int .i64 a5, .int .i64 a6, .slice A7 n7 c7, .slice A8 n8 c8, .int .u16 a9]] w fun e w' => e = .returned (.tuple #[.agg #[.int .u8 4, .int .i64 0], .bool true]) ∧ Below w.heap.size w w' := by
  go_enter Try.func48, Try.ntmps48
  go_wp2
  refine bodyPost_ret (v := .tuple #[.agg #[.int .u8 4, .int .i64 0], .bool true]) (by simp [results, Try.results48, go_sem]) rfl ⟨rfl, ?_⟩
  repeat (first | exact Below.refl _ _ | (refine Below.alloc ?_ (by first | exact Nat.le_refl _ | (simp; done) | (simp; omega)) _) | (refine Below.setCell ?_ (by first | exact Nat.le_refl _ | (simp; done) | (simp; omega)) _))
theorem w48_147 : Calls Try.prog 48 #[.agg #[.int .i64 a0, .int .u8 147, .int .i64 a2, .int .u8 a3, .int .u16 a4, .int .i64 a5, .int .i64 a6, .slice A7 n7 c7, .slice A8 n8 c8, .int .u16 a9]] w fun e w' => e = .returned (.tuple #[.agg #[.int .u8 5, .int .i64 0], .bool true]) ∧ Below w.heap.size w w' := by
  go_enter Try.func48, Try.ntmps48
  go_wp2
  refine bodyPost_ret (v := .tuple #[.agg #[.int .u8 5, .int .i64 0], .bool true]) (by simp [results, Try.results48, go_sem]) rfl ⟨rfl, ?_⟩
  repeat (first | exact Below.refl _ _ | (refine Below.alloc ?_ (by first | exact Nat.le_refl _ | (simp; done) | (simp; omega)) _) | (refine Below.setCell ?_ (by first | exact Nat.le_refl _ | (simp; done) | (simp; omega)) _))
theorem w48_142 : Calls Try.prog 48 #[.agg #[.int .i64 a0, .int .u8 142, .int .i64 a2, .int .u8 a3, .int .u16 a4, .int .i64 a5, .int .i64 a6, .slice A7 n7 c7, .slice A8 n8 c8, .int .u16 a9]] w fun e w' => e = .returned (.tuple #[.agg #[.int .u8 6, .int .i64 a5], .bool true]) ∧ Below w.heap.size w w' := by
  go_enter Try.func48, Try.ntmps48
  go_wp2
  refine bodyPost_ret (v := .tuple #[.agg #[.int .u8 6, .int .i64 a5], .bool true]) (by simp [results, Try.results48, go_sem]) rfl ⟨rfl, ?_⟩
  repeat (first | exact Below.refl _ _ | (refine Below.alloc ?_ (by first | exact Nat.le_refl _ | (simp; done) | (simp; omega)) _) | (refine Below.setCell ?_ (by first | exact Nat.le_refl _ | (simp; done) | (simp; omega)) _))
theorem w48_148y (h : a2 = 0) : Calls Try.prog 48 #[.agg #[.int .i64 a0, .int .u8 148, .int .i64 a2, .int .u8 a3, .int .u16 a4, .int .i64 a5, .int .i64 a6, .slice A7 n7 c7, .slice A8 n8 c8, .int .u16 a9]] w fun e w' => e = .returned (.tuple #[.agg #[.int .u8 7, .int .i64 a5], .bool true]) ∧ Below w.heap.size w w' := by
  subst h
  go_enter Try.func48, Try.ntmps48
  go_wp2
  refine bodyPost_ret (v := .tuple #[.agg #[.int .u8 7, .int .i64 a5], .bool true]) (by simp [results, Try.results48, go_sem]) rfl ⟨rfl, ?_⟩
  repeat (first | exact Below.refl _ _ | (refine Below.alloc ?_ (by first | exact Nat.le_refl _ | (simp; done) | (simp; omega)) _) | (refine Below.setCell ?_ (by first | exact Nat.le_refl _ | (simp; done) | (simp; omega)) _))
theorem w48_148n (h : a2 ≠ 0) : Calls Try.prog 48 #[.agg #[.int .i64 a0, .int .u8 148, .int .i64 a2, .int .u8 a3, .int .u16 a4, .int .i64 a5, .int .i64 a6, .slice A7 n7 c7, .slice A8 n8 c8, .int .u16 a9]] w fun e w' => e = .returned (.tuple #[.agg #[.int .u8 7, .int .i64 (-1)], .bool true]) ∧ Below w.heap.size w w' := by
  have h1 : (a2 == 0) = false := beq_eq_false_iff_ne.mpr h
  have h2 : (a2 != 0) = true := bne_iff_ne.mpr h
  go_enter Try.func48, Try.ntmps48
  go_wp2
  refine bodyPost_ret (v := .tuple #[.agg #[.int .u8 7, .int .i64 (-1)], .bool true]) (by simp [results, Try.results48, go_sem]) rfl ⟨rfl, ?_⟩
  repeat (first | exact Below.refl _ _ | (refine Below.alloc ?_ (by first | exact Nat.le_refl _ | (simp; done) | (simp; omega)) _) | (refine Below.setCell ?_ (by first | exact Nat.le_refl _ | (simp; done) | (simp; omega)) _))
theorem w48_149y (h : a2 = 0) : Calls Try.prog 48 #[.agg #[.int .i64 a0, .int .u8 149, .int .i64 a2, .int .u8 a3, .int .u16 a4, .int .i64 a5, .int .i64 a6, .slice A7 n7 c7, .slice A8 n8 c8, .int .u16 a9]] w fun e w' => e = .returned (.tuple #[.agg #[.int .u8 7, .int .i64 a5], .bool true]) ∧ Below w.heap.size w w' := by
  subst h
  go_enter Try.func48, Try.ntmps48
  go_wp2
  refine bodyPost_ret (v := .tuple #[.agg #[.int .u8 7, .int .i64 a5], .bool true]) (by simp [results, Try.results48, go_sem]) rfl ⟨rfl, ?_⟩
  repeat (first | exact Below.refl _ _ | (refine Below.alloc ?_ (by first | exact Nat.le_refl _ | (simp; done) | (simp; omega)) _) | (refine Below.setCell ?_ (by first | exact Nat.le_refl _ | (simp; done) | (simp; omega)) _))
theorem w48_149n (h : a2 ≠ 0) : Calls Try.prog 48 #[.agg #[.int .i64 a0, .int .u8 149, .int .i64 a2, .int .u8 a3, .int .u16 a4, .int .i64 a5, .int .i64 a6, .slice A7 n7 c7, .slice A8 n8 c8, .int .u16 a9]] w fun e w' => e = .returned (.tuple #[.agg #[.int .u8 7, .int .i64 (-1)], .bool true]) ∧ Below w.heap.size w w' := by
  have h1 : (a2 == 0) = false := beq_eq_false_iff_ne.mpr h
  have h2 : (a2 != 0) = true := bne_iff_ne.mpr h
  go_enter Try.func48, Try.ntmps48
  go_wp2
  refine bodyPost_ret (v := .tuple #[.agg #[.int .u8 7, .int .i64 (-1)], .bool true]) (by simp [results, Try.results48, go_sem]) rfl ⟨rfl, ?_⟩
  repeat (first | exact Below.refl _ _ | (refine Below.alloc ?_ (by first | exact Nat.le_refl _ | (simp; done) | (simp; omega)) _) | (refine Below.setCell ?_ (by first | exact Nat.le_refl _ | (simp; done) | (simp; omega)) _))
theorem w48_g0 (o : Int) (h : o ≤ 35) : Calls Try.prog 48 #[.agg #[.int .i64 a0, .int .u8 o, .int .i64 a2, .int .u8 a3, .int .u16 a4, .int .i64 a5, .int .i64 a6, .slice A7 n7 c7, .slice A8 n8 c8, .int .u16 a9]] w fun e w' => e = .returned (.tuple #[.agg #[.int .u8 0, .int .i64 0], .bool false]) ∧ Below w.heap.size w w' := by
  have hg131 : decide (131 ≤ o) = false := by simp; omega
  have hg135 : decide (135 ≤ o) = false := by simp; omega
  have hg36 : decide (36 ≤ o) = false := by simp; omega
  have hg55 : decide (55 ≤ o) = false := by simp; omega
  have hl133 : decide (o ≤ 133) = true := by simp; omega
  have hl137 : decide (o ≤ 137) = true := by simp; omega
  have hl38 : decide (o ≤ 38) = true := by simp; omega
  have hl57 : decide (o ≤ 57) = true := by simp; omega
  have he131 : (o == 131) = false := by simp; omega
  have hn131 : (o != 131) = true := by simp; omega
  have he132 : (o == 132) = false := by simp; omega
  have hn132 : (o != 132) = true := by simp; omega
  have he133 : (o == 133) = false := by simp; omega
  have hn133 : (o != 133) = true := by simp; omega
  have he135 : (o == 135) = false := by simp; omega
  have hn135 : (o != 135) = true := by simp; omega
  have he136 : (o == 136) = false := by simp; omega
  have hn136 : (o != 136) = true := by simp; omega
  have he137 : (o == 137) = false := by simp; omega
  have hn137 : (o != 137) = true := by simp; omega
  have he36 : (o == 36) = false := by simp; omega
  have hn36 : (o != 36) = true := by simp; omega
  have he37 : (o == 37) = false := by simp; omega
  have hn37 : (o != 37) = true := by simp; omega
  have he38 : (o == 38) = false := by simp; omega
  have hn38 : (o != 38) = true := by simp; omega
  have he55 : (o == 55) = false := by simp; omega
  have hn55 : (o != 55) = true := by simp; omega
  have he56 : (o == 56) = false := by simp; omega
  have hn56 : (o != 56) = true := by simp; omega
  have he57 : (o == 57) = false := by simp; omega
  have hn57 : (o != 57) = true := by simp; omega
  have he146 : (o == 146) = false := by simp; omega
  have hn146 : (o != 146) = true := by simp; omega
  have he139 : (o == 139) = false := by simp; omega
  have hn139 : (o != 139) = true := by simp; omega
  have he140 : (o == 140) = false := by simp; omega
  have hn140 : (o != 140) = true := by simp; omega
  have he147 : (o == 147) = false := by simp; omega
  have hn147 : (o != 147) = true := by simp; omega
  have he142 : (o == 142) = false := by simp; omega
  have hn142 : (o != 142) = true := by simp; omega
  have he148 : (o == 148) = false := by simp; omega
  have hn148 : (o != 148) = true := by simp; omega
  have he149 : (o == 149) = false := by simp; omega
  have hn149 : (o != 149) = true := by simp; omega
  clear h
  go_enter Try.func48, Try.ntmps48
  go_wp2
  refine bodyPost_ret (v := .tuple #[.agg #[.int .u8 0, .int .i64 0], .bool false]) (by simp [results, Try.results48, go_sem]) rfl ⟨rfl, ?_⟩
  repeat (first | exact Below.refl _ _ | (refine Below.alloc ?_ (by first | exact Nat.le_refl _ | (simp; done) | (simp; omega)) _) | (refine Below.setCell ?_ (by first | exact Nat.le_refl _ | (simp; done) | (simp; omega)) _))
theorem w48_g39 (o : Int) (h : 39 ≤ o ∧ o ≤ 54) : Calls Try.prog 48 #[.agg #[.int .i64 a0, .int .u8 o, .int .i64 a2, .int .u8 a3, .int .u16 a4, .int .i64 a5, .int .i64 a6, .slice A7 n7 c7, .slice A8 n8 c8, .int .u16 a9]] w fun e w' => e = .returned (.tuple #[.agg #[.int .u8 0, .int .i64 0], .bool false]) ∧ Below w.heap.size w w' := by
  have hg131 : decide (131 ≤ o) = false := by simp; omega
  have hg135 : decide (135 ≤ o) = false := by simp; omega
  have hg36 : decide (36 ≤ o) = true := by simp; omega
  have hg55 : decide (55 ≤ o) = false := by simp; omega
  have hl133 : decide (o ≤ 133) = true := by simp; omega
  have hl137 : decide (o ≤ 137) = true := by simp; omega
  have hl38 : decide (o ≤ 38) = false := by simp; omega
  have hl57 : decide (o ≤ 57) = true := by simp; omega
  have he131 : (o == 131) = false := by simp; omega
  have hn131 : (o != 131) = true := by simp; omega
  have he132 : (o == 132) = false := by simp; omega
  have hn132 : (o != 132) = true := by simp; omega
  have he133 : (o == 133) = false := by simp; omega
  have hn133 : (o != 133) = true := by simp; omega
  have he135 : (o == 135) = false := by simp; omega
  have hn135 : (o != 135) = true := by simp; omega
  have he136 : (o == 136) = false := by simp; omega
  have hn136 : (o != 136) = true := by simp; omega
  have he137 : (o == 137) = false := by simp; omega
  have hn137 : (o != 137) = true := by simp; omega
  have he36 : (o == 36) = false := by simp; omega
  have hn36 : (o != 36) = true := by simp; omega
  have he37 : (o == 37) = false := by simp; omega
  have hn37 : (o != 37) = true := by simp; omega
  have he38 : (o == 38) = false := by simp; omega
  have hn38 : (o != 38) = true := by simp; omega
  have he55 : (o == 55) = false := by simp; omega
  have hn55 : (o != 55) = true := by simp; omega
  have he56 : (o == 56) = false := by simp; omega
  have hn56 : (o != 56) = true := by simp; omega
  have he57 : (o == 57) = false := by simp; omega
  have hn57 : (o != 57) = true := by simp; omega
  have he146 : (o == 146) = false := by simp; omega
  have hn146 : (o != 146) = true := by simp; omega
  have he139 : (o == 139) = false := by simp; omega
  have hn139 : (o != 139) = true := by simp; omega
  have he140 : (o == 140) = false := by simp; omega
  have hn140 : (o != 140) = true := by simp; omega
  have he147 : (o == 147) = false := by simp; omega
  have hn147 : (o != 147) = true := by simp; omega
  have he142 : (o == 142) = false := by simp; omega
  have hn142 : (o != 142) = true := by simp; omega
  have he148 : (o == 148) = false := by simp; omega
  have hn148 : (o != 148) = true := by simp; omega
  have he149 : (o == 149) = false := by simp; omega
  have hn149 : (o != 149) = true := by simp; omega
  clear h
  go_enter Try.func48, Try.ntmps48
  go_wp2
  refine bodyPost_ret (v := .tuple #[.agg #[.int .u8 0, .int .i64 0], .bool false]) (by simp [results, Try.results48, go_sem]) rfl ⟨rfl, ?_⟩
  repeat (first | exact Below.refl _ _ | (refine Below.alloc ?_ (by first | exact Nat.le_refl _ | (simp; done) | (simp; omega)) _) | (refine Below.setCell ?_ (by first | exact Nat.le_refl _ | (simp; done) | (simp; omega)) _))
theorem w48_g58 (o : Int) (h : 58 ≤ o ∧ o ≤ 130) : Calls Try.prog 48 #[.agg #[.int .i64 a0, .int .u8 o, .int .i64 a2, .int .u8 a3, .int .u16 a4, .int .i64 a5, .int .i64 a6, .slice A7 n7 c7, .slice A8 n8 c8, .int .u16 a9]] w fun e w' => e = .returned (.tuple #[.agg #[.int .u8 0, .int .i64 0], .bool false]) ∧ Below w.heap.size w w' := by
  have hg131 : decide (131 ≤ o) = false := by simp; omega
  have hg135 : decide (135 ≤ o) = false := by simp; omega
  have hg36 : decide (36 ≤ o) = true := by simp; omega
  have hg55 : decide (55 ≤ o) = true := by simp; omega
  have hl133 : decide (o ≤ 133) = true := by simp; omega
  have hl137 : decide (o ≤ 137) = true := by simp; omega
  have hl38 : decide (o ≤ 38) = false := by simp; omega
  have hl57 : decide (o ≤ 57) = false := by simp; omega
  have he131 : (o == 131) = false := by simp; omega
  have hn131 : (o != 131) = true := by simp; omega
  have he132 : (o == 132) = false := by simp; omega
  have hn132 : (o != 132) = true := by simp; omega
  have he133 : (o == 133) = false := by simp; omega
  have hn133 : (o != 133) = true := by simp; omega
  have he135 : (o == 135) = false := by simp; omega
  have hn135 : (o != 135) = true := by simp; omega
  have he136 : (o == 136) = false := by simp; omega
  have hn136 : (o != 136) = true := by simp; omega
  have he137 : (o == 137) = false := by simp; omega
  have hn137 : (o != 137) = true := by simp; omega
  have he36 : (o == 36) = false := by simp; omega
  have hn36 : (o != 36) = true := by simp; omega
  have he37 : (o == 37) = false := by simp; omega
  have hn37 : (o != 37) = true := by simp; omega
  have he38 : (o == 38) = false := by simp; omega
  have hn38 : (o != 38) = true := by simp; omega
  have he55 : (o == 55) = false := by simp; omega
  have hn55 : (o != 55) = true := by simp; omega
  have he56 : (o == 56) = false := by simp; omega
  have hn56 : (o != 56) = true := by simp; omega
  have he57 : (o == 57) = false := by simp; omega
  have hn57 : (o != 57) = true := by simp; omega
  have he146 : (o == 146) = false := by simp; omega
  have hn146 : (o != 146) = true := by simp; omega
  have he139 : (o == 139) = false := by simp; omega
  have hn139 : (o != 139) = true := by simp; omega
  have he140 : (o == 140) = false := by simp; omega
  have hn140 : (o != 140) = true := by simp; omega
  have he147 : (o == 147) = false := by simp; omega
  have hn147 : (o != 147) = true := by simp; omega
  have he142 : (o == 142) = false := by simp; omega
  have hn142 : (o != 142) = true := by simp; omega
  have he148 : (o == 148) = false := by simp; omega
  have hn148 : (o != 148) = true := by simp; omega
  have he149 : (o == 149) = false := by simp; omega
  have hn149 : (o != 149) = true := by simp; omega
  clear h
  go_enter Try.func48, Try.ntmps48
  go_wp2
  refine bodyPost_ret (v := .tuple #[.agg #[.int .u8 0, .int .i64 0], .bool false]) (by simp [results, Try.results48, go_sem]) rfl ⟨rfl, ?_⟩
  repeat (first | exact Below.refl _ _ | (refine Below.alloc ?_ (by first | exact Nat.le_refl _ | (simp; done) | (simp; omega)) _) | (refine Below.setCell ?_ (by first | exact Nat.le_refl _ | (simp; done) | (simp; omega)) _))
theorem w48_g134 (o : Int) (h : 134 ≤ o ∧ o ≤ 134) : Calls Try.prog 48 #[.agg #[.int .i64 a0, .int .u8 o, .int .i64 a2, .int .u8 a3, .int .u16 a4, .int .i64 a5, .int .i64 a6, .slice A7 n7 c7, .slice A8 n8 c8, .int .u16 a9]] w fun e w' => e = .returned (.tuple #[.agg #[.int .u8 0, .int .i64 0], .bool false]) ∧ Below w.heap.size w w' := by
  have hg131 : decide (131 ≤ o) = true := by simp; omega
  have hg135 : decide (135 ≤ o) = false := by simp; omega
  have hg36 : decide (36 ≤ o) = true := by simp; omega
  have hg55 : decide (55 ≤ o) = true := by simp; omega
  have hl133 : decide (o ≤ 133) = false := by simp; omega
  have hl137 : decide (o ≤ 137) = true := by simp; omega
  have hl38 : decide (o ≤ 38) = false := by simp; omega
  have hl57 : decide (o ≤ 57) = false := by simp; omega
  have he131 : (o == 131) = false := by simp; omega
  have hn131 : (o != 131) = true := by simp; omega
  have he132 : (o == 132) = false := by simp; omega
  have hn132 : (o != 132) = true := by simp; omega
  have he133 : (o == 133) = false := by simp; omega
  have hn133 : (o != 133) = true := by simp; omega
  have he135 : (o == 135) = false := by simp; omega
  have hn135 : (o != 135) = true := by simp; omega
  have he136 : (o == 136) = false := by simp; omega
  have hn136 : (o != 136) = true := by simp; omega
  have he137 : (o == 137) = false := by simp; omega
  have hn137 : (o != 137) = true := by simp; omega
  have he36 : (o == 36) = false := by simp; omega
  have hn36 : (o != 36) = true := by simp; omega
  have he37 : (o == 37) = false := by simp; omega
  have hn37 : (o != 37) = true := by simp; omega
  have he38 : (o == 38) = false := by simp; omega
  have hn38 : (o != 38) = true := by simp; omega
  have he55 : (o == 55) = false := by simp; omega
  have hn55 : (o != 55) = true := by simp; omega
  have he56 : (o == 56) = false := by simp; omega
  have hn56 : (o != 56) = true := by simp; omega
  have he57 : (o == 57) = false := by simp; omega
  have hn57 : (o != 57) = true := by simp; omega
  have he146 : (o == 146) = false := by simp; omega
  have hn146 : (o != 146) = true := by simp; omega
  have he139 : (o == 139) = false := by simp; omega
  have hn139 : (o != 139) = true := by simp; omega
  have he140 : (o == 140) = false := by simp; omega
  have hn140 : (o != 140) = true := by simp; omega
  have he147 : (o == 147) = false := by simp; omega
  have hn147 : (o != 147) = true := by simp; omega
  have he142 : (o == 142) = false := by simp; omega
  have hn142 : (o != 142) = true := by simp; omega
  have he148 : (o == 148) = false := by simp; omega
  have hn148 : (o != 148) = true := by simp; omega
  have he149 : (o == 149) = false := by simp; omega
  have hn149 : (o != 149) = true := by simp; omega
  clear h
  go_enter Try.func48, Try.ntmps48
  go_wp2
  refine bodyPost_ret (v := .tuple #[.agg #[.int .u8 0, .int .i64 0], .bool false]) (by simp [results, Try.results48, go_sem]) rfl ⟨rfl, ?_⟩
  repeat (first | exact Below.refl _ _ | (refine Below.alloc ?_ (by first | exact Nat.le_refl _ | (simp; done) | (simp; omega)) _) | (refine Below.setCell ?_ (by first | exact Nat.le_refl _ | (simp; done) | (simp; omega)) _))
theorem w48_g138 (o : Int) (h : 138 ≤ o ∧ o ≤ 138) : Calls Try.prog 48 #[.agg #[.int .i64 a0, .int .u8 o, .int .i64 a2, .int .u8 a3, .int .u16 a4, .int .i64 a5, .int .i64 a6, .slice A7 n7 c7, .slice A8 n8 c8, .int .u16 a9]] w fun e w' => e = .returned (.tuple #[.agg #[.int .u8 0, .int .i64 0], .bool false]) ∧ Below w.heap.size w w' := by
  have hg131 : decide (131 ≤ o) = true := by simp; omega
  have hg135 : decide (135 ≤ o) = true := by simp; omega
  have hg36 : decide (36 ≤ o) = true := by simp; omega
  have hg55 : decide (55 ≤ o) = true := by simp; omega
  have hl133 : decide (o ≤ 133) = false := by simp; omega
  have hl137 : decide (o ≤ 137) = false := by simp; omega
  have hl38 : decide (o ≤ 38) = false := by simp; omega
  have hl57 : decide (o ≤ 57) = false := by simp; omega
  have he131 : (o == 131) = false := by simp; omega
  have hn131 : (o != 131) = true := by simp; omega
  have he132 : (o == 132) = false := by simp; omega
  have hn132 : (o != 132) = true := by simp; omega
  have he133 : (o == 133) = false := by simp; omega
  have hn133 : (o != 133) = true := by simp; omega
  have he135 : (o == 135) = false := by simp; omega
  have hn135 : (o != 135) = true := by simp; omega
  have he136 : (o == 136) = false := by simp; omega
  have hn136 : (o != 136) = true := by simp; omega
  have he137 : (o == 137) = false := by simp; omega
  have hn137 : (o != 137) = true := by simp; omega
  have he36 : (o == 36) = false := by simp; omega
  have hn36 : (o != 36) = true := by simp; omega
  have he37 : (o == 37) = false := by simp; omega
  have hn37 : (o != 37) = true := by simp; omega
  have he38 : (o == 38) = false := by simp; omega
  have hn38 : (o != 38) = true := by simp; omega
  have he55 : (o == 55) = false := by simp; omega
  have hn55 : (o != 55) = true := by simp; omega
  have he56 : (o == 56) = false := by simp; omega
  have hn56 : (o != 56) = true := by simp; omega
  have he57 : (o == 57) = false := by simp; omega
  have hn57 : (o != 57) = true := by simp; omega
  have he146 : (o == 146) = false := by simp; omega
  have hn146 : (o != 146) = true := by simp; omega
  have he139 : (o == 139) = false := by simp; omega
  have hn139 : (o != 139) = true := by simp; omega
  have he140 : (o == 140) = false := by simp; omega
  have hn140 : (o != 140) = true := by simp; omega
  have he147 : (o == 147) = false := by simp; omega
  have hn147 : (o != 147) = true := by simp; omega
  have he142 : (o == 142) = false := by simp; omega
  have hn142 : (o != 142) = true := by simp; omega
  have he148 : (o == 148) = false := by simp; omega
  have hn148 : (o != 148) = true := by simp; omega
  have he149 : (o == 149) = false := by simp; omega
  have hn149 : (o != 149) = true := by simp; omega
  clear h
  go_enter Try.func48, Try.ntmps48
  go_wp2
  refine bodyPost_ret (v := .tuple #[.agg #[.int .u8 0, .int .i64 0], .bool false]) (by simp [results, Try.results48, go_sem]) rfl ⟨rfl, ?_⟩
  repeat (first | exact Below.refl _ _ | (refine Below.alloc ?_ (by first | exact Nat.le_refl _ | (simp; done) | (simp; omega)) _) | (refine Below.setCell ?_ (by first | exact Nat.le_refl _ | (simp; done) | (simp; omega)) _))
theorem w48_g141 (o : Int) (h : 141 ≤ o ∧ o ≤ 141) : Calls Try.prog 48 #[.agg #[.int .i64 a0, .int .u8 o, .int .i64 a2, .int .u8 a3, .int .u16 a4, .int .i64 a5, .int .i64 a6, .slice A7 n7 c7, .slice A8 n8 c8, .int .u16 a9]] w fun e w' => e = .returned (.tuple #[.agg #[.int .u8 0, .int .i64 0], .bool false]) ∧ Below w.heap.size w w' := by
  have hg131 : decide (131 ≤ o) = true := by simp; omega
  have hg135 : decide (135 ≤ o) = true := by simp; omega
  have hg36 : decide (36 ≤ o) = true := by simp; omega
  have hg55 : decide (55 ≤ o) = true := by simp; omega
  have hl133 : decide (o ≤ 133) = false := by simp; omega
  have hl137 : decide (o ≤ 137) = false := by simp; omega
  have hl38 : decide (o ≤ 38) = false := by simp; omega
  have hl57 : decide (o ≤ 57) = false := by simp; omega
  have he131 : (o == 131) = false := by simp; omega
  have hn131 : (o != 131) = true := by simp; omega
  have he132 : (o == 132) = false := by simp; omega
  have hn132 : (o != 132) = true := by simp; omega
  have he133 : (o == 133) = false := by simp; omega
  have hn133 : (o != 133) = true := by simp; omega
  have he135 : (o == 135) = false := by simp; omega
  have hn135 : (o != 135) = true := by simp; omega
  have he136 : (o == 136) = false := by simp; omega
  have hn136 : (o != 136) = true := by simp; omega
  have he137 : (o == 137) = false := by simp; omega
  have hn137 : (o != 137) = true := by simp; omega
  have he36 : (o == 36) = false := by simp; omega
  have hn36 : (o != 36) = true := by simp; omega
  have he37 : (o == 37) = false := by simp; omega
  have hn37 : (o != 37) = true := by simp; omega
  have he38 : (o == 38) = false := by simp; omega
  have hn38 : (o != 38) = true := by simp; omega
  have he55 : (o == 55) = false := by simp; omega
  have hn55 : (o != 55) = true := by simp; omega
  have he56 : (o == 56) = false := by simp; omega
  have hn56 : (o != 56) = true := by simp; omega
  have he57 : (o == 57) = false := by simp; omega
  have hn57 : (o != 57) = true := by simp; omega
  have he146 : (o == 146) = false := by simp; omega
  have hn146 : (o != 146) = true := by simp; omega
  have he139 : (o == 139) = false := by simp; omega
  have hn139 : (o != 139) = true := by simp; omega
  have he140 : (o == 140) = false := by simp; omega
  have hn140 : (o != 140) = true := by simp; omega
  have he147 : (o == 147) = false := by simp; omega
  have hn147 : (o != 147) = true := by simp; omega
  have he142 : (o == 142) = false := by simp; omega
  have hn142 : (o != 142) = true := by simp; omega
  have he148 : (o == 148) = false := by simp; omega
  have hn148 : (o != 148) = true := by simp; omega
  have he149 : (o == 149) = false := by simp; omega
  have hn149 : (o != 149) = true := by simp; omega
  clear h
  go_enter Try.func48, Try.ntmps48
  go_wp2
  refine bodyPost_ret (v := .tuple #[.agg #[.int .u8 0, .int .i64 0], .bool false]) (by simp [results, Try.results48, go_sem]) rfl ⟨rfl, ?_⟩
  repeat (first | exact Below.refl _ _ | (refine Below.alloc ?_ (by first | exact Nat.le_refl _ | (simp; done) | (simp; omega)) _) | (refine Below.setCell ?_ (by first | exact Nat.le_refl _ | (simp; done) | (simp; omega)) _))
theorem w48_g143 (o : Int) (h : 143 ≤ o ∧ o ≤ 145) : Calls Try.prog 48 #[.agg #[.int .i64 a0, .int .u8 o, .int .i64 a2, .int .u8 a3, .int .u16 a4, .int .i64 a5, .int .i64 a6, .slice A7 n7 c7, .slice A8 n8 c8, .int .u16 a9]] w fun e w' => e = .returned (.tuple #[.agg #[.int .u8 0, .int .i64 0], .bool false]) ∧ Below w.heap.size w w' := by
  have hg131 : decide (131 ≤ o) = true := by simp; omega
  have hg135 : decide (135 ≤ o) = true := by simp; omega
  have hg36 : decide (36 ≤ o) = true := by simp; omega
  have hg55 : decide (55 ≤ o) = true := by simp; omega
  have hl133 : decide (o ≤ 133) = false := by simp; omega
  have hl137 : decide (o ≤ 137) = false := by simp; omega
  have hl38 : decide (o ≤ 38) = false := by simp; omega
  have hl57 : decide (o ≤ 57) = false := by simp; omega
  have he131 : (o == 131) = false := by simp; omega
  have hn131 : (o != 131) = true := by simp; omega
  have he132 : (o == 132) = false := by simp; omega
  have hn132 : (o != 132) = true := by simp; omega
  have he133 : (o == 133) = false := by simp; omega
  have hn133 : (o != 133) = true := by simp; omega
  have he135 : (o == 135) = false := by simp; omega
  have hn135 : (o != 135) = true := by simp; omega
  have he136 : (o == 136) = false := by simp; omega
  have hn136 : (o != 136) = true := by simp; omega
  have he137 : (o == 137) = false := by simp; omega
  have hn137 : (o != 137) = true := by simp; omega
  have he36 : (o == 36) = false := by simp; omega
  have hn36 : (o != 36) = true := by simp; omega
  have he37 : (o == 37) = false := by simp; omega
  have hn37 : (o != 37) = true := by simp; omega
  have he38 : (o == 38) = false := by simp; omega
  have hn38 : (o != 38) = true := by simp; omega
  have he55 : (o == 55) = false := by simp; omega
  have hn55 : (o != 55) = true := by simp; omega
  have he56 : (o == 56) = false := by simp; omega
  have hn56 : (o != 56) = true := by simp; omega
  have he57 : (o == 57) = false := by simp; omega
  have hn57 : (o != 57) = true := by simp; omega
  have he146 : (o == 146) = false := by simp; omega
  have hn146 : (o != 146) = true := by simp; omega
  have he139 : (o == 139) = false := by simp; omega
  have hn139 : (o != 139) = true := by simp; omega
  have he140 : (o == 140) = false := by simp; omega
  have hn140 : (o != 140) = true := by simp; omega
  have he147 : (o == 147) = false := by simp; omega
  have hn147 : (o != 147) = true := by simp; omega
  have he142 : (o == 142) = false := by simp; omega
  have hn142 : (o != 142) = true := by simp; omega
  have he148 : (o == 148) = false := by simp; omega
  have hn148 : (o != 148) = true := by simp; omega
  have he149 : (o == 149) = false := by simp; omega
  have hn149 : (o != 149) = true := by simp; omega
  clear h
  go_enter Try.func48, Try.ntmps48
  go_wp2
  refine bodyPost_ret (v := .tuple #[.agg #[.int .u8 0, .int .i64 0], .bool false]) (by simp [results, Try.results48, go_sem]) rfl ⟨rfl, ?_⟩
  repeat (first | exact Below.refl _ _ | (refine Below.alloc ?_ (by first | exact Nat.le_refl _ | (simp; done) | (simp; omega)) _) | (refine Below.setCell ?_ (by first | exact Nat.le_refl _ | (simp; done) | (simp; omega)) _))
theorem w48_g150 (o : Int) (h : 150 ≤ o) : Calls Try.prog 48 #[.agg #[.int .i64 a0, .int .u8 o, .int .i64 a2, .int .u8 a3, .int .u16 a4, .int .i64 a5, .int .i64 a6, .slice A7 n7 c7, .slice A8 n8 c8, .int .u16 a9]] w fun e w' => e = .returned (.tuple #[.agg #[.int .u8 0, .int .i64 0], .bool false]) ∧ Below w.heap.size w w' := by
  have hg131 : decide (131 ≤ o) = true := by simp; omega
  have hg135 : decide (135 ≤ o) = true := by simp; omega
  have hg36 : decide (36 ≤ o) = true := by simp; omega
  have hg55 : decide (55 ≤ o) = true := by simp; omega
  have hl133 : decide (o ≤ 133) = false := by simp; omega
  have hl137 : decide (o ≤ 137) = false := by simp; omega
  have hl38 : decide (o ≤ 38) = false := by simp; omega
  have hl57 : decide (o ≤ 57) = false := by simp; omega
  have he131 : (o == 131) = false := by simp; omega
  have hn131 : (o != 131) = true := by simp; omega
  have he132 : (o == 132) = false := by simp; omega
  have hn132 : (o != 132) = true := by simp; omega
  have he133 : (o == 133) = false := by simp; omega
  have hn133 : (o != 133) = true := by simp; omega
  have he135 : (o == 135) = false := by simp; omega
  have hn135 : (o != 135) = true := by simp; omega
  have he136 : (o == 136) = false := by simp; omega
  have hn136 : (o != 136) = true := by simp; omega
  have he137 : (o == 137) = false := by simp; omega
  have hn137 : (o != 137) = true := by simp; omega
  have he36 : (o == 36) = false := by simp; omega
  have hn36 : (o != 36) = true := by simp; omega
  have he37 : (o == 37) = false := by simp; omega
  have hn37 : (o != 37) = true := by simp; omega
  have he38 : (o == 38) = false := by simp; omega
  have hn38 : (o != 38) = true := by simp; omega
  have he55 : (o == 55) = false := by simp; omega
  have hn55 : (o != 55) = true := by simp; omega
  have he56 : (o == 56) = false := by simp; omega
  have hn56 : (o != 56) = true := by simp; omega
  have he57 : (o == 57) = false := by simp; omega
  have hn57 : (o != 57) = true := by simp; omega
  have he146 : (o == 146) = false := by simp; omega
  have hn146 : (o != 146) = true := by simp; omega
  have he139 : (o == 139) = false := by simp; omega
  have hn139 : (o != 139) = true := by simp; omega
  have he140 : (o == 140) = false := by simp; omega
  have hn140 : (o != 140) = true := by simp; omega
  have he147 : (o == 147) = false := by simp; omega
  have hn147 : (o != 147) = true := by simp; omega
  have he142 : (o == 142) = false := by simp; omega
  have hn142 : (o != 142) = true := by simp; omega
  have he148 : (o == 148) = false := by simp; omega
  have hn148 : (o != 148) = true := by simp; omega
  have he149 : (o == 149) = false := by simp; omega
  have hn149 : (o != 149) = true := by simp; omega
  clear h
  go_enter Try.func48, Try.ntmps48
  go_wp2
  refine bodyPost_ret (v := .tuple #[.agg #[.int .u8 0, .int .i64 0], .bool false]) (by simp [results, Try.results48, go_sem]) rfl ⟨rfl, ?_⟩
  repeat (first | exact Below.refl _ _ | (refine Below.alloc ?_ (by first | exact Nat.le_refl _ | (simp; done) | (simp; omega)) _) | (refine Below.setCell ?_ (by first | exact Nat.le_refl _ | (simp; done) | (simp; omega)) _))
theorem of48 (o : Int) (r1 r2 : Int) (r3 : Bool) (h : ans o a2 a5 = (r1, r2, r3)) : Calls Try.prog 48 #[.agg #[.int .i64 a0, .int .u8 o, .int .i64 a2, .int .u8 a3, .int .u16 a4, .int .i64 a5, .int .i64 a6, .slice A7 n7 c7, .slice A8 n8 c8, .int .u16 a9]] w fun e w' => e = .returned (.tuple #[.agg #[.int .u8 r1, .int .i64 r2], .bool r3]) ∧ Below w.heap.size w w' := by
  by_cases hk : o = 131 ∨ o = 132 ∨ o = 133 ∨ o = 135 ∨ o = 136 ∨ o = 137 ∨ o = 36 ∨ o = 37 ∨ o = 38 ∨ o = 55 ∨ o = 56 ∨ o = 57 ∨ o = 146 ∨ o = 139 ∨ o = 140 ∨ o = 147 ∨ o = 142
  · rcases hk with rfl | rfl | rfl | rfl | rfl | rfl | rfl | rfl | rfl | rfl | rfl | rfl | rfl | rfl | rfl | rfl | rfl
    · obtain ⟨rfl, rfl, rfl⟩ : (1 : Int) = r1 ∧ (0 : Int) = r2 ∧ true = r3 := by simpa [ans] using h
      exact w48_131 a0 a2 a3 a4 a5 a6 A7 n7 c7 A8 n8 c8 a9 w
    · obtain ⟨rfl, rfl, rfl⟩ : (1 : Int) = r1 ∧ (0 : Int) = r2 ∧ true = r3 := by simpa [ans] using h
      exact w48_132 a0 a2 a3 a4 a5 a6 A7 n7 c7 A8 n8 c8 a9 w
    · obtain ⟨rfl, rfl, rfl⟩ : (1 : Int) = r1 ∧ (0 : Int) = r2 ∧ true = r3 := by simpa [ans] using h
      exact w48_133 a0 a2 a3 a4 a5 a6 A7 n7 c7 A8 n8 c8 a9 w
    · obtain ⟨rfl, rfl, rfl⟩ : (1 : Int) = r1 ∧ (0 : Int) = r2 ∧ true = r3 := by simpa [ans] using h
      exact w48_135 a0 a2 a3 a4 a5 a6 A7 n7 c7 A8 n8 c8 a9 w
    · obtain ⟨rfl, rfl, rfl⟩ : (1 : Int) = r1 ∧ (0 : Int) = r2 ∧ true = r3 := by simpa [ans] using h
      exact w48_136 a0 a2 a3 a4 a5 a6 A7 n7 c7 A8 n8 c8 a9 w
    · obtain ⟨rfl, rfl, rfl⟩ : (1 : Int) = r1 ∧ (0 : Int) = r2 ∧ true = r3 := by simpa [ans] using h
      exact w48_137 a0 a2 a3 a4 a5 a6 A7 n7 c7 A8 n8 c8 a9 w
    · obtain ⟨rfl, rfl, rfl⟩ : (2 : Int) = r1 ∧ (0 : Int) = r2 ∧ true = r3 := by simpa [ans] using h
      exact w48_36 a0 a2 a3 a4 a5 a6 A7 n7 c7 A8 n8 c8 a9 w
    · obtain ⟨rfl, rfl, rfl⟩ : (2 : Int) = r1 ∧ (0 : Int) = r2 ∧ true = r3 := by simpa [ans] using h
      exact w48_37 a0 a2 a3 a4 a5 a6 A7 n7 c7 A8 n8 c8 a9 w
    · obtain ⟨rfl, rfl, rfl⟩ : (2 : Int) = r1 ∧ (0 : Int) = r2 ∧ true = r3 := by simpa [ans] using h
      exact w48_38 a0 a2 a3 a4 a5 a6 A7 n7 c7 A8 n8 c8 a9 w
    · obtain ⟨rfl, rfl, rfl⟩ : (2 : Int) = r1 ∧ (0 : Int) = r2 ∧ true = r3 := by simpa [ans] using h
      exact w48_55 a0 a2 a3 a4 a5 a6 A7 n7 c7 A8 n8 c8 a9 w
    · obtain ⟨rfl, rfl, rfl⟩ : (2 : Int) = r1 ∧ (0 : Int) = r2 ∧ true = r3 := by simpa [ans] using h
      exact w48_56 a0 a2 a3 a4 a5 a6 A7 n7 c7 A8 n8 c8 a9 w
    · obtain ⟨rfl, rfl, rfl⟩ : (2 : Int) = r1 ∧ (0 : Int) = r2 ∧ true = r3 := by simpa [ans] using h
      exact w48_57 a0 a2 a3 a4 a5 a6 A7 n7 c7 A8 n8 c8 a9 w
    · obtain ⟨rfl, rfl, rfl⟩ : (2 : Int) = r1 ∧ (0 : Int) = r2 ∧ true = r3 := by simpa [ans] using h
      exact w48_146 a0 a2 a3 a4 a5 a6 A7 n7 c7 A8 n8 c8 a9 w
    · obtain ⟨rfl, rfl, rfl⟩ : (3 : Int) = r1 ∧ (0 : Int) = r2 ∧ true = r3 := by simpa [ans] using h
      exact w48_139 a0 a2 a3 a4 a5 a6 A7 n7 c7 A8 n8 c8 a9 w
    · obtain ⟨rfl, rfl, rfl⟩ : (4 : Int) = r1 ∧ (0 : Int) = r2 ∧ true = r3 := by simpa [ans] using h
      exact w48_140 a0 a2 a3 a4 a5 a6 A7 n7 c7 A8 n8 c8 a9 w
    · obtain ⟨rfl, rfl, rfl⟩ : (5 : Int) = r1 ∧ (0 : Int) = r2 ∧ true = r3 := by simpa [ans] using h
      exact w48_147 a0 a2 a3 a4 a5 a6 A7 n7 c7 A8 n8 c8 a9 w
    · obtain ⟨rfl, rfl, rfl⟩ : (6 : Int) = r1 ∧ a5 = r2 ∧ true = r3 := by simpa [ans] using h
      exact w48_142 a0 a2 a3 a4 a5 a6 A7 n7 c7 A8 n8 c8 a9 w
  simp only [not_or] at hk
  by_cases h148 : o = 148
  · subst h148
    by_cases ha : a2 = 0
    · obtain ⟨rfl, rfl, rfl⟩ : (7 : Int) = r1 ∧ a5 = r2 ∧ true = r3 := by simpa [ans, ha] using h
      exact w48_148y a0 a2 a3 a4 a5 a6 A7 n7 c7 A8 n8 c8 a9 w ha
    · obtain ⟨rfl, rfl, rfl⟩ : (7 : Int) = r1 ∧ (-1 : Int) = r2 ∧ true = r3 := by simpa [ans, ha] using h
      exact w48_148n a0 a2 a3 a4 a5 a6 A7 n7 c7 A8 n8 c8 a9 w ha
  by_cases h149 : o = 149
  · subst h149
    by_cases ha : a2 = 0
    · obtain ⟨rfl, rfl, rfl⟩ : (7 : Int) = r1 ∧ a5 = r2 ∧ true = r3 := by simpa [ans, ha] using h
      exact w48_149y a0 a2 a3 a4 a5 a6 A7 n7 c7 A8 n8 c8 a9 w ha
    · obtain ⟨rfl, rfl, rfl⟩ : (7 : Int) = r1 ∧ (-1 : Int) = r2 ∧ true = r3 := by simpa [ans, ha] using h
      exact w48_149n a0 a2 a3 a4 a5 a6 A7 n7 c7 A8 n8 c8 a9 w ha
  have hz : ans o a2 a5 = (0, 0, false) := by
    unfold ans
    rw [if_neg (by omega), if_neg (by omega), if_neg (by omega), if_neg (by omega), if_neg (by omega), if_neg (by omega), if_neg (by omega)]
  rw [hz] at h
  obtain ⟨rfl, rfl, rfl⟩ : (0 : Int) = r1 ∧ (0 : Int) = r2 ∧ false = r3 := by simpa using h
  by_cases i0 : o ≤ 35
  · exact w48_g0 a0 a2 a3 a4 a5 a6 A7 n7 c7 A8 n8 c8 a9 w o i0
  by_cases i1 : 39 ≤ o ∧ o ≤ 54
  · exact w48_g39 a0 a2 a3 a4 a5 a6 A7 n7 c7 A8 n8 c8 a9 w o i1
  by_cases i2 : 58 ≤ o ∧ o ≤ 130
  · exact w48_g58 a0 a2 a3 a4 a5 a6 A7 n7 c7 A8 n8 c8 a9 w o i2
  by_cases i3 : 134 ≤ o ∧ o ≤ 134
  · exact w48_g134 a0 a2 a3 a4 a5 a6 A7 n7 c7 A8 n8 c8 a9 w o i3
  by_cases i4 : 138 ≤ o ∧ o ≤ 138
  · exact w48_g138 a0 a2 a3 a4 a5 a6 A7 n7 c7 A8 n8 c8 a9 w o i4
  by_cases i5 : 141 ≤ o ∧ o ≤ 141
  · exact w48_g141 a0 a2 a3 a4 a5 a6 A7 n7 c7 A8 n8 c8 a9 w o i5
  by_cases i6 : 143 ≤ o ∧ o ≤ 145
  · exact w48_g143 a0 a2 a3 a4 a5 a6 A7 n7 c7 A8 n8 c8 a9 w o i6
  exact w48_g150 a0 a2 a3 a4 a5 a6 A7 n7 c7 A8 n8 c8 a9 w o (by omega)
end
end Go.Proofs.Ytjknnifcbcdjiaa.FireWalk
