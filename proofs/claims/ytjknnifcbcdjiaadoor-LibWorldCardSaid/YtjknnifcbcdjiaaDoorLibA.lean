/- lib's pieces: numbers from one to another; the types that letters stand for. -/
import Derived.Test.YtjknnifcbcdjiaaDoorWorldB
import Derived.Lib.OthersKept
import Derived.Laws.RangeString
import Derived.LoopTactic
set_option linter.unusedVariables false
set_option linter.unusedSimpArgs false
namespace Go.Proofs.YtjknnifcbcdjiaaDoor.Tab
open Go.RowKit Go.Proofs.YtjknnifcbcdjiaaDoor.Base Go.Proofs.YtjknnifcbcdjiaaDoorW.PrintWords Go.Proofs.YtjknnifcbcdjiaaDoorW.PrintLast
theorem infoI : (Tryd.prog.info? 3).map (fun i => (i.zero, i.size, i.bytes)) = some (some (.int .i64 0), 1, 8) := by kernel_rfl
theorem infoT : (Tryd.prog.info? 33).map (fun i => (i.zero, i.size, i.bytes)) = some (some (.agg #[.int .u8 0, .int .u16 0]), 2, 4) := by kernel_rfl
/-- From a on, so many. -/
def runL (a : Int) : Nat → List Int
  | 0 => []
  | k + 1 => runL a k ++ [a + k]
theorem runL_len (a : Int) : ∀ k, (runL a k).length = k
  | 0 => rfl
  | k + 1 => by simp [runL, runL_len a k]
set_option maxRecDepth 100000 in
theorem run_any (w : World) (a : Int) (k : Nat) (ha : -1000 ≤ a ∧ a ≤ 1000) (hk : k ≤ 1000) : Calls Tryd.prog 25 #[.int .i64 a, .int .i64 (a + k - 1)] w fun e w' => ∃ v, e = .returned v ∧ Ints w' w.heap.size v (runL a k) ∧ Ch (fun _ => False) w w' := by
  obtain ⟨i0, hi, hz0, hz1, hz2⟩ := info_parts infoI
  go_enter Tryd.func25, Tryd.ntmps25
  go_wp2
  go_loopg [5, 6] k (fun q v5 v6 wr => ∃ j : Nat, j + q ≤ k ∧ k ≤ j + q ∧ v6 = .int .i64 (a + j) ∧ wr.ownsRow w.heap.size 3 1 v5 (runL a j).length (icells (runL a j)) ∧ Ch (fun _ => False) w wr)
  case atStart => exact ⟨0, by omega, by omega, by simp, own_nil _ _ _ _, Ch.refl _ _⟩
  case round =>
    obtain ⟨j, hj1, hj2, rfl, hrow, hc⟩ := hrel
    by_cases hlt : 0 < gk
    · have hd : decide (a + (j : Int) ≤ a + (k : Int) - 1) = true := decide_eq_true (by omega)
      have hlen := runL_len a j
      have hsz := hc.size
      obtain ⟨A5, c5, rfl⟩ := own_len hrow
      go_wp2_with (at_builtin; go_loud (refine wpList_append_lies _ rfl _ _ 41 rfl w.heap.size 3 i0 (.int .i64 0) 1 8 Tryd.underlying41 hi hz0 hz1 hz2 rfl (by decide) _ _ _ rfl (hrow.alloc _) ⟨wr.heap.size, 0, none⟩ 1 1 [.int .i64 (a + j)] rfl rfl (World.news_of_block (blk_new wr (.cells #[.int .i64 (a + j)] 3))) (by simp [Value.oneCell']) (by decide) (by unfold maxLen; omega) (by omega) (by simp; omega) _ rfl ?_); intro g5 cap5 w5 ho5 hg5 hat5 hlt5)
      go_roundg (gk - 1)
      case rel =>
        refine ⟨j + 1, by omega, by omega, by go_num, by simpa [runL, icells, hlen] using ho5, ?_⟩
        exact grow_base (Nat.le_refl _) (hc.alloc _) (hrow.alloc _) hg5
      case measure => omega
    · obtain rfl : gk = 0 := by omega
      obtain rfl : j = k := by omega
      have hd : decide (a + (j : Int) ≤ a + (j : Int) - 1) = false := decide_eq_false (by omega)
      go_wp2
      go_ret
      exact ⟨_, rfl, hrow, hc⟩
/-- The type that a letter stands for. -/
def tyOf (c : Nat) : List (Int × Int) :=
  if c = 122 then [(1, 0)] else if c = 98 then [(2, 0)] else if c = 115 then [(3, 0)] else if c = 66 then [(6, 0)] else if c = 83 then [(7, 0)] else if c = 114 then [(4, 13)] else if c = 97 then [(4, 12)] else []
def tysOf (l : List Nat) : List (Int × Int) := l.flatMap tyOf
end Go.Proofs.YtjknnifcbcdjiaaDoor.Tab
