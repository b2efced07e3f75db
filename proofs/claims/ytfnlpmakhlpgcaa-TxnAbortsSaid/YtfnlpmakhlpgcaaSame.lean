/- The same bytes are told to be the same. -/
import Derived.Test.YtfnlpmakhlpgcaaProg
import Derived.Test.YtfnlpmakhlpgcaaBase
namespace Go.Proofs.Ytfnlpmakhlpgcaa.Base
open Go.RowKit
set_option maxHeartbeats 400000 in
set_option maxRecDepth 100000 in
theorem same_ok (w : World) (A C n c d : Nat) (o q : Nat) (f : Nat → Int) (hn : n ≤ 1000000) (hA : ∀ j, j < n → w.cell? ⟨A, o + j, none⟩ = some (.int .u8 (f j))) (hC : ∀ j, j < n → w.cell? ⟨C, q + j, none⟩ = some (.int .u8 (f j))) :
    Calls Try.prog 27 #[.slice (some ⟨A, o, none⟩) n c, .slice (some ⟨C, q, none⟩) n d] w fun e w' => e = .returned (.bool true) ∧ ∃ m, w' = w.drewN m := by
  have HA := Lib.hid hA
  have HC := Lib.hid hC
  clear hA hC
  go_enter Try.func27, Try.ntmps27
  go_wp2
  go_loopw [5] (fun i wr => ∃ k : Nat, k ≤ n ∧ i = .int .i64 k ∧ ∃ m, wr = w.drewN m) (fun i _ => n - (intOf i).toNat)
  case atStart => exact ⟨0, by omega, rfl, 0, rfl⟩
  case round =>
    obtain ⟨k, hk, rfl, m, rfl⟩ := hrel
    by_cases hlt : k < n
    · have h1 := HA.out k hlt
      have h2 := HC.out k hlt
      have hlt' : (k : Int) < (n : Int) := by omega
      generalize f k = x at *
      go_wp2
      go_quiet (fail)
      go_wp2
      go_roundw
      case rel => exact ⟨k + 1, by omega, by go_num, _, rfl⟩
      case measure => simp [intOf]; omega
    · obtain rfl : k = n := by omega
      go_wp2
      go_ret
      exact ⟨rfl, _, rfl⟩
end Go.Proofs.Ytfnlpmakhlpgcaa.Base
