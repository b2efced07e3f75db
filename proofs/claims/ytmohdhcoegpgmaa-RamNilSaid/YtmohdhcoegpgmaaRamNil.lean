/- Of no memory, and of a zero one, all is refused: the walk of RamNil. -/
import Derived.Test.YtmohdhcoegpgmaaRamRef
namespace Go.Proofs.Ytmohdhcoegpgmaa.Ram
open Go.RowKit
/-- No memory, or a zero one. -/
def Off (w : World) (v : Value) : Prop := v = .pointer none ∨ ∃ B, v = .pointer (some ⟨B, 0, none⟩) ∧ w.cell? ⟨B, 0, none⟩ = some (.bool false)
set_option maxHeartbeats 4000000 in
set_option maxRecDepth 100000 in
theorem byte_off (w : World) (v : Value) (a : Int) (h : Off w v) : Calls Try.prog 14 #[v, .int .i64 a] w fun e w' => e = .returned (.tuple #[.int .u8 0, .int .i64 1]) ∧ w = w' := by
  rcases h with rfl | ⟨B, rfl, hz⟩
  · go_enter Try.func14, Try.ntmps14
    go_wp2_with (go_at_call 24; refine (ask_nil _ _ _).mono ?_; rintro e w' ⟨rfl, rfl⟩)
    go_ret2
    exact ⟨rfl, rfl⟩
  · go_enter Try.func14, Try.ntmps14
    go_wp2_with (go_at_call 24; refine (ask_zero _ B _ _ hz).mono ?_; rintro e w' ⟨rfl, rfl⟩)
    go_ret2
    exact ⟨rfl, rfl⟩
set_option maxHeartbeats 4000000 in
set_option maxRecDepth 100000 in
theorem word_off (w : World) (v : Value) (a : Int) (h : Off w v) : Calls Try.prog 11 #[v, .int .i64 a] w fun e w' => e = .returned (.tuple #[.int .u16 0, .int .i64 1]) ∧ w = w' := by
  rcases h with rfl | ⟨B, rfl, hz⟩
  · go_enter Try.func11, Try.ntmps11
    go_wp2_with (go_at_call 24; refine (ask_nil _ _ _).mono ?_; rintro e w' ⟨rfl, rfl⟩)
    go_ret2
    exact ⟨rfl, rfl⟩
  · go_enter Try.func11, Try.ntmps11
    go_wp2_with (go_at_call 24; refine (ask_zero _ B _ _ hz).mono ?_; rintro e w' ⟨rfl, rfl⟩)
    go_ret2
    exact ⟨rfl, rfl⟩
set_option maxHeartbeats 4000000 in
set_option maxRecDepth 100000 in
theorem putByte_off (w : World) (v : Value) (a b : Int) (h : Off w v) : Calls Try.prog 15 #[v, .int .i64 a, .int .u8 b] w fun e w' => e = .returned (.int .i64 1) ∧ w = w' := by
  rcases h with rfl | ⟨B, rfl, hz⟩
  · go_enter Try.func15, Try.ntmps15
    go_wp2_with (go_at_call 24; refine (ask_nil _ _ _).mono ?_; rintro e w' ⟨rfl, rfl⟩)
    go_ret
    exact ⟨rfl, rfl⟩
  · go_enter Try.func15, Try.ntmps15
    go_wp2_with (go_at_call 24; refine (ask_zero _ B _ _ hz).mono ?_; rintro e w' ⟨rfl, rfl⟩)
    go_ret
    exact ⟨rfl, rfl⟩
set_option maxHeartbeats 4000000 in
set_option maxRecDepth 100000 in
theorem putWord_off (w : World) (v : Value) (a b : Int) (h : Off w v) : Calls Try.prog 10 #[v, .int .i64 a, .int .u16 b] w fun e w' => e = .returned (.int .i64 1) ∧ w = w' := by
  rcases h with rfl | ⟨B, rfl, hz⟩
  · go_enter Try.func10, Try.ntmps10
    go_wp2_with (go_at_call 24; refine (ask_nil _ _ _).mono ?_; rintro e w' ⟨rfl, rfl⟩)
    go_ret
    exact ⟨rfl, rfl⟩
  · go_enter Try.func10, Try.ntmps10
    go_wp2_with (go_at_call 24; refine (ask_zero _ B _ _ hz).mono ?_; rintro e w' ⟨rfl, rfl⟩)
    go_ret
    exact ⟨rfl, rfl⟩
set_option maxHeartbeats 4000000 in
set_option maxRecDepth 100000 in
theorem clear_off (w : World) (v : Value) (a b : Int) (h : Off w v) : Calls Try.prog 16 #[v, .int .i64 a, .int .i64 b] w fun e w' => e = .returned (.int .i64 1) ∧ w = w' := by
  rcases h with rfl | ⟨B, rfl, hz⟩
  · go_enter Try.func16, Try.ntmps16
    go_wp2_with (go_at_call 24; refine (ask_nil _ _ _).mono ?_; rintro e w' ⟨rfl, rfl⟩)
    go_ret
    exact ⟨rfl, rfl⟩
  · go_enter Try.func16, Try.ntmps16
    go_wp2_with (go_at_call 24; refine (ask_zero _ B _ _ hz).mono ?_; rintro e w' ⟨rfl, rfl⟩)
    go_ret
    exact ⟨rfl, rfl⟩
set_option maxHeartbeats 4000000 in
set_option maxRecDepth 100000 in
theorem lose_off (w : World) (v : Value)  (h : Off w v) : Calls Try.prog 17 #[v] w fun e w' => e = .returned (.int .i64 1) ∧ w = w' := by
  rcases h with rfl | ⟨B, rfl, hz⟩
  · go_enter Try.func17, Try.ntmps17
    go_wp2_with (go_at_call 16; refine (clear_off _ _ _ _ (Or.inl rfl)).mono ?_; rintro e w' ⟨rfl, rfl⟩)
    go_ret
    exact ⟨rfl, rfl⟩
  · go_enter Try.func17, Try.ntmps17
    go_wp2_with (go_at_call 16; refine (clear_off _ _ _ _ (Or.inr ⟨B, rfl, hz⟩)).mono ?_; rintro e w' ⟨rfl, rfl⟩)
    go_ret
    exact ⟨rfl, rfl⟩
set_option maxHeartbeats 4000000 in
set_option maxRecDepth 100000 in
theorem bytes_off (w : World) (v : Value)  (h : Off w v) : Calls Try.prog 9 #[v] w fun e w' => e = .returned (.slice none 0 0) ∧ w = w' := by
  rcases h with rfl | ⟨B, rfl, hz⟩
  · go_enter Try.func9, Try.ntmps9
    go_wp2_with (go_at_call 24; refine (ask_nil _ _ _).mono ?_; rintro e w' ⟨rfl, rfl⟩)
    go_ret
    exact ⟨rfl, rfl⟩
  · go_enter Try.func9, Try.ntmps9
    go_wp2_with (go_at_call 24; refine (ask_zero _ B _ _ hz).mono ?_; rintro e w' ⟨rfl, rfl⟩)
    go_ret
    exact ⟨rfl, rfl⟩
set_option maxHeartbeats 4000000 in
set_option maxRecDepth 100000 in
theorem nil_walk (w : World) (a n : Int) (z : Bool) : Calls Try.prog 6 #[.int .i64 a, .int .i64 n, .bool z] w fun e w' => e = .returned (.bool true) ∧ Below w.heap.size w w' := by
  cases z
  · have HO : Hid (Off w (.pointer none)) := Or.inl rfl
    go_enter Try.func6, Try.ntmps6
    go_wp2_with (first | (go_at_call 14; refine (byte_off _ _ _ HO.out).mono ?_; rintro e w' ⟨rfl, rfl⟩) | (go_at_call 11; refine (word_off _ _ _ HO.out).mono ?_; rintro e w' ⟨rfl, rfl⟩) | (go_at_call 15; refine (putByte_off _ _ _ _ HO.out).mono ?_; rintro e w' ⟨rfl, rfl⟩) | (go_at_call 10; refine (putWord_off _ _ _ _ HO.out).mono ?_; rintro e w' ⟨rfl, rfl⟩) | (go_at_call 16; refine (clear_off _ _ _ _ HO.out).mono ?_; rintro e w' ⟨rfl, rfl⟩) | (go_at_call 17; refine (lose_off _ _ HO.out).mono ?_; rintro e w' ⟨rfl, rfl⟩) | (go_at_call 9; refine (bytes_off _ _ HO.out).mono ?_; rintro e w' ⟨rfl, rfl⟩) | (go_at_call 8; refine (works_ok _).mono ?_; rintro e w' ⟨rfl, hc⟩))
    go_ret
    exact ⟨rfl, hc.below (fun _ h => h.elim) (Nat.le_refl _)⟩
  · have HO : Hid (Off (w.alloc (.cells (cp false zs) 43)) (.pointer (some ⟨w.heap.size, 0, none⟩))) := Or.inr ⟨_, rfl, by rw [(Blk.new w (cp false zs) 43).cell]; exact cp_zero _ _⟩
    go_enter Try.func6, Try.ntmps6
    go_wp2_with (first | (refine wpList_build rfl 43 _ rfl (by kernel_rfl) ?_; generalize hZ : (Program.built _ _ _).getD #[] = Z; obtain rfl : Z = cp false zs := by (rw [← hZ]; kernel_rfl)) | (go_at_call 14; refine (byte_off _ _ _ HO.out).mono ?_; rintro e w' ⟨rfl, rfl⟩) | (go_at_call 11; refine (word_off _ _ _ HO.out).mono ?_; rintro e w' ⟨rfl, rfl⟩) | (go_at_call 15; refine (putByte_off _ _ _ _ HO.out).mono ?_; rintro e w' ⟨rfl, rfl⟩) | (go_at_call 10; refine (putWord_off _ _ _ _ HO.out).mono ?_; rintro e w' ⟨rfl, rfl⟩) | (go_at_call 16; refine (clear_off _ _ _ _ HO.out).mono ?_; rintro e w' ⟨rfl, rfl⟩) | (go_at_call 17; refine (lose_off _ _ HO.out).mono ?_; rintro e w' ⟨rfl, rfl⟩) | (go_at_call 9; refine (bytes_off _ _ HO.out).mono ?_; rintro e w' ⟨rfl, rfl⟩) | (go_at_call 8; refine (works_ok _).mono ?_; rintro e w' ⟨rfl, hc⟩))
    go_ret
    exact ⟨rfl, (((Ch.refl (fun _ => False) w).alloc _).trans hc (U := fun _ => False) (fun _ h => h) (fun _ h => h.elim)).below (fun _ h => h.elim) (Nat.le_refl _)⟩
end Go.Proofs.Ytmohdhcoegpgmaa.Ram
