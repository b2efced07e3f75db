/- The walks of heap: the card's objects, what may be made. -/
import Derived.Test.YtjeaidmmhplglaaHeapB
set_option linter.unusedVariables false
set_option linter.unusedSimpArgs false
namespace Go.Proofs.Ytjeaidmmhplglaa.Nvm
open Go.RowKit Go.Proofs.Ytjeaidmmhplglaa.Base
/-- What an object of the card's is told as. -/
def crdv : Option (Hd × Int) → Value
  | some (x, p) => .tuple #[enc x, .int .i64 p, .bool true]
  | none => .tuple #[enc .zero, .int .i64 0, .bool false]
set_option maxHeartbeats 800000 in
set_option maxRecDepth 100000 in
theorem hcard_any (w : World) (at_ : Int) :
    Calls Try.prog 55 #[.int .i64 at_] w fun e w' => e = .returned (crdv (crd at_)) ∧ Ch (fun _ => False) w w' := by
  by_cases h1 : at_ = 1
  · subst h1
    go_enter Try.func55, Try.ntmps55
    go_wp2
    refine bodyPost_ret (v := crdv (some (⟨4, 14, 0, 0, 4, 0⟩, 0))) (by simp [results, Try.results55, go_sem, crdv, enc]) rfl ⟨rfl, (Ch.refl _ w).alloc _⟩
  · by_cases h2 : at_ = 2
    · subst h2
      go_enter Try.func55, Try.ntmps55
      go_wp2
      refine bodyPost_ret (v := crdv (some (⟨6, -1, 0, 0, 8, 261⟩, 0))) (by simp [results, Try.results55, go_sem, crdv, enc]) rfl ⟨rfl, (Ch.refl _ w).alloc _⟩
    · have b1 : (at_ == 1) = false := beq_eq_false_iff_ne.2 h1
      have b2 : (at_ == 2) = false := beq_eq_false_iff_ne.2 h2
      by_cases h3 : 3 ≤ at_ ∧ at_ ≤ 12
      · have hc : crd at_ = some (⟨4, at_ - 1, 0, 0, 4, 1⟩, 262 + 2 * (at_ - 3)) := by unfold crd; rw [if_neg h1, if_neg h2, if_pos h3]
        obtain ⟨c1, c2⟩ := h3
        rw [hc]
        go_enter Try.func55, Try.ntmps55
        go_wp2
        refine bodyPost_ret (v := crdv (some (⟨4, at_ - 1, 0, 0, 4, 1⟩, 262 + 2 * (at_ - 3)))) (by simp [results, Try.results55, go_sem, crdv, enc]) rfl ⟨rfl, (Ch.refl _ w).alloc _⟩
      · have hc : crd at_ = none := by unfold crd; rw [if_neg h1, if_neg h2, if_neg h3]
        rw [hc]
        by_cases c1 : 3 ≤ at_
        · have c2 : ¬ at_ ≤ 12 := by omega
          clear h3
          go_enter Try.func55, Try.ntmps55
          go_wp2
          refine bodyPost_ret (v := crdv none) (by simp [results, Try.results55, go_sem, crdv, enc, Hd.zero]) rfl ⟨rfl, (Ch.refl _ w).alloc _⟩
        · clear h3
          go_enter Try.func55, Try.ntmps55
          go_wp2
          refine bodyPost_ret (v := crdv none) (by simp [results, Try.results55, go_sem, crdv, enc, Hd.zero]) rfl ⟨rfl, (Ch.refl _ w).alloc _⟩
set_option maxHeartbeats 8000000 in
set_option maxRecDepth 100000 in
theorem hmay_4 (w : World) (c el o f n : Int) (f0 : 0 ≤ f) :
    Calls Try.prog 25 #[enc ⟨4, c, el, o, f, n⟩] w fun e w' => e = .returned (.bool (hmay ⟨4, c, el, o, f, n⟩)) ∧ Ch (fun _ => False) w w' := by
  unfold enc
  dsimp only
  go_enter Try.func25, Try.ntmps25
  go_wp2
  all_goals
    go_ret
    refine ⟨?_, (Ch.refl _ w).alloc _⟩
    refine congrArg (fun b => Ending.returned (Value.bool b)) ?_
    first | (simp [hmay]; done) | (simp [hmay]; omega) | (rw [Bool.eq_iff_iff]; simp [hmay]; omega)
set_option maxHeartbeats 8000000 in
set_option maxRecDepth 100000 in
theorem hmay_5 (w : World) (c el o f n : Int) (f0 : 0 ≤ f) :
    Calls Try.prog 25 #[enc ⟨5, c, el, o, f, n⟩] w fun e w' => e = .returned (.bool (hmay ⟨5, c, el, o, f, n⟩)) ∧ Ch (fun _ => False) w w' := by
  unfold enc
  dsimp only
  go_enter Try.func25, Try.ntmps25
  go_wp2
  all_goals
    go_ret
    refine ⟨?_, (Ch.refl _ w).alloc _⟩
    refine congrArg (fun b => Ending.returned (Value.bool b)) ?_
    first | (simp [hmay]; done) | (simp [hmay]; omega) | (rw [Bool.eq_iff_iff]; simp [hmay]; omega)
set_option maxHeartbeats 8000000 in
set_option maxRecDepth 100000 in
theorem hmay_6 (w : World) (c el o f n : Int) (f0 : 0 ≤ f) :
    Calls Try.prog 25 #[enc ⟨6, c, el, o, f, n⟩] w fun e w' => e = .returned (.bool (hmay ⟨6, c, el, o, f, n⟩)) ∧ Ch (fun _ => False) w w' := by
  unfold enc
  dsimp only
  go_enter Try.func25, Try.ntmps25
  go_wp2
  all_goals
    go_ret
    refine ⟨?_, (Ch.refl _ w).alloc _⟩
    refine congrArg (fun b => Ending.returned (Value.bool b)) ?_
    first | (simp [hmay]; done) | (simp [hmay]; omega) | (rw [Bool.eq_iff_iff]; simp [hmay]; omega)
set_option maxHeartbeats 8000000 in
set_option maxRecDepth 100000 in
theorem hmay_7 (w : World) (c el o f n : Int) (f0 : 0 ≤ f) :
    Calls Try.prog 25 #[enc ⟨7, c, el, o, f, n⟩] w fun e w' => e = .returned (.bool (hmay ⟨7, c, el, o, f, n⟩)) ∧ Ch (fun _ => False) w w' := by
  unfold enc
  dsimp only
  go_enter Try.func25, Try.ntmps25
  go_wp2
  all_goals
    go_ret
    refine ⟨?_, (Ch.refl _ w).alloc _⟩
    refine congrArg (fun b => Ending.returned (Value.bool b)) ?_
    first | (simp [hmay]; done) | (simp [hmay]; omega) | (rw [Bool.eq_iff_iff]; simp [hmay]; omega)
set_option maxHeartbeats 8000000 in
set_option maxRecDepth 100000 in
theorem hmay_8 (w : World) (c el o f n : Int) (f0 : 0 ≤ f) :
    Calls Try.prog 25 #[enc ⟨8, c, el, o, f, n⟩] w fun e w' => e = .returned (.bool (hmay ⟨8, c, el, o, f, n⟩)) ∧ Ch (fun _ => False) w w' := by
  unfold enc
  dsimp only
  go_enter Try.func25, Try.ntmps25
  go_wp2
  all_goals
    go_ret
    refine ⟨?_, (Ch.refl _ w).alloc _⟩
    refine congrArg (fun b => Ending.returned (Value.bool b)) ?_
    first | (simp [hmay]; done) | (simp [hmay]; omega) | (rw [Bool.eq_iff_iff]; simp [hmay]; omega)
set_option maxHeartbeats 8000000 in
set_option maxRecDepth 100000 in
theorem hmay_no (w : World) (k c el o f n : Int) (h : ¬ (4 ≤ k ∧ k ≤ 8)) :
    Calls Try.prog 25 #[enc ⟨k, c, el, o, f, n⟩] w fun e w' => e = .returned (.bool (hmay ⟨k, c, el, o, f, n⟩)) ∧ Ch (fun _ => False) w w' := by
  have b4 : (k == 4) = false := beq_eq_false_iff_ne.2 (by omega)
  have b5 : (k == 5) = false := beq_eq_false_iff_ne.2 (by omega)
  have b6 : (k == 6) = false := beq_eq_false_iff_ne.2 (by omega)
  have b7 : (k == 7) = false := beq_eq_false_iff_ne.2 (by omega)
  have b8 : (k == 8) = false := beq_eq_false_iff_ne.2 (by omega)
  have hm : hmay ⟨k, c, el, o, f, n⟩ = false := by simp only [hmay, decide_eq_false_iff_not]; rintro ⟨h1, h2, _⟩; exact h ⟨h1, h2⟩
  rw [hm]
  clear hm h
  unfold enc
  dsimp only
  go_enter Try.func25, Try.ntmps25
  go_wp2
  all_goals
    go_ret
    exact ⟨rfl, (Ch.refl _ w).alloc _⟩
theorem hmay_any (w : World) (x : Hd) (f0 : 0 ≤ x.flags) :
    Calls Try.prog 25 #[enc x] w fun e w' => e = .returned (.bool (hmay x)) ∧ Ch (fun _ => False) w w' := by
  obtain ⟨k, c, el, o, f, n⟩ := x
  by_cases h : 4 ≤ k ∧ k ≤ 8
  · rcases (by omega : k = 4 ∨ k = 5 ∨ k = 6 ∨ k = 7 ∨ k = 8) with rfl | rfl | rfl | rfl | rfl
    · exact hmay_4 w c el o f n f0
    · exact hmay_5 w c el o f n f0
    · exact hmay_6 w c el o f n f0
    · exact hmay_7 w c el o f n f0
    · exact hmay_8 w c el o f n f0
  · exact hmay_no w k c el o f n h
end Go.Proofs.Ytjeaidmmhplglaa.Nvm
