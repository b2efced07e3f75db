/- What the statements' own works tells (nvm), and the refusals of no memory and of a zero one. -/
import Derived.Test.YtacfnlokflgpeaaNvm
namespace Go.Proofs.Ytacfnlokflgpeaa.Nvm
open Go.RowKit Go.Proofs.Ytacfnlokflgpeaa.Base
theorem St.put_eval {s : St} {at_ b : Int} (hd : s.dark = false) (h0 : 0 ≤ at_) (h1 : at_ < s.l.length) (hl : s.left ≠ some 0) : s.put at_ b = (⟨s.l.set at_.toNat b, s.left.map (· - 1), false, wrap64 (s.wr + 1)⟩, 0) := by
  unfold St.put
  rw [if_neg (by simp [hd]), if_neg (by omega), if_neg hl, hd]
theorem St.put_end {s : St} {at_ b : Int} (hd : s.dark = false) (h0 : 0 ≤ at_) (h1 : at_ < s.l.length) (hl : s.left = some 0) : s.put at_ b = ({ s with dark := true }, 13) := by
  unfold St.put
  rw [if_neg (by simp [hd]), if_neg (by omega), if_pos hl]
theorem St.get_eval {s : St} {at_ : Int} (hd : s.dark = false) (h0 : 0 ≤ at_) (h1 : at_ < s.l.length) : s.get at_ = (s.l.getD at_.toNat 0, 0) := by
  unfold St.get
  rw [if_neg (by simp [hd]), if_neg (by omega)]
theorem St.get_dark {s : St} {at_ : Int} (hd : s.dark = true) : s.get at_ = (0, 13) := by
  unfold St.get
  rw [if_pos hd]
theorem zero_getD (n j : Nat) : (List.replicate n (0 : Int)).getD j 0 = 0 := by
  rw [List.getD_eq_getElem?_getD, List.getElem?_replicate]
  split <;> rfl
set_option maxHeartbeats 4000000 in
set_option maxRecDepth 100000 in
theorem works_ok (w : World) : Calls Try.prog 11 #[] w fun e w' => e = .returned (.bool true) ∧ Ch (fun _ => False) w w' := by
  have H0 := Lib.hid (new_bad w 4095 (by omega))
  have H1 := Lib.hid (new_ok w 4096 (by omega) (by omega) (by omega))
  have hl : (fresh 4096).l.length = 4096 := by simp [fresh]
  have hg : ∀ j, (fresh 4096).l.getD j 0 = 0 := fun j => zero_getD _ _
  have hdk : (fresh 4096).dark = false := rfl
  have hlf : (fresh 4096).left = none := rfl
  generalize fresh 4096 = s0 at *
  have P1 : s0.put 5 7 = (⟨s0.l.set 5 7, none, false, wrap64 (s0.wr + 1)⟩, 0) := by rw [St.put_eval hdk (by omega) (by omega) (by simp [hlf]), hlf]; rfl
  generalize wrap64 (s0.wr + 1) = w1 at *
  have P2 : (⟨s0.l.set 5 7, none, false, w1⟩ : St).get 5 = (7, 0) := by
    rw [St.get_eval rfl (by omega) (by simp [hl])]
    show ((s0.l.set 5 7).getD 5 0, (0 : Int)) = _
    rw [set_getD, if_pos ⟨rfl, by omega⟩]
  have P3 : (⟨s0.l.set 5 7, none, false, w1⟩ : St).cut 1 = (⟨s0.l.set 5 7, some 1, false, w1⟩, 0) := rfl
  have P4 : (⟨s0.l.set 5 7, some 1, false, w1⟩ : St).put 5 8 = (⟨(s0.l.set 5 7).set 5 8, some 0, false, wrap64 (w1 + 1)⟩, 0) := by
    rw [St.put_eval rfl (by omega) (by simp [hl]) (by simp)]; rfl
  generalize wrap64 (w1 + 1) = w2 at *
  have P5 : (⟨(s0.l.set 5 7).set 5 8, some 0, false, w2⟩ : St).put 6 9 = (⟨(s0.l.set 5 7).set 5 8, some 0, true, w2⟩, 13) := St.put_end rfl (by omega) (by simp [hl]) rfl
  have P6 : (⟨(s0.l.set 5 7).set 5 8, some 0, true, w2⟩ : St).get 5 = (0, 13) := St.get_dark rfl
  have P7 : (⟨(s0.l.set 5 7).set 5 8, some 0, true, w2⟩ : St).on = ⟨(s0.l.set 5 7).set 5 8, none, false, w2⟩ := rfl
  have P8 : (⟨(s0.l.set 5 7).set 5 8, none, false, w2⟩ : St).get 5 = (8, 0) := by
    rw [St.get_eval rfl (by omega) (by simp [hl])]
    show (((s0.l.set 5 7).set 5 8).getD 5 0, (0 : Int)) = _
    rw [set_getD, if_pos ⟨rfl, by simp [hl]⟩]
  have P9 : (⟨(s0.l.set 5 7).set 5 8, none, false, w2⟩ : St).get 6 = (0, 0) := by
    rw [St.get_eval rfl (by omega) (by simp [hl])]
    show (((s0.l.set 5 7).set 5 8).getD 6 0, (0 : Int)) = _
    rw [set_getD, if_neg (by omega), set_getD, if_neg (by omega), hg]
  generalize (⟨s0.l.set 5 7, none, false, w1⟩ : St) = s1 at *
  generalize (⟨s0.l.set 5 7, some 1, false, w1⟩ : St) = s2 at *
  generalize (⟨(s0.l.set 5 7).set 5 8, some 0, false, w2⟩ : St) = s3 at *
  generalize (⟨(s0.l.set 5 7).set 5 8, some 0, true, w2⟩ : St) = s4 at *
  generalize (⟨(s0.l.set 5 7).set 5 8, none, false, w2⟩ : St) = s5 at *
  have K1 := Lib.hid P1
  have K2 := Lib.hid P2
  have K3 := Lib.hid P3
  have K4 := Lib.hid P4
  have K5 := Lib.hid P5
  have K6 := Lib.hid P6
  have K7 := Lib.hid P7
  have K8 := Lib.hid P8
  have K9 := Lib.hid P9
  clear P1 P2 P3 P4 P5 P6 P7 P8 P9 hl hg hdk hlf
  go_enter Try.func11, Try.ntmps11
  go_wp2_with fail
  refine H0.out.mono ?_
  rintro e w' ⟨rfl, rfl⟩
  go_wp2_with fail
  refine H1.out.mono ?_
  rintro e wA ⟨F, N, rfl, n1, lo, cA⟩
  clear H0 H1
  have base : ∀ k, F k → False ∨ w.heap.size ≤ k := fun k h => Or.inr (lo k h)
  go_wp2_with fail
  refine (put_any n1 5 7 (by omega) (by omega)).mono ?_
  rintro e wB ⟨rfl, n2, cB⟩
  have dB := cA.trans cB (U := fun _ => False) (fun _ h => h) base
  clear cA cB
  rw [K1.out] at n2 ⊢
  go_wp2_with fail
  refine (get_any n2 5).mono ?_
  rintro e w' ⟨rfl, rfl⟩
  rw [K2.out]
  go_wp2_with fail
  refine (cut_any n2 1 (by omega)).mono ?_
  rintro e wC ⟨rfl, n3, cC⟩
  have lo3 : ∀ k, Grow F wB wC k → False ∨ w.heap.size ≤ k := fun k h => by
    rcases h with h | h
    · exact base k h
    · exact Or.inr (Nat.le_trans dB.size h.1)
  have dC := dB.trans cC (U := fun _ => False) (fun _ h => h) base
  clear dB cC
  rw [K3.out] at n3 ⊢
  generalize Grow F wB wC = F3 at *
  go_wp2_with fail
  refine (put_any n3 5 8 (by omega) (by omega)).mono ?_
  rintro e wD ⟨rfl, n4, cD⟩
  have dD := dC.trans cD (U := fun _ => False) (fun _ h => h) lo3
  clear dC cD
  rw [K4.out] at n4 ⊢
  go_wp2_with fail
  refine (put_any n4 6 9 (by omega) (by omega)).mono ?_
  rintro e wE ⟨rfl, n5, cE⟩
  have dE := dD.trans cE (U := fun _ => False) (fun _ h => h) lo3
  clear dD cE
  rw [K5.out] at n5 ⊢
  go_wp2_with fail
  refine (get_any n5 5).mono ?_
  rintro e w' ⟨rfl, rfl⟩
  rw [K6.out]
  go_wp2_with fail
  refine (on_any n5).mono ?_
  rintro e wF ⟨rfl, n6, cF⟩
  have dF := dE.trans cF (U := fun _ => False) (fun _ h => h) lo3
  clear dE cF
  rw [K7.out] at n6
  go_wp2_with fail
  refine (get_any n6 5).mono ?_
  rintro e w' ⟨rfl, rfl⟩
  rw [K8.out]
  go_wp2_with fail
  refine (get_any n6 6).mono ?_
  rintro e w' ⟨rfl, rfl⟩
  rw [K9.out]
  go_wp2
  go_ret
  exact ⟨rfl, dF⟩
/-- No memory, or a zero one. -/
def Off (w : World) (v : Value) : Prop := v = .pointer none ∨ ∃ B, v = .pointer (some ⟨B, 0, none⟩) ∧ w.cell? ⟨B, 0, none⟩ = some (.slice none 0 0)
set_option maxHeartbeats 4000000 in
set_option maxRecDepth 100000 in
theorem off_off (w : World) (v : Value) (h : Off w v) : Calls Try.prog 16 #[v] w fun e w' => e = .returned (.bool true) ∧ w = w' := by
  rcases h with rfl | ⟨B, rfl, hz⟩
  · go_enter Try.func16, Try.ntmps16
    go_wp2
    go_ret
    exact ⟨rfl, rfl⟩
  · have hn := fun wx : World => Lib.run_eql_slice_nil (P := Try.prog) wx 22 5 none 0 0 0 0 Try.underlying22
    go_enter Try.func16, Try.ntmps16
    go_wp2
    go_ret
    exact ⟨rfl, rfl⟩
set_option maxHeartbeats 4000000 in
set_option maxRecDepth 100000 in
theorem ask_off (w : World) (v : Value) (a : Int) (h : Off w v) : Calls Try.prog 17 #[v, .int .i64 a] w fun e w' => e = .returned (.int .i64 1) ∧ w = w' := by
  have HO := Lib.hid h
  clear h
  go_enter Try.func17, Try.ntmps17
  go_wp2_with (go_at_call 16; refine (off_off _ _ HO.out).mono ?_; rintro e w' ⟨rfl, rfl⟩)
  go_ret
  exact ⟨rfl, rfl⟩
set_option maxHeartbeats 4000000 in
set_option maxRecDepth 100000 in
theorem get_off (w : World) (v : Value) (a : Int) (h : Off w v) : Calls Try.prog 15 #[v, .int .i64 a] w fun e w' => e = .returned (.tuple #[.int .u8 0, .int .i64 1]) ∧ w = w' := by
  have HO := Lib.hid h
  clear h
  go_enter Try.func15, Try.ntmps15
  go_wp2_with (go_at_call 17; refine (ask_off _ _ _ HO.out).mono ?_; rintro e w' ⟨rfl, rfl⟩)
  go_ret2
  exact ⟨rfl, rfl⟩
set_option maxHeartbeats 4000000 in
set_option maxRecDepth 100000 in
theorem put_off (w : World) (v : Value) (a b : Int) (h : Off w v) : Calls Try.prog 8 #[v, .int .i64 a, .int .u8 b] w fun e w' => e = .returned (.int .i64 1) ∧ w = w' := by
  have HO := Lib.hid h
  clear h
  go_enter Try.func8, Try.ntmps8
  go_wp2_with (go_at_call 17; refine (ask_off _ _ _ HO.out).mono ?_; rintro e w' ⟨rfl, rfl⟩)
  go_ret
  exact ⟨rfl, rfl⟩
set_option maxHeartbeats 4000000 in
set_option maxRecDepth 100000 in
theorem on_off (w : World) (v : Value)  (h : Off w v) : Calls Try.prog 10 #[v] w fun e w' => e = .returned (.int .i64 1) ∧ w = w' := by
  have HO := Lib.hid h
  clear h
  go_enter Try.func10, Try.ntmps10
  go_wp2_with (go_at_call 16; refine (off_off _ _ HO.out).mono ?_; rintro e w' ⟨rfl, rfl⟩)
  go_ret
  exact ⟨rfl, rfl⟩
set_option maxHeartbeats 4000000 in
set_option maxRecDepth 100000 in
theorem size_off (w : World) (v : Value)  (h : Off w v) : Calls Try.prog 14 #[v] w fun e w' => e = .returned (.int .i64 0) ∧ w = w' := by
  have HO := Lib.hid h
  clear h
  go_enter Try.func14, Try.ntmps14
  go_wp2_with (go_at_call 16; refine (off_off _ _ HO.out).mono ?_; rintro e w' ⟨rfl, rfl⟩)
  go_ret
  exact ⟨rfl, rfl⟩
set_option maxHeartbeats 4000000 in
set_option maxRecDepth 100000 in
theorem writes_off (w : World) (v : Value)  (h : Off w v) : Calls Try.prog 9 #[v] w fun e w' => e = .returned (.int .i64 0) ∧ w = w' := by
  have HO := Lib.hid h
  clear h
  go_enter Try.func9, Try.ntmps9
  go_wp2_with (go_at_call 16; refine (off_off _ _ HO.out).mono ?_; rintro e w' ⟨rfl, rfl⟩)
  go_ret
  exact ⟨rfl, rfl⟩
theorem Off.alloc {w : World} {v : Value} (h : Off w v) (o : Obj) : Off (w.alloc o) v := by
  rcases h with rfl | ⟨B, rfl, hz⟩
  · exact Or.inl rfl
  · exact Or.inr ⟨B, rfl, Lib.cell?_alloc_some o hz⟩
set_option maxHeartbeats 4000000 in
set_option maxRecDepth 100000 in
theorem cut_off (w : World) (v : Value) (a : Int) (h : Off w v) : Calls Try.prog 7 #[v, .int .i64 a] w fun e w' => e = .returned (.int .i64 1) ∧ w' = w.alloc (.cells #[.int .i64 a] 3) := by
  have HO := Lib.hid (h.alloc (.cells #[.int .i64 a] 3))
  clear h
  go_enter Try.func7, Try.ntmps7
  go_wp2_with (go_at_call 16; refine (off_off _ _ HO.out).mono ?_; rintro e w' ⟨rfl, rfl⟩)
  go_ret
  exact ⟨rfl, rfl⟩
set_option maxHeartbeats 4000000 in
set_option maxRecDepth 100000 in
theorem bytes_off (w : World) (v : Value) (h : Off w v) : Calls Try.prog 13 #[v] w fun e w' => e = .returned (.slice (some ⟨w.heap.size, 0, none⟩) 0 0) ∧ w' = w.alloc (.cells (cr []) 5) := by
  have HO := Lib.hid h
  clear h
  have hmk : (Instr.makeSlice 22 (.int .i64 0) (.int .i64 0)).run Try.prog w = .ok (.slice (some ⟨w.heap.size, 0, none⟩) 0 0) (w.alloc (.cells (cr []) 5)) := run_makeBytes w 0 (by omega)
  generalize cr [] = Z at *
  go_enter Try.func13, Try.ntmps13
  go_wp2_with (go_at_call 14; refine (size_off _ _ HO.out).mono ?_; rintro e w' ⟨rfl, rfl⟩)
  go_ret
  exact ⟨rfl, rfl⟩
set_option maxHeartbeats 4000000 in
set_option maxRecDepth 100000 in
theorem nil_walk (w : World) (a b : Int) (z : Bool) : Calls Try.prog 5 #[.int .i64 a, .int .u8 b, .bool z] w fun e w' => e = .returned (.bool true) ∧ Below w.heap.size w w' := by
  cases z
  · have HO : Hid (Off w (.pointer none)) := Or.inl rfl
    have HP : Hid (Off (w.alloc (.cells #[.int .i64 a] 3)) (.pointer none)) := Or.inl rfl
    go_enter Try.func5, Try.ntmps5
    go_wp2_with (first | (go_at_call 15; refine (get_off _ _ _ HO.out).mono ?_; rintro e w' ⟨rfl, rfl⟩) | (go_at_call 8; refine (put_off _ _ _ _ HO.out).mono ?_; rintro e w' ⟨rfl, rfl⟩) | (go_at_call 7; refine (cut_off _ _ _ HO.out).mono ?_; rintro e w' ⟨rfl, rfl⟩) | (go_at_call 10; refine (on_off _ _ HP.out).mono ?_; rintro e w' ⟨rfl, rfl⟩) | (go_at_call 14; refine (size_off _ _ HP.out).mono ?_; rintro e w' ⟨rfl, rfl⟩) | (go_at_call 9; refine (writes_off _ _ HP.out).mono ?_; rintro e w' ⟨rfl, rfl⟩) | (go_at_call 13; refine (bytes_off _ _ HP.out).mono ?_; rintro e w' ⟨rfl, rfl⟩) | (go_at_call 11; refine (works_ok _).mono ?_; rintro e w' ⟨rfl, hc⟩))
    go_ret
    exact ⟨rfl, ((((Ch.refl (fun _ => False) w).alloc _).alloc _).trans hc (U := fun _ => False) (fun _ h => h) (fun _ h => h.elim)).below (fun _ h => h.elim) (Nat.le_refl _)⟩
  · have h0 : Off (w.alloc (.cells #[.slice none 0 0, .pointer none, .bool false, .int .i64 0] 43)) (.pointer (some ⟨w.heap.size, 0, none⟩)) := Or.inr ⟨_, rfl, (Blk.new w _ _).cell 0⟩
    have HO := Lib.hid h0
    have HP := Lib.hid (h0.alloc (.cells #[.int .i64 a] 3))
    clear h0
    go_enter Try.func5, Try.ntmps5
    go_wp2_with (first | (go_at_call 15; refine (get_off _ _ _ HO.out).mono ?_; rintro e w' ⟨rfl, rfl⟩) | (go_at_call 8; refine (put_off _ _ _ _ HO.out).mono ?_; rintro e w' ⟨rfl, rfl⟩) | (go_at_call 7; refine (cut_off _ _ _ HO.out).mono ?_; rintro e w' ⟨rfl, rfl⟩) | (go_at_call 10; refine (on_off _ _ HP.out).mono ?_; rintro e w' ⟨rfl, rfl⟩) | (go_at_call 14; refine (size_off _ _ HP.out).mono ?_; rintro e w' ⟨rfl, rfl⟩) | (go_at_call 9; refine (writes_off _ _ HP.out).mono ?_; rintro e w' ⟨rfl, rfl⟩) | (go_at_call 13; refine (bytes_off _ _ HP.out).mono ?_; rintro e w' ⟨rfl, rfl⟩) | (go_at_call 11; refine (works_ok _).mono ?_; rintro e w' ⟨rfl, hc⟩))
    go_ret
    exact ⟨rfl, (((((Ch.refl (fun _ => False) w).alloc _).alloc _).alloc _).trans hc (U := fun _ => False) (fun _ h => h) (fun _ h => h.elim)).below (fun _ h => h.elim) (Nat.le_refl _)⟩
end Go.Proofs.Ytacfnlokflgpeaa.Nvm
