/- The walk of NvmCut. -/
import Derived.Test.YtacfnlokflgpeaaNvmLaws
namespace Go.Proofs.Ytacfnlokflgpeaa.Nvm
open Go.RowKit Go.Proofs.Ytacfnlokflgpeaa.Base
/-- Behind k writes, a of which are done. -/
structure At (s : St) (a k : Nat) : Prop where
  len : s.l.length = 4096
  wr : s.wr = ((min k a : Nat) : Int)
  st : (k ≤ a ∧ s.dark = false ∧ s.left = some ((a - k : Nat) : Int)) ∨ (a < k ∧ s.dark = true)
theorem At.step {s : St} {a k : Nat} (h : At s a k) (ha : a ≤ 255) (hk : k < 60) (b : Int) :
    At (s.put k b).1 a (k + 1) ∧ (s.put k b).2 = if k < a then 0 else 13 := by
  obtain ⟨hl, hw, hs⟩ := h
  rcases hs with ⟨h1, h2, h3⟩ | ⟨h1, h2⟩
  · by_cases c : k < a
    · rw [St.put_eval h2 (by omega) (by omega) (by rw [h3]; simp; omega), if_pos c]
      refine ⟨⟨by simpa using hl, ?_, Or.inl ⟨by omega, rfl, ?_⟩⟩, rfl⟩
      · show wrap64 (s.wr + 1) = _
        rw [hw]
        unfold wrap64
        omega
      · show s.left.map (· - 1) = _
        rw [h3]
        simp
        omega
    · obtain rfl : k = a := by omega
      rw [St.put_end h2 (by omega) (by omega) (by rw [h3]; simp), if_neg c]
      exact ⟨⟨hl, by show s.wr = _; rw [hw]; omega, Or.inr ⟨by omega, rfl⟩⟩, rfl⟩
  · have e : s.put k b = (s, 13) := by unfold St.put; rw [if_pos h2]
    rw [e, if_neg (by omega)]
    exact ⟨⟨hl, by show s.wr = _; rw [hw]; omega, Or.inr ⟨by omega, h2⟩⟩, rfl⟩
set_option maxHeartbeats 4000000 in
set_option maxRecDepth 100000 in
theorem cut_walk (w : World) (A : Option Addr) (a len cap : Nat) (ha : a ≤ 255) (hlen : len ≤ 9223372036854775807)
    (hl : ∀ k, k < len → ∃ (b o : Nat) (v : Int), A = some ⟨b, o, none⟩ ∧ b < w.heap.size ∧ w.cell? ⟨b, o + k, none⟩ = some (.int .u8 v) ∧ 0 ≤ v ∧ v ≤ 255) :
    Calls Try.prog 3 #[.int .u8 a, .slice A len cap] w fun e w' => e = .returned (.bool true) ∧ Below w.heap.size w w' := by
  have HL := Lib.hid hl
  clear hl
  have H1 := Lib.hid (new_ok w 4096 (by omega) (by omega) (by omega))
  have hl0 : (fresh 4096).l.length = 4096 := by simp [fresh]
  have hA : At ((fresh 4096).cut a).1 a 0 ∧ ((fresh 4096).cut a).2 = 0 := by
    unfold St.cut
    rw [if_neg (by omega)]
    exact ⟨⟨hl0, by show (0 : Int) = _; omega, Or.inl ⟨by omega, rfl, rfl⟩⟩, rfl⟩
  generalize fresh 4096 = s0 at *
  have HA := Lib.hid hA
  clear hA hl0
  go_enter Try.func3, Try.ntmps3
  go_wp2_with fail
  refine H1.out.mono ?_
  rintro e w1 ⟨F, N, rfl, n1, lo, c1⟩
  clear H1
  go_wp2_with fail
  refine (cut_any n1 (a : Int) (by omega)).mono ?_
  rintro e w2 ⟨rfl, n2, c2⟩
  rw [HA.out.2]
  have lo2 : ∀ k, Grow F w1 w2 k → w.heap.size ≤ k := fun k h => by
    rcases h with h | h
    · exact lo k h
    · exact Nat.le_trans c1.size h.1
  have c := c1.trans c2 (U := fun _ => False) (fun _ h => h) (fun k h => Or.inr (lo k h))
  have hAt := HA.out.1
  clear HA n1 c1 c2 lo
  generalize Grow F w1 w2 = G at *
  generalize (s0.cut a).1 = s at *
  clear w1
  go_wp2_with fail
  go_loopw [7] (fun i wr => ∃ k : Nat, k ≤ len ∧ k ≤ 60 ∧ i = .int .i64 k ∧ ∃ s, At s a k ∧ Nv wr G N s ∧ Ch (fun _ => False) w wr) (fun i _ => len - (intOf i).toNat)
  case atStart => exact ⟨0, by omega, by omega, rfl, s, hAt, n2, c⟩
  case round =>
    clear hAt n2 c
    obtain ⟨k, hk1, hk2, rfl, s1, hs, hn, hc⟩ := hrel
    by_cases hlt : k < len
    · have hi : (k : Int) < (len : Int) := by omega
      by_cases h60 : (k : Int) < 60
      · obtain ⟨b, o, v, rfl, hb, e0, v0, v1⟩ := HL.out k hlt
        have e1 := (hc.cell (p := ⟨b, o + k, none⟩) hb (fun h => h)).trans e0
        clear e0
        have hst := hs.step ha (by omega) v
        have P := Lib.hid (put_any hn (k : Int) v v0 v1)
        by_cases hka : (k : Int) < (a : Int)
        · rw [if_pos (by omega)] at hst
          have HS := Lib.hid hst
          clear hst hs hn
          go_wp2_with fail
          refine P.out.mono ?_
          rintro e w3 ⟨rfl, n3, c3⟩
          have hs3 := HS.out.1
          rw [HS.out.2]
          generalize (s1.put k v).1 = s3 at *
          clear HS P
          go_wp2
          go_roundw
          case rel => exact ⟨k + 1, by omega, by omega, by go_num, s3, hs3, n3, hc.trans c3 (fun _ h => h) (fun k h => Or.inr (lo2 k h))⟩
          case measure => simp [intOf]; omega
        · rw [if_neg (by omega)] at hst
          have HS := Lib.hid hst
          clear hst hs hn
          go_wp2_with fail
          refine P.out.mono ?_
          rintro e w3 ⟨rfl, n3, c3⟩
          have hs3 := HS.out.1
          rw [HS.out.2]
          generalize (s1.put k v).1 = s3 at *
          clear HS P
          go_wp2
          go_roundw
          case rel => exact ⟨k + 1, by omega, by omega, by go_num, s3, hs3, n3, hc.trans c3 (fun _ h => h) (fun k h => Or.inr (lo2 k h))⟩
          case measure => simp [intOf]; omega
      · obtain rfl : k = 60 := by omega
        by_cases hm : a < 60
        · have f1 : (a : Int) < 60 := by omega
          have f2 : (a : Int) < (len : Int) := by omega
          have hw : s1.wr = (a : Int) := by rw [hs.wr]; omega
          have ln := hs.len
          have hP : s1.on.put 0 1 = (⟨s1.l.set 0 1, none, false, (a : Int) + 1⟩, 0) := by
            rw [St.put_eval rfl (by omega) (by show (0 : Int) < s1.l.length; omega) (by simp [St.on])]
            have ew : wrap64 (s1.wr + 1) = (a : Int) + 1 := by rw [hw]; unfold wrap64; omega
            show ((⟨s1.l.set 0 1, none, false, wrap64 (s1.wr + 1)⟩ : St), (0 : Int)) = _
            rw [ew]
          have KP := Lib.hid hP
          have KW := Lib.hid hw
          clear hP hw ln hs
          go_wp2_with fail
          all_goals (refine (writes_any hn).mono ?_; rintro e w' ⟨rfl, rfl⟩; rw [KW.out])
          all_goals (go_wp2_with fail)
          all_goals (refine (on_any hn).mono ?_; rintro e w4 ⟨rfl, n4, c4⟩)
          all_goals (go_wp2_with fail)
          all_goals (refine (put_any n4 0 1 (by omega) (by omega)).mono ?_; rintro e w5 ⟨rfl, n5, c5⟩; rw [KP.out] at n5 ⊢)
          all_goals (go_wp2_with fail)
          all_goals (refine (writes_any n5).mono ?_; rintro e w' ⟨rfl, rfl⟩)
          all_goals (go_wp2_with fail)
          all_goals (refine (works_ok _).mono ?_; rintro e w6 ⟨rfl, c6⟩)
          all_goals (go_wp2; go_ret)
          all_goals (exact ⟨rfl, (((hc.trans c4 (U := fun _ => False) (fun _ h => h) (fun k h => Or.inr (lo2 k h))).trans c5 (U := fun _ => False) (fun _ h => h) (fun k h => Or.inr (lo2 k h))).trans c6 (U := fun _ => False) (fun _ h => h) (fun _ h => h.elim)).below (fun _ h => h.elim) (Nat.le_refl _)⟩)
        · have f1 : ¬ (a : Int) < 60 := by omega
          have f2 : ¬ (len : Int) < 60 := by omega
          have hw : s1.wr = 60 := by rw [hs.wr]; omega
          have ln := hs.len
          have hP : s1.on.put 0 1 = (⟨s1.l.set 0 1, none, false, 60 + 1⟩, 0) := by
            rw [St.put_eval rfl (by omega) (by show (0 : Int) < s1.l.length; omega) (by simp [St.on])]
            have ew : wrap64 (s1.wr + 1) = 60 + 1 := by rw [hw]; unfold wrap64; omega
            show ((⟨s1.l.set 0 1, none, false, wrap64 (s1.wr + 1)⟩ : St), (0 : Int)) = _
            rw [ew]
          have KP := Lib.hid hP
          have KW := Lib.hid hw
          clear hP hw ln hs
          go_wp2_with fail
          all_goals (refine (writes_any hn).mono ?_; rintro e w' ⟨rfl, rfl⟩; rw [KW.out])
          all_goals (go_wp2_with fail)
          all_goals (refine (on_any hn).mono ?_; rintro e w4 ⟨rfl, n4, c4⟩)
          all_goals (go_wp2_with fail)
          all_goals (refine (put_any n4 0 1 (by omega) (by omega)).mono ?_; rintro e w5 ⟨rfl, n5, c5⟩; rw [KP.out] at n5 ⊢)
          all_goals (go_wp2_with fail)
          all_goals (refine (writes_any n5).mono ?_; rintro e w' ⟨rfl, rfl⟩)
          all_goals (go_wp2_with fail)
          all_goals (refine (works_ok _).mono ?_; rintro e w6 ⟨rfl, c6⟩)
          all_goals (go_wp2; go_ret)
          all_goals (exact ⟨rfl, (((hc.trans c4 (U := fun _ => False) (fun _ h => h) (fun k h => Or.inr (lo2 k h))).trans c5 (U := fun _ => False) (fun _ h => h) (fun k h => Or.inr (lo2 k h))).trans c6 (U := fun _ => False) (fun _ h => h) (fun _ h => h.elim)).below (fun _ h => h.elim) (Nat.le_refl _)⟩)
    · obtain rfl : k = len := by omega
      have hi : ¬ (k : Int) < (k : Int) := by omega
      by_cases hm : a < k
      · have f1 : (a : Int) < (k : Int) := by omega
        have f2 : (a : Int) < 60 := by omega
        have hw : s1.wr = (a : Int) := by rw [hs.wr]; omega
        have ln := hs.len
        have hP : s1.on.put 0 1 = (⟨s1.l.set 0 1, none, false, (a : Int) + 1⟩, 0) := by
          rw [St.put_eval rfl (by omega) (by show (0 : Int) < s1.l.length; omega) (by simp [St.on])]
          have ew : wrap64 (s1.wr + 1) = (a : Int) + 1 := by rw [hw]; unfold wrap64; omega
          show ((⟨s1.l.set 0 1, none, false, wrap64 (s1.wr + 1)⟩ : St), (0 : Int)) = _
          rw [ew]
        have KP := Lib.hid hP
        have KW := Lib.hid hw
        clear hP hw ln hs
        go_wp2_with fail
        all_goals (refine (writes_any hn).mono ?_; rintro e w' ⟨rfl, rfl⟩; rw [KW.out])
        all_goals (go_wp2_with fail)
        all_goals (refine (on_any hn).mono ?_; rintro e w4 ⟨rfl, n4, c4⟩)
        all_goals (go_wp2_with fail)
        all_goals (refine (put_any n4 0 1 (by omega) (by omega)).mono ?_; rintro e w5 ⟨rfl, n5, c5⟩; rw [KP.out] at n5 ⊢)
        all_goals (go_wp2_with fail)
        all_goals (refine (writes_any n5).mono ?_; rintro e w' ⟨rfl, rfl⟩)
        all_goals (go_wp2_with fail)
        all_goals (refine (works_ok _).mono ?_; rintro e w6 ⟨rfl, c6⟩)
        all_goals (go_wp2; go_ret)
        all_goals (exact ⟨rfl, (((hc.trans c4 (U := fun _ => False) (fun _ h => h) (fun k h => Or.inr (lo2 k h))).trans c5 (U := fun _ => False) (fun _ h => h) (fun k h => Or.inr (lo2 k h))).trans c6 (U := fun _ => False) (fun _ h => h) (fun _ h => h.elim)).below (fun _ h => h.elim) (Nat.le_refl _)⟩)
      · have f1 : ¬ (a : Int) < (k : Int) := by omega
        have f2 : (k : Int) ≤ 60 := by omega
        have hw : s1.wr = (k : Int) := by rw [hs.wr]; omega
        have ln := hs.len
        have hP : s1.on.put 0 1 = (⟨s1.l.set 0 1, none, false, (k : Int) + 1⟩, 0) := by
          rw [St.put_eval rfl (by omega) (by show (0 : Int) < s1.l.length; omega) (by simp [St.on])]
          have ew : wrap64 (s1.wr + 1) = (k : Int) + 1 := by rw [hw]; unfold wrap64; omega
          show ((⟨s1.l.set 0 1, none, false, wrap64 (s1.wr + 1)⟩ : St), (0 : Int)) = _
          rw [ew]
        have KP := Lib.hid hP
        have KW := Lib.hid hw
        clear hP hw ln hs
        go_wp2_with fail
        all_goals (refine (writes_any hn).mono ?_; rintro e w' ⟨rfl, rfl⟩; rw [KW.out])
        all_goals (go_wp2_with fail)
        all_goals (refine (on_any hn).mono ?_; rintro e w4 ⟨rfl, n4, c4⟩)
        all_goals (go_wp2_with fail)
        all_goals (refine (put_any n4 0 1 (by omega) (by omega)).mono ?_; rintro e w5 ⟨rfl, n5, c5⟩; rw [KP.out] at n5 ⊢)
        all_goals (go_wp2_with fail)
        all_goals (refine (writes_any n5).mono ?_; rintro e w' ⟨rfl, rfl⟩)
        all_goals (go_wp2_with fail)
        all_goals (refine (works_ok _).mono ?_; rintro e w6 ⟨rfl, c6⟩)
        all_goals (go_wp2; go_ret)
        all_goals (exact ⟨rfl, (((hc.trans c4 (U := fun _ => False) (fun _ h => h) (fun k h => Or.inr (lo2 k h))).trans c5 (U := fun _ => False) (fun _ h => h) (fun k h => Or.inr (lo2 k h))).trans c6 (U := fun _ => False) (fun _ h => h) (fun _ h => h.elim)).below (fun _ h => h.elim) (Nat.le_refl _)⟩)
theorem cut_law (w : World) (A : Option Addr) (a : Int) (len cap : Nat) (ha : (Lit.int .u8 a).wf = true) (hlen : len ≤ 9223372036854775807)
    (hl : ∀ k, k < len → ∃ (b o : Nat) (v : Int), A = some ⟨b, o, none⟩ ∧ b < w.heap.size ∧ w.cell? ⟨b, o + k, none⟩ = some (.int .u8 v) ∧ 0 ≤ v ∧ v ≤ 255) :
    Calls Try.prog 3 #[.int .u8 a, .slice A len cap] w fun e w' => e = .returned (.bool true) ∧ Below w.heap.size w w' := by
  have hv := bounds_u8 ha
  obtain ⟨n, rfl⟩ : ∃ n : Nat, a = n := ⟨a.toNat, by omega⟩
  exact cut_walk w A n len cap (by omega) hlen hl
theorem len_of {H : Type} {enc : TypeId × Value → H} {w : World} {sp : Nat → Bool} {held : Bool} {A : Option Addr} {len cap : Nat} {d : DataW H} {ps : List MemPlace}
    (h : DataW.Trod enc Try.prog w 0 sp held 22 (.slice A len cap) d ps) : len ≤ 9223372036854775807 := by
  obtain ⟨l, ⟨A', c', e, _, hl, hm, _⟩, _, _⟩ := (Opn.opens_slice Try.underlying22 (by kernel_rfl) (Opn.opens_int Try.underlying5)).arg h
  simp [Value.cells] at e
  obtain ⟨rfl, rfl, rfl⟩ := e
  exact hm
end Go.Proofs.Ytacfnlokflgpeaa.Nvm
