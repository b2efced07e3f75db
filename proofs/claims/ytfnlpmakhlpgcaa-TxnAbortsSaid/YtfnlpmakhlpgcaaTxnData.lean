/- The data, copies of them, whether they are the same; and that both are ready. -/
import Derived.Test.YtfnlpmakhlpgcaaTxnPlay2
import Derived.Test.YtfnlpmakhlpgcaaTxnLaw
namespace Go.Proofs.Ytfnlpmakhlpgcaa.Nvm
open Go.RowKit Go.Proofs.Ytfnlpmakhlpgcaa.Base
/-- A block whose first n cells are these bytes. -/
def Arr (w : World) (C n : Nat) (f : Nat → Int) : Prop := ∃ cur, Blk w C cur 5 ∧ n ≤ cur.size ∧ ∀ j, j < n → cur[j]? = some (.int .u8 (f j))
theorem Arr.ch {S : Nat → Prop} {w w' : World} {C n : Nat} {f : Nat → Int} (h : Arr w C n f) (c : Ch S w w') (hn : ¬ S C) : Arr w' C n f := by
  obtain ⟨cur, b, hs, hc⟩ := h
  exact ⟨cur, b.ch c hn, hs, hc⟩
theorem Arr.lt {w : World} {C n : Nat} {f : Nat → Int} (h : Arr w C n f) : C < w.heap.size := by
  obtain ⟨cur, b, _⟩ := h
  exact b.lt
theorem Arr.cell {w : World} {C n : Nat} {f : Nat → Int} (h : Arr w C n f) (j : Nat) (hj : j < n) : w.cell? ⟨C, j, none⟩ = some (.int .u8 (f j)) := by
  obtain ⟨cur, b, _, hc⟩ := h
  rw [b.cell]; exact hc j hj
theorem Arr.free {w : World} {C n : Nat} {f : Nat → Int} (h : Arr w C n f) (j : Nat) : w.frozen? ⟨C, j, none⟩ = false := by
  obtain ⟨cur, b, _⟩ := h
  exact b.free j
theorem Arr.set {w : World} {C n : Nat} {f : Nat → Int} (h : Arr w C n f) (i : Nat) (x : Int) (hi : i < n) : Arr (w.setCell ⟨C, i, none⟩ (.int .u8 x)) C n (upd f i x) := by
  obtain ⟨cur, b, hs, hc⟩ := h
  refine ⟨_, b.set i _, by simpa using hs, fun j hj => ?_⟩
  rw [Array.getElem?_setIfInBounds]
  by_cases e : i = j
  · subst e; rw [if_pos rfl, if_pos (by omega), upd_at]
  · rw [if_neg e, upd_ne _ _ (Ne.symm e)]; exact hc j hj
theorem Arr.congr {w : World} {C n : Nat} {f g : Nat → Int} (h : Arr w C n f) (e : ∀ j, j < n → f j = g j) : Arr w C n g := by
  obtain ⟨cur, b, hs, hc⟩ := h
  exact ⟨cur, b, hs, fun j hj => by rw [← e j hj]; exact hc j hj⟩
set_option maxHeartbeats 800000 in
set_option maxRecDepth 100000 in
theorem same_ne (w : World) (A C n c d : Nat) (o q j0 : Nat) (f g : Nat → Int) (hn : n ≤ 1000000) (hA : ∀ j, j < n → w.cell? ⟨A, o + j, none⟩ = some (.int .u8 (f j))) (hC : ∀ j, j < n → w.cell? ⟨C, q + j, none⟩ = some (.int .u8 (g j))) (h0 : j0 < n) (hne : f j0 ≠ g j0) :
    Calls Try.prog 27 #[.slice (some ⟨A, o, none⟩) n c, .slice (some ⟨C, q, none⟩) n d] w fun e w' => e = .returned (.bool false) ∧ Ch (fun _ => False) w w' := by
  have HA := Lib.hid hA
  have HC := Lib.hid hC
  have HN := Lib.hid hne
  clear hA hC hne
  go_enter Try.func27, Try.ntmps27
  go_wp2
  go_loopw [5] (fun i wr => ∃ k : Nat, k ≤ j0 ∧ i = .int .i64 k ∧ ∃ m, wr = w.drewN m) (fun i _ => n - (intOf i).toNat)
  case atStart => exact ⟨0, by omega, rfl, 0, rfl⟩
  case round =>
    obtain ⟨k, hk, rfl, m, rfl⟩ := hrel
    have h1 := HA.out k (by omega)
    have h2 := HC.out k (by omega)
    have hlt' : (k : Int) < (n : Int) := by omega
    by_cases e : f k = g k
    · have hk2 : k < j0 := by
        rcases Nat.lt_or_ge k j0 with h | h
        · exact h
        · exact absurd (by rw [show j0 = k from by omega]; exact e) HN.out
      rw [← e] at h2
      clear e
      generalize f k = x at *
      go_wp2
      go_quiet (fail)
      go_wp2
      go_roundw
      case rel => exact ⟨k + 1, by omega, by go_num, _, rfl⟩
      case measure => simp [intOf]; omega
    · have e1 : (f k == g k) = false := beq_eq_false_iff_ne.2 e
      have e2 : (f k != g k) = true := bne_iff_ne.2 e
      clear e
      generalize f k = x at *
      generalize g k = y at *
      go_wp2
      go_quiet (fail)
      go_wp2
      go_ret
      exact ⟨rfl, ((Ch.refl _ _).drewN _).drewN _⟩
set_option maxHeartbeats 800000 in
set_option maxRecDepth 100000 in
theorem data_tx {w : World} {F : Nat → Prop} {T N L : Nat} {s : St} (h : Tx w F T N L s) (h5 : 512 ≤ L) :
    Calls Try.prog 23 #[.pointer (some ⟨T, 0, none⟩)] w fun e w' => ∃ B, e = .returned (.slice (some ⟨B, 512, none⟩) (L - 512) (L - 512)) ∧ w.heap.size ≤ B ∧ Blk w' B (cr s.l) 5 ∧ Ch (fun _ => False) w w' := by
  have H1 := Lib.hid (nvm_core w T N h.c0)
  have H2 := Lib.hid (bytes_blk h)
  have hl0 := h.ok.len0
  have hl1 := h.ok.len1
  have hl := h.len
  have hL : ¬ (L : Int) < 512 := by omega
  have hL2 : L ≠ 512 := by omega
  have hL3 : L ≤ 65536 := by omega
  clear hl hl0 hl1
  go_enter Try.func23, Try.ntmps23
  go_wp2_with (first | (go_at_call 19; refine H1.out.mono ?_; rintro e w1 ⟨rfl, rfl⟩) | (go_at_call 52; refine H2.out.mono ?_; rintro e w2 ⟨B, rfl, l2, b2, c2⟩))
  go_ret
  exact ⟨B, by simp, l2, b2, c2⟩
theorem info5z : (Try.prog.info? 5).map (fun i => (i.zero, i.size, i.bytes)) = some (some (.int .u8 0), 1, 1) := by kernel_rfl
set_option maxHeartbeats 800000 in
set_option maxRecDepth 100000 in
theorem copy_any (w : World) (B o n c : Nat) (f : Nat → Int) (hn : n ≤ 65536) (h0 : 0 < n) (hB : ∀ j, j < n → w.cell? ⟨B, o + j, none⟩ = some (.int .u8 (f j))) :
    Calls Try.prog 24 #[.slice (some ⟨B, o, none⟩) n c] w fun e w' => ∃ C cap, e = .returned (.slice (some ⟨C, 0, none⟩) n cap) ∧ w.heap.size ≤ C ∧ Arr w' C n f ∧ Ch (fun _ => False) w w' := by
  obtain ⟨i0, hi, hz0, hz1, hz2⟩ := info_parts info5z
  have HB := Lib.hid hB
  clear hB
  have hnil := Lib.hid (World.ownsRow_nil w w.heap.size 5 1)
  go_enter Try.func24, Try.ntmps24
  go_wp2_with (first | (at_builtin; refine wpList_append_own _ rfl _ _ 25 rfl w.heap.size 5 i0 (.int .u8 0) 1 1 Try.underlying25 hi hz0 hz1 hz2 rfl (by decide) _ _ _ rfl hnil.out ⟨B, o, none⟩ n c ((List.range n).map (fun j => Value.int .u8 (f j))) rfl ?c0 ?c1 ?c2 ?c3 ?c4 ?c5 ?_) | fail)
  case c0 => simp
  case c1 =>
    intro j u hu
    rw [List.getElem?_map] at hu
    by_cases hj : j < n
    · rw [List.getElem?_range hj] at hu
      have hu' : Value.int .u8 (f j) = u := by simpa using hu
      rw [Addr.add_mid, ← hu']
      exact HB.out j hj
    · rw [List.getElem?_eq_none (by simpa using hj)] at hu
      cases hu
  case c2 =>
    intro u hu
    obtain ⟨j, _, rfl⟩ := List.mem_map.1 hu
    rfl
  case c3 => unfold maxLen; omega
  case c4 => omega
  case c5 => exact Nat.le_refl _
  intro v' w2 hown hgrow _
  obtain ⟨hlen, hform⟩ := hown
  rcases hform with ⟨rfl, hz⟩ | ⟨g, cap, cur, rfl, hg, hh, hcap, _, hsz, htk⟩
  · omega
  · have hch : Ch (fun _ => False) w w2 := ⟨hgrow.os, hgrow.tape, hgrow.output, hgrow.size, fun k hk _ => hgrow.block k hk (by simp [Value.ownBlock])⟩
    have HA := Lib.hid (show Arr w2 g n f from ⟨cur, ⟨hh⟩, by omega, fun j hj => by
      have h1 : (cur.toList.take (n * 1))[j]? = some (Value.int .u8 (f j)) := by
        rw [htk, List.getElem?_map, List.getElem?_range hj]; rfl
      rw [List.getElem?_take_of_lt (by omega)] at h1
      simpa using h1⟩)
    clear htk hsz hh hlen hgrow
    go_wp2
    go_ret
    exact ⟨g, cap, rfl, hg, HA.out, hch⟩
theorem trivial_ia (s : St) (hok : Ok s) (hl : s.l.length = 4096) : Wh 4096 (IA 4096 (dat (gt s.l))) s := ⟨hok, hl, fun _ _ _ => rfl⟩
theorem ready_any {w w0 : World} {F G : Nat → Prop} {P T Q N M : Nat} {s : St} (h : Tw w F G P T Q N M s w0) :
    Calls Try.prog 22 #[.pointer (some ⟨P, 0, none⟩)] w0 fun e w' => ∃ D s1, e = .returned (.bool true) ∧ Tw w F G P T Q N M s1 w' ∧ Wh 4096 (Cl 4096 D) s1 ∧ On s1 := by
  have h1 := on_wh (trivial_ia s h.t.ok h.t.len)
  obtain ⟨r0, r1, r2⟩ := (recover_hr (D := dat (gt s.l)) (by omega) (by omega)).on h1.1 h1.2
  have o0 : (trecover s.on).1.opn = false := by
    have : (trecover s.on).1.l.getD 1 0 = 0 := r1.2.2.2.1
    unfold St.opn; rw [this]; rfl
  have o1 : cnt (trecover s.on).1.l = 0 := by
    have : (trecover s.on).1.l.getD 0 0 = 0 := r1.2.2.1
    unfold cnt; rw [this]; rfl
  refine (ready_core h (trecover s.on).1 o0 o1 (by rw [← r0])).mono ?_
  rintro e w' ⟨rfl, t⟩
  exact ⟨_, _, rfl, t, r1, r2⟩
end Go.Proofs.Ytfnlpmakhlpgcaa.Nvm
