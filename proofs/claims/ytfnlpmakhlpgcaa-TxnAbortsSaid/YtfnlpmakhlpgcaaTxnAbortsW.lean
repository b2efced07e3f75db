/- The walk of TxnAborts. -/
import Derived.Test.YtfnlpmakhlpgcaaTxnArgs
import Derived.BigRegion
namespace Go.Proofs.Ytfnlpmakhlpgcaa.Nvm
open Go.RowKit Go.Proofs.Ytfnlpmakhlpgcaa.Base
theorem put2_upd {D : Nat → Int} {g : Nat → Int} {k p : Nat} {v : Int} (hp : p + 512 = 2 * k) (hg : ∀ j, j < 3584 → g j = D (512 + j)) : ∀ j, j < 3584 → upd (upd g p (v / 256)) (p + 1) (v % 256) j = put2 D k v (512 + j) := fun j hj => by
  unfold upd put2
  by_cases e1 : j = p + 1
  · rw [if_pos e1, if_neg (by omega), if_pos (by omega)]
  · by_cases e2 : j = p
    · rw [if_neg e1, if_pos e2, if_pos (by omega)]
    · rw [if_neg e1, if_neg e2, if_neg (by omega), if_neg (by omega)]; exact hg j hj
theorem put2_read {E : Nat → Int} {k : Nat} {v : Int} : 256 * put2 E k v (2 * k) + put2 E k v (2 * k + 1) = v := by
  unfold put2
  rw [if_pos rfl, if_neg (by omega), if_pos rfl]
  omega
set_option maxHeartbeats 8000000 in
set_option maxRecDepth 100000 in
theorem aborts_walk (w : World) (A A1 A2 : Option Addr) (len cap len1 cap1 len2 cap2 : Nat) (cm : Bool) (hact : Acts w A len) (hw1 : WordsAt w A1 len1) (hw2 : WordsAt w A2 len2) :
    Calls Try.prog 6 #[.slice A len cap, .slice A1 len1 cap1, .slice A2 len2 cap2, .bool cm] w fun e w' => e = .returned (.bool true) ∧ Below w.heap.size w w' := by
  have HW1 := Lib.hid hw1
  have HW2 := Lib.hid hw2
  clear hw1 hw2
  have H1 := Lib.hid (played_any w A len cap hact)
  clear hact
  go_enter Try.func6, Try.ntmps6
  go_wp2_with (fail)
  refine H1.out.mono ?_
  rintro e wp ⟨F, G, P, T, Q, N, M, s, rfl, tw0⟩
  go_wp2_with (fail)
  refine (ready_any tw0).mono ?_
  rintro e wa ⟨D, s1, rfl, tw1, cl1, on1⟩
  clear tw0 H1
  obtain ⟨y0, _, _⟩ := tw1.heads
  have hd1 := Lib.hid cl1.2.2.2.2
  go_wp2_with (fail)
  refine (data_tx tw1.t (by omega)).mono ?_
  rintro e wb ⟨B, rfl, lb, hB, cb⟩
  have hcells := Lib.hid (cr_cells hB tw1.t.len hd1.out)
  go_wp2_with (fail)
  refine (copy_any wb B 512 3584 3584 (fun j => D (512 + j)) (by omega) (by omega) hcells.out).mono ?_
  rintro e wc ⟨C, capC, rfl, lc, hC, cc⟩
  obtain ⟨pz0, hBC, hTC⟩ := pz_start tw1.t hd1.out tw1.lo tw1.ch lb hB cb lc hC cc
  clear hcells y0 hB cb lb hC cc lc tw1 hd1
  have kb := tbegin_tx pz0.t
  obtain ⟨b0, b1, b2⟩ := (begin_hr (L := 4096) (D := D) (by omega)).on cl1 on1
  generalize tbegin s1 = R at *
  obtain ⟨s2, r2⟩ := R
  have b0' : r2 = 0 := b0
  subst b0'
  have b1' : Wh 4096 (Op 4096 1 D D 0) s2 := b1
  have b2' : On s2 := b2
  have kb' := Lib.hid kb
  clear kb b0 b1 b2 cl1 on1
  go_wp2_with (fail)
  refine kb'.out.mono ?_
  rintro e w2 ⟨rfl, t2, c2⟩
  have t2' : Tx w2 F T N 4096 s2 := t2
  have pz2 := pz0.step t2' c2 (fun _ h => Or.inl h)
  clear kb' t2 t2' c2 pz0
  go_wp2_with (fail)
  go_loopg [14] len1 (fun q i wr => ∃ j : Nat, j + q ≤ len1 ∧ len1 ≤ j + q ∧ i = .int .i64 j ∧ j ≤ 80 ∧ ∃ F' s g E, Pz w F' T N s B C (fun j => D (512 + j)) g wr ∧ Wh 4096 (Op 4096 1 D E j) s ∧ On s ∧ Hid (∀ j, j < 3584 → g j = E (512 + j)))
  case atStart => exact ⟨0, by omega, by omega, rfl, by omega, F, s2, _, D, pz2, b1', b2', Lib.hid (fun _ _ => rfl)⟩
  case round =>
    clear pz2 b1' b2'
    obtain ⟨j, hj1, hj2, rfl, hj80, F', s, g, E, pz, op, on, hg⟩ := hrel
    by_cases hlt : (0 < gk ∧ j < len2) ∧ j < 80
    · obtain ⟨ba, oa, at_, rfl, hba, a0, a1, a2⟩ := HW1.out j (by omega)
      obtain ⟨bv, ov, v, rfl, hbv, v0, v1, v2⟩ := HW2.out j (by omega)
      have hi : (j : Int) < (len1 : Int) := by omega
      have hi2 : (j : Int) < (len2 : Int) := by omega
      have hi80 : (j : Int) < 80 := by omega
      have q1 := (pz.ch.cell (p := ⟨ba, oa + j, none⟩) hba (fun h => h)).trans a0
      have q2 := (pz.ch.cell (p := ⟨bv, ov + j, none⟩) hbv (fun h => h)).trans v0
      obtain ⟨k, hk, hk0, hk1⟩ : ∃ k : Nat, 256 + at_ % 1792 = k ∧ 256 ≤ k ∧ k < 2048 := ⟨(256 + at_ % 1792).toNat, by omega, by omega, by omega⟩
      have kp := tput_tx pz.t k v v1 v2
      obtain ⟨r0, r1, r2⟩ := (putopen_hr (L := 4096) (D := D) (E := E) (w := k) (n := j) (v := v) (by omega) hk0 (by omega) (by omega) (by omega) v1 v2).on op on
      have hrd := tword_on r1 r2 hk0 (by omega)
      rw [put2_read] at hrd
      generalize tput s k v = R3 at *
      obtain ⟨s3, r3⟩ := R3
      have r0' : r3 = 0 := r0
      subst r0'
      have op3 : Wh 4096 (Op 4096 1 D (put2 E k v) (j + 1)) s3 := r1
      have on3 : On s3 := r2
      have hrd' : tword s3 k = (v, 0) := hrd
      have kp' := Lib.hid kp
      clear kp r0 r1 r2 hrd op on
      obtain ⟨p, hp⟩ : ∃ p : Nat, p + 512 = 2 * k := ⟨2 * k - 512, by omega⟩
      have hp1 : 2 * (k : Int) - 512 = (p : Int) := by omega
      have hp2 : 2 * (k : Int) - 511 = (p : Int) + 1 := by omega
      have hp3 : ¬ (3584 : Int) < 2 * (k : Int) - 510 := by omega
      have hp4 : (p : Int) < 3584 := by omega
      have hp5 : (p : Int) + 1 < 3584 := by omega
      have HP := Lib.hid hp
      have HR := Lib.hid hrd'
      clear hp hrd'
      go_wp2_with (fail)
      refine kp'.out.mono ?_
      rintro e w3 ⟨rfl, t3, c3⟩
      have t3' : Tx w3 F' T N 4096 s3 := t3
      have pz3 := pz.step t3' c3 (fun _ h => Or.inl h)
      clear kp' t3 t3' c3 pz q1 q2 hk
      have q2 := (pz3.ch.cell (p := ⟨bv, ov + j, none⟩) hbv (fun h => h)).trans v0
      have f1 : w3.frozen? ⟨C, p, none⟩ = false := pz3.c.free _
      have f2 : w3.frozen? ⟨C, p + 1, none⟩ = false := pz3.c.free _
      have x1 := pz3.c.cell p (by omega)
      have x2 := pz3.c.cell (p + 1) (by omega)
      have hbC : bv ≠ C := fun e => by have := pz3.lc; omega
      have pz4 := (pz3.set hBC hTC p (v / 256) (by omega)).set hBC hTC (p + 1) (v % 256) (by omega)
      have hg4 := Lib.hid (put2_upd (v := v) HP.out hg.out)
      generalize upd (upd g p (v / 256)) (p + 1) (v % 256) = g4 at *
      go_wp2_with (fail)
      go_region
      have pz5 := pz4.gr (Ch.refl (fun _ => False) _).drew
      have kw := word_tx pz5.t k
      rw [HR.out] at kw
      have kw' := Lib.hid kw
      clear kw HR pz4 x1 x2 f1 f2 q2
      go_wp2_with (fail)
      refine kw'.out.mono ?_
      rintro e w6 ⟨rfl, c6⟩
      have pz6 := pz5.gr c6
      have q6 := (pz6.ch.cell (p := ⟨bv, ov + j, none⟩) hbv (fun h => h)).trans v0
      clear kw' pz5 c6
      go_wp2_with (fail)
      go_roundg (gk - 1)
      case measure => omega
      case rel => exact ⟨j + 1, by omega, by omega, by go_num, by omega, F', s3, g4, put2 E k v, pz6, op3, on3, hg4⟩
    · have hend : (j : Int) < (len1 : Int) → (j : Int) < (len2 : Int) → ¬ (j : Int) < 80 := by omega
      have HE := Lib.hid hend
      clear hlt hend
      have kA : Calls Try.prog 14 #[.pointer (some ⟨T, 0, none⟩)] wr fun e w' => ∃ s7, e = .returned (.int .i64 0) ∧ Pz w F' T N s7 B C (fun j => D (512 + j)) g w' ∧ Wh 4096 (Cl 4096 E) s7 := by
        obtain ⟨r0, r1, _⟩ := (commit_hr (L := 4096) (n := j) (D := D) (E := E) (by omega)).on op on
        refine (tcommit_tx pz.t).mono ?_
        rintro e w7 ⟨rfl, t7, c7⟩
        exact ⟨_, by rw [r0], pz.step t7 c7 (fun _ h => Or.inl h), r1⟩
      have kB : Calls Try.prog 15 #[.pointer (some ⟨T, 0, none⟩)] wr fun e w' => ∃ s7, e = .returned (.int .i64 0) ∧ Pz w F' T N s7 B C (fun j => D (512 + j)) g w' ∧ Wh 4096 (Cl 4096 D) s7 := by
        obtain ⟨r0, r1, _⟩ := (abort_hr (L := 4096) (n := j) (D := D) (E := E) (by omega) (by omega)).on op on
        refine (tabort_tx pz.t).mono ?_
        rintro e w7 ⟨rfl, t7, c7⟩
        exact ⟨_, by rw [r0], pz.step t7 c7 (fun _ h => Or.inl h), r1⟩
      have KA := Lib.hid kA
      have KB := Lib.hid kB
      clear kA kB pz op on
      have tests : ((j : Int) < (len1 : Int) ∧ (j : Int) < (len2 : Int) ∧ ¬ (j : Int) < 80) ∨ ((j : Int) < (len1 : Int) ∧ ¬ (j : Int) < (len2 : Int)) ∨ ¬ (j : Int) < (len1 : Int) := by
        by_cases i1 : (j : Int) < (len1 : Int)
        · by_cases i2 : (j : Int) < (len2 : Int)
          · exact Or.inl ⟨i1, i2, HE.out i1 i2⟩
          · exact Or.inr (Or.inl ⟨i1, i2⟩)
        · exact Or.inr (Or.inr i1)
      clear HE
      rcases tests with ⟨i1, i2, i3⟩ | ⟨i1, i2⟩ | i1
      all_goals
        cases cm
        · go_wp2_with (fail)
          refine KB.out.mono ?_
          rintro e w7 ⟨s7, rfl, pz7, cl7⟩
          go_wp2_with (fail)
          refine (data_tx pz7.t (by omega)).mono ?_
          rintro e w8 ⟨B2, rfl, lb, hB2, c8⟩
          have pz8 := pz7.gr c8
          have hcell := Lib.hid (cr_cells hB2 pz7.t.len cl7.2.2.2.2)
          have hw2 := Lib.hid pz8.b
          have hch := pz8.ch
          clear pz7 pz8 hB2 c8 lb cl7
          go_wp2_with (fail)
          refine (same_ok w8 B2 B 3584 3584 3584 512 512 (fun j => D (512 + j)) (by omega) hcell.out hw2.out).mono ?_
          rintro e wd ⟨rfl, m2, rfl⟩
          go_wp2_with (fail)
          refine (works_ok _).mono ?_
          rintro e we ⟨rfl, ce⟩
          go_wp2_with (fail)
          go_ret
          exact ⟨rfl, ((hch.drewN m2).then ce).below (fun _ h => h.elim) (Nat.le_refl _)⟩
        · go_wp2_with (fail)
          refine KA.out.mono ?_
          rintro e w7 ⟨s7, rfl, pz7, cl7⟩
          go_wp2_with (fail)
          refine (data_tx pz7.t (by omega)).mono ?_
          rintro e w8 ⟨B2, rfl, lb, hB2, c8⟩
          have pz8 := pz7.gr c8
          have hcell := Lib.hid (cr_cells hB2 pz7.t.len cl7.2.2.2.2)
          have hw2 := Lib.hid (fun j (hj : j < 3584) => show w8.cell? ⟨C, 0 + j, none⟩ = some (.int .u8 (E (512 + j))) from by rw [Nat.zero_add, pz8.c.cell j hj, hg.out j hj])
          have hch := pz8.ch
          clear pz7 pz8 hB2 c8 lb cl7
          go_wp2_with (fail)
          refine (same_ok w8 B2 C 3584 3584 capC 512 0 (fun j => E (512 + j)) (by omega) hcell.out hw2.out).mono ?_
          rintro e wd ⟨rfl, m2, rfl⟩
          go_wp2_with (fail)
          refine (works_ok _).mono ?_
          rintro e we ⟨rfl, ce⟩
          go_wp2_with (fail)
          go_ret
          exact ⟨rfl, ((hch.drewN m2).then ce).below (fun _ h => h.elim) (Nat.le_refl _)⟩
end Go.Proofs.Ytfnlpmakhlpgcaa.Nvm
