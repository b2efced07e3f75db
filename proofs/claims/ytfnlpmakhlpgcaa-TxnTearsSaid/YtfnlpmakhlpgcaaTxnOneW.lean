/- The walk of TxnOne. -/
import Derived.Test.YtfnlpmakhlpgcaaTxnData
namespace Go.Proofs.Ytfnlpmakhlpgcaa.Nvm
open Go.RowKit Go.Proofs.Ytfnlpmakhlpgcaa.Base
theorem Grow.le {F : Nat → Prop} {w w' : World} : ∀ k, Grow F w w' k → F k ∨ w.heap.size ≤ k := fun _ h => h.elim Or.inl (fun h => Or.inr h.1)
/-- The memory, beside a copy of its data and another one, in a world behind w. -/
structure Pz (w : World) (F : Nat → Prop) (T N : Nat) (s : St) (B C : Nat) (f g : Nat → Int) (wz : World) : Prop where
  t : Tx wz F T N 4096 s
  b : ∀ j, j < 3584 → wz.cell? ⟨B, 512 + j, none⟩ = some (.int .u8 (f j))
  c : Arr wz C 3584 g
  bl : B < wz.heap.size
  nb : ¬ F B
  nc : ¬ F C
  lo : ∀ k, F k → w.heap.size ≤ k
  lc : w.heap.size ≤ C
  ch : Ch (fun _ => False) w wz
theorem Pz.gr {w : World} {F : Nat → Prop} {T N : Nat} {s : St} {B C : Nat} {f g : Nat → Int} {w1 w2 : World} (h : Pz w F T N s B C f g w1) (c : Ch (fun _ => False) w1 w2) : Pz w F T N s B C f g w2 :=
  ⟨h.t.gr c, fun j hj => (c.cell (p := ⟨B, 512 + j, none⟩) h.bl (fun h => h)).trans (h.b j hj), h.c.ch c (fun h => h), Nat.lt_of_lt_of_le h.bl c.size, h.nb, h.nc, h.lo, h.lc, h.ch.then c⟩
theorem Pz.step {w : World} {F F' : Nat → Prop} {T N : Nat} {s s' : St} {B C : Nat} {f g : Nat → Int} {w1 w2 : World} (h : Pz w F T N s B C f g w1) (t : Tx w2 F' T N 4096 s') (c : Ch F w1 w2) (hF : ∀ k, F' k → F k ∨ w1.heap.size ≤ k) : Pz w F' T N s' B C f g w2 := by
  have hs := h.ch.size
  have hl := h.c.lt
  have hb := h.bl
  refine ⟨t, fun j hj => (c.cell (p := ⟨B, 512 + j, none⟩) h.bl h.nb).trans (h.b j hj), h.c.ch c h.nc, Nat.lt_of_lt_of_le h.bl c.size, fun k => ?_, fun k => ?_, fun k hk => ?_, h.lc, h.ch.trans c (fun _ h => h) (fun k hk => Or.inr (h.lo k hk))⟩
  · rcases hF _ k with k | k
    · exact h.nb k
    · omega
  · rcases hF _ k with k | k
    · exact h.nc k
    · omega
  · rcases hF _ hk with k2 | k2
    · exact h.lo _ k2
    · omega
theorem Pz.set {w : World} {F : Nat → Prop} {T N : Nat} {s : St} {B C : Nat} {f g : Nat → Int} {w1 : World} (h : Pz w F T N s B C f g w1) (hne : B ≠ C) (ht : T ≠ C) (i : Nat) (x : Int) (hi : i < 3584) : Pz w F T N s B C f (upd g i x) (w1.setCell ⟨C, i, none⟩ (.int .u8 x)) := by
  have c : Ch (fun k => k = C) w1 (w1.setCell ⟨C, i, none⟩ (.int .u8 x)) := (Ch.refl (fun k => k = C) w1).setCell (p := ⟨C, i, none⟩) (Or.inl rfl) _
  exact ⟨h.t.ch c (fun k hk he => h.nc (he ▸ hk)) ht, fun j hj => (c.cell (p := ⟨B, 512 + j, none⟩) h.bl hne).trans (h.b j hj), h.c.set i x hi, by simpa [World.setCell] using h.bl, h.nb, h.nc, h.lo, h.lc, h.ch.trans c (fun _ h => h) (fun k hk => Or.inr (hk ▸ h.lc))⟩
/-- Bytes that are handed in. -/
def BytesAt (w : World) (A : Option Addr) (len : Nat) : Prop := ∀ k, k < len → ∃ (b o : Nat) (v : Int), A = some ⟨b, o, none⟩ ∧ b < w.heap.size ∧ w.cell? ⟨b, o + k, none⟩ = some (.int .u8 v) ∧ 0 ≤ v ∧ v ≤ 255
/-- What the two copies come to: the data as they are told by D. -/
theorem cr_cells {w : World} {B : Nat} {l : List Int} {D : Nat → Int} (h : Blk w B (cr l) 5) (hl : l.length = 4096) (hd : ∀ k, 512 ≤ k → k < 4096 → gt l k = D k) : ∀ j, j < 3584 → w.cell? ⟨B, 512 + j, none⟩ = some (.int .u8 (D (512 + j))) := fun j hj => by
  rw [h.cell, cr_get _ _ (by omega)]
  have := hd (512 + j) (by omega) (by omega)
  unfold gt at this
  rw [this]
/-- Data, and a copy of them. -/
theorem pz_start {w wa wb wc : World} {F : Nat → Prop} {T N B C : Nat} {s : St} {D : Nat → Int} (t : Tx wa F T N 4096 s) (hd : ∀ k, 512 ≤ k → k < 4096 → gt s.l k = D k) (lo : ∀ k, F k → w.heap.size ≤ k) (ch : Ch (fun _ => False) w wa)
    (lb : wa.heap.size ≤ B) (hB : Blk wb B (cr s.l) 5) (cb : Ch (fun _ => False) wa wb) (lc : wb.heap.size ≤ C) (hC : Arr wc C 3584 (fun j => D (512 + j))) (cc : Ch (fun _ => False) wb wc) :
    Pz w F T N s B C (fun j => D (512 + j)) (fun j => D (512 + j)) wc ∧ B ≠ C ∧ T ≠ C := by
  have hl := hB.lt
  have h1 := t.t.lt
  have s1 := ch.size
  have s2 := cb.size
  refine ⟨⟨(t.gr cb).gr cc, cr_cells (hB.ch cc (fun h => h)) t.len hd, hC, Nat.lt_of_lt_of_le hl cc.size, fun hf => by have := t.n.fb _ hf; omega, fun hf => by have := t.n.fb _ hf; omega, lo, by omega, (ch.then cb).then cc⟩, by omega, by omega⟩
set_option maxHeartbeats 8000000 in
set_option maxRecDepth 100000 in
theorem one_walk (w : World) (A A2 : Option Addr) (len cap len2 cap2 : Nat) (at_ v cut : Int) (hact : Acts w A len) (hag : BytesAt w A2 len2) (a0 : 0 ≤ at_) (a1 : at_ ≤ 65535) (v0 : 0 ≤ v) (v1 : v ≤ 65535) (c0 : 0 ≤ cut) (c1 : cut ≤ 255) :
    Calls Try.prog 5 #[.slice A len cap, .int .u16 at_, .int .u16 v, .int .u8 cut, .slice A2 len2 cap2] w fun e w' => e = .returned (.bool true) ∧ Below w.heap.size w w' := by
  have HG := Lib.hid hag
  clear hag
  have H1 := Lib.hid (played_any w A len cap hact)
  clear hact
  go_enter Try.func5, Try.ntmps5
  go_wp2_with (fail)
  refine H1.out.mono ?_
  rintro e wp ⟨F, G, P, T, Q, N, M, s, rfl, tw0⟩
  go_wp2_with (fail)
  refine (ready_any tw0).mono ?_
  rintro e wa ⟨D, s1, rfl, tw1, cl1, on1⟩
  clear tw0 H1
  obtain ⟨y0, _, _⟩ := tw1.heads
  have hd1 := Lib.hid cl1.2.2.2.2
  go_wp2_with (fail)
  refine (data_tx tw1.t (by omega)).mono ?_
  rintro e wb ⟨B, rfl, lb, hB, cb⟩
  have hcells := Lib.hid (cr_cells hB tw1.t.len hd1.out)
  go_wp2_with (fail)
  refine (copy_any wb B 512 3584 3584 (fun j => D (512 + j)) (by omega) (by omega) hcells.out).mono ?_
  rintro e wc ⟨C, capC, rfl, lc, hC, cc⟩
  obtain ⟨pz0, hBC, hTC⟩ := pz_start tw1.t hd1.out tw1.lo tw1.ch lb hB cb lc hC cc
  obtain ⟨k, hk, hk0, hk1⟩ : ∃ k : Nat, 256 + at_ % 1792 = k ∧ 256 ≤ k ∧ k < 2048 := ⟨(256 + at_ % 1792).toNat, by omega, by omega, by omega⟩
  obtain ⟨p, hp⟩ : ∃ p : Nat, p + 512 = 2 * k := ⟨2 * k - 512, by omega⟩
  have hp1 : 2 * (k : Int) - 512 = (p : Int) := by omega
  have hp2 : 2 * (k : Int) - 511 = (p : Int) + 1 := by omega
  have hp3 : ¬ (3584 : Int) < 2 * (k : Int) - 510 := by omega
  have hp4 : (p : Int) < 3584 := by omega
  have hp5 : (p : Int) + 1 < 3584 := by omega
  have HP := Lib.hid hp
  clear hp hcells y0 hB cb lb hC cc lc tw1 hd1
  have f1 : wc.frozen? ⟨C, p, none⟩ = false := pz0.c.free _
  have f2 : wc.frozen? ⟨C, p + 1, none⟩ = false := pz0.c.free _
  have x1 := pz0.c.cell p (by omega)
  have x2 := pz0.c.cell (p + 1) (by omega)
  have pz1 := (pz0.set hBC hTC p (v / 256) (by omega)).set hBC hTC (p + 1) (v % 256) (by omega)
  have hg : Hid (∀ j, j < 3584 → upd (upd (fun j => D (512 + j)) p (v / 256)) (p + 1) (v % 256) j = put2 D k v (512 + j)) := Lib.hid fun j hj => by
    have := HP.out
    unfold upd put2
    by_cases e1 : j = p + 1
    · rw [if_pos e1, if_neg (by omega), if_pos (by omega)]
    · by_cases e2 : j = p
      · rw [if_neg e1, if_pos e2, if_pos (by omega)]
      · rw [if_neg e1, if_neg e2, if_neg (by omega), if_neg (by omega)]
  generalize upd (upd (fun j => D (512 + j)) p (v / 256)) (p + 1) (v % 256) = g1 at *
  go_wp2_with (fail)
  have z0 := pz1.t.c0
  refine (nvm_core _ T N z0).mono ?_
  rintro e wn ⟨rfl, rfl⟩
  have hcut := cut_wh cl1 (x := cut % 12) (by omega) (by omega)
  clear z0 pz0 x1 x2 f1 f2 hp1 hp2 hp3 hp4 hp5 hk
  have kc := cut_tx pz1.t (cut % 12) (by omega)
  generalize hs2 : s1.cut (cut % 12) = R2 at *
  clear hs2
  obtain ⟨s2, r2⟩ := R2
  obtain ⟨e2, cl2⟩ := hcut
  have e2' : r2 = 0 := e2
  subst e2'
  have cl2' : Wh 4096 (Cl 4096 D) s2 := cl2
  clear cl2 e2
  go_wp2_with (fail)
  refine kc.mono ?_
  rintro e w2 ⟨rfl, t2, c2⟩
  have t2' : Tx w2 _ T N 4096 s2 := t2
  have pz2 := pz1.step t2' c2 Grow.le
  clear kc t2 t2' c2 pz1
  generalize Grow F _ w2 = F2 at *
  have kp := tput_tx pz2.t k v v0 v1
  have hput := putshut_hr (L := 4096) (D := D) (w := k) (by omega) hk0 (by omega) (by omega) v0 v1 s2 cl2'
  dsimp only at hput
  generalize tput s2 k v = R3 at *
  obtain ⟨s3, r3⟩ := R3
  have hst : ∃ D1, Wh 4096 (IA 4096 D1) s3 ∧ Hid (r3 = 0 ∧ D1 = put2 D k v ∨ r3 = 13 ∧ D1 = D) := by
    rcases hput with ⟨e, h, _⟩ | ⟨e, h, _⟩
    · exact ⟨_, h.imp (fun f _ h => h.ia), Or.inl ⟨e, rfl⟩⟩
    · exact ⟨_, h, Or.inr ⟨e, rfl⟩⟩
  obtain ⟨D1, wh3, hr3⟩ := hst
  clear hput cl2'
  go_wp2_with (fail)
  refine kp.mono ?_
  rintro e w3 ⟨rfl, t3, c3⟩
  have t3' : Tx w3 F2 T N 4096 s3 := t3
  have pz3 := pz2.step t3' c3 (fun _ h => Or.inl h)
  clear kp t3 t3' c3 pz2
  go_wp2_with (fail)
  go_loopg [18] len2 (fun q i wr => ∃ j : Nat, j + q ≤ len2 ∧ len2 ≤ j + q ∧ i = .int .i64 j ∧ ∃ F' s, Pz w F' T N s B C (fun j => D (512 + j)) g1 wr ∧ Wh 4096 (IA 4096 D1) s)
  case atStart => exact ⟨0, by omega, by omega, rfl, F2, s3, pz3, wh3⟩
  case round =>
    clear pz3 wh3
    obtain ⟨j, hj1, hj2, rfl, F', s, pz, wh⟩ := hrel
    by_cases hlt : 0 < gk ∧ (j : Int) < 6
    · obtain ⟨b, o, x, rfl, hb, a0, x0, x1⟩ := HG.out j (by omega)
      have hi : (j : Int) < (len2 : Int) := by omega
      have hi6 : (j : Int) < 6 := hlt.2
      have z0 := pz.t.c0
      have won := on_wh wh
      go_wp2_with (fail)
      refine (nvm_core _ T N z0).mono ?_
      rintro e wn ⟨rfl, rfl⟩
      go_wp2_with (fail)
      refine (on_tx pz.t).mono ?_
      rintro e wa ⟨rfl, ta, ca⟩
      have pza := pz.step ta ca (fun _ h => Or.inl h)
      have e0 := (pza.ch.cell (p := ⟨b, o + j, none⟩) hb (fun h => h)).trans a0
      have hx8 : 0 ≤ IntKind.i64.wrap (x.tmod 8) ∧ IntKind.i64.wrap (x.tmod 8) ≤ 7 := by
        rw [Int.tmod_eq_emod_of_nonneg x0, wr64 (by omega) (by omega)]; omega
      have hcut := cut_wh won.1 (x := IntKind.i64.wrap (x.tmod 8)) (by omega) (by omega)
      have kc := Lib.hid (fun (wx : World) (h : Pz w F' T N s.on B C (fun j => D (512 + j)) g1 wx) => cut_tx h.t (IntKind.i64.wrap (x.tmod 8)) (by omega))
      generalize hs2 : s.on.cut (IntKind.i64.wrap (x.tmod 8)) = R2 at *
      have hbW : b < wa.heap.size := Nat.lt_of_lt_of_le hb pza.ch.size
      have hbF : ¬ F' b := fun h => by have := pza.lo b h; omega
      clear hs2 z0 ta ca pz a0 hb hx8
      obtain ⟨s4, r4⟩ := R2
      obtain ⟨e4, wh4⟩ := hcut
      have e4' : r4 = 0 := e4
      subst e4'
      have wh4' : Wh 4096 (IA 4096 D1) s4 := wh4
      clear wh4 e4 won
      go_wp2_with (fail)
      go_region_held3 (fun w' => w'.cell? ⟨b, o + j, none⟩ = some (.int .u8 x)) (first | exact e0 | exact (cb.cell (p := ⟨b, o + j, none⟩) hbW hbF).trans e0) (first | (go_at_call 19; refine (nvm_core _ T N (by first | exact pza.t.c0 | exact pza.t.drew.c0 | exact (pza.t.drewN _).c0)).mono ?_; rintro e wn ⟨rfl, rfl⟩) | (go_at_call 25; refine (kc.out _ (by first | exact pza | exact pza.gr (Ch.refl _ _).drew | exact pza.gr ((Ch.refl _ _).drewN _))).mono ?_; rintro e wb ⟨rfl, tb, cb⟩))
      all_goals
        first | have pzb := pza.step tb cb Grow.le | have pzb := (pza.gr (Ch.refl _ _).drew).step tb cb Grow.le
        have kr := trecover_tx pzb.t
        have hrec := recover_hr (L := 4096) (D := D1) (by omega) (by omega) s4 wh4'
        generalize trecover s4 = R5 at *
        obtain ⟨s5, r5⟩ := R5
        have wh5 : Wh 4096 (IA 4096 D1) s5 := by
          rcases hrec with ⟨_, h, _⟩ | ⟨_, h, _⟩
          · exact h.imp (fun f _ h => h.ia)
          · exact h
        have kr' := Lib.hid kr
        clear hrec kr kc cb tb e0
        go_wp2_with (fail)
        refine kr'.out.mono ?_
        rintro e w5 ⟨rfl, t5, c5⟩
        have t5' : Tx w5 _ T N 4096 s5 := t5
        have pz5 := pzb.step t5' c5 (fun _ h => Or.inl h)
        clear kr' t5 t5' c5 pzb pza
        go_wp2_with (fail)
        go_roundg (gk - 1)
        case measure => omega
        case rel => exact ⟨j + 1, by omega, by omega, by go_num, _, s5, pz5, wh5⟩
    · have won := on_wh wh
      obtain ⟨q0, q1, q2⟩ := (recover_hr (L := 4096) (D := D1) (by omega) (by omega)).on won.1 won.2
      have z0 := pz.t.c0
      have hend : (j : Int) < (len2 : Int) → ¬ (j : Int) < 6 := by omega
      have HE := Lib.hid hend
      clear hlt hend
      by_cases hi : (j : Int) < (len2 : Int)
      all_goals (try have h6 := HE.out hi)
      all_goals
        go_wp2_with (fail)
        refine (nvm_core _ T N z0).mono ?_
        rintro e wn ⟨rfl, rfl⟩
        go_wp2_with (fail)
        refine (on_tx pz.t).mono ?_
        rintro e wa ⟨rfl, ta, ca⟩
        have pza := pz.step ta ca (fun _ h => Or.inl h)
        have kr := trecover_tx pza.t
        generalize trecover s.on = R5 at *
        obtain ⟨s5, r5⟩ := R5
        have q0' : r5 = 0 := q0
        subst q0'
        have q1' : Wh 4096 (Cl 4096 D1) s5 := q1
        have kr' := Lib.hid kr
        clear kr q0 q1 q2 won
        go_wp2_with (fail)
        refine kr'.out.mono ?_
        rintro e wb ⟨rfl, tb, cb⟩
        have tb' : Tx wb F' T N 4096 s5 := tb
        have pzb := pza.step tb' cb (fun _ h => Or.inl h)
        clear kr' tb tb' cb pza ta ca z0
        go_wp2_with (fail)
        refine (data_tx pzb.t (by omega)).mono ?_
        rintro e wc ⟨B2, rfl, lb, hB2, cc⟩
        have pzc := pzb.gr cc
        have hcell := Lib.hid (cr_cells hB2 pzb.t.len q1'.2.2.2.2)
        rcases hr3.out with ⟨hr, hD⟩ | ⟨hr, hD⟩
        · subst hr hD
          have hw2 := Lib.hid (fun j (hj : j < 3584) => show wc.cell? ⟨C, 0 + j, none⟩ = some (.int .u8 (put2 D k v (512 + j))) from by rw [Nat.zero_add, pzc.c.cell j hj, hg.out j hj])
          have hch := pzc.ch
          clear pzb pzc hB2 cc lb q1' wh hg hr3
          go_wp2_with (fail)
          refine (same_ok wc B2 C 3584 3584 capC 512 0 (fun j => put2 D k v (512 + j)) (by omega) hcell.out hw2.out).mono ?_
          rintro e wd ⟨rfl, m2, rfl⟩
          go_wp2_with (fail)
          refine (works_ok _).mono ?_
          rintro e we ⟨rfl, ce⟩
          go_wp2_with (fail)
          go_ret
          exact ⟨rfl, ((hch.drewN m2).then ce).below (fun _ h => h.elim) (Nat.le_refl _)⟩
        · subst hr hD
          have hw2 := Lib.hid pzc.b
          have hch := pzc.ch
          clear pzb pzc hB2 cc lb q1' wh hg hr3
          go_wp2_with (fail)
          refine (same_ok wc B2 B 3584 3584 3584 512 512 (fun j => D1 (512 + j)) (by omega) hcell.out hw2.out).mono ?_
          rintro e wd ⟨rfl, m2, rfl⟩
          go_wp2_with (fail)
          refine (works_ok _).mono ?_
          rintro e we ⟨rfl, ce⟩
          go_wp2_with (fail)
          go_ret
          exact ⟨rfl, ((hch.drewN m2).then ce).below (fun _ h => h.elim) (Nat.le_refl _)⟩
end Go.Proofs.Ytfnlpmakhlpgcaa.Nvm
