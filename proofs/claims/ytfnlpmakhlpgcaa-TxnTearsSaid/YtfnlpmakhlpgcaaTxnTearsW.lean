/- The walk of TxnTears. -/
import Derived.Test.YtfnlpmakhlpgcaaTxnAbortsW
namespace Go.Proofs.Ytfnlpmakhlpgcaa.Nvm
open Go.RowKit Go.Proofs.Ytfnlpmakhlpgcaa.Base
/-- Within the transaction, whose last answer is r. -/
def Mid (D E : Nat → Int) (j : Nat) (s : St) (r : Int) : Prop := (r = 0 ∧ Wh 4096 (Op 4096 1 D E j) s ∧ j ≤ 100) ∨ (r = 13 ∧ Wh 4096 (IA 4096 D) s)
/-- Behind it: the data to come are D1. -/
def Aft (D E D1 : Nat → Int) (r : Int) (done : Bool) : Prop := (done = true ∧ D1 = E) ∨ (done = false ∧ D1 = D) ∨ (done = false ∧ r = 0 ∧ D1 = E)
set_option maxHeartbeats 16000000 in
set_option maxRecDepth 100000 in
theorem tears_walk (w : World) (A A1 A2 A4 : Option Addr) (len cap len1 cap1 len2 cap2 len4 cap4 : Nat) (cut : Int) (hact : Acts w A len) (hw1 : WordsAt w A1 len1) (hw2 : WordsAt w A2 len2) (hw4 : BytesAt w A4 len4) (c0 : 0 ≤ cut) (c1 : cut ≤ 65535) :
    Calls Try.prog 4 #[.slice A len cap, .slice A1 len1 cap1, .slice A2 len2 cap2, .int .u16 cut, .slice A4 len4 cap4] w fun e w' => e = .returned (.bool true) ∧ Below w.heap.size w w' := by
  have HW1 := Lib.hid hw1
  have HW2 := Lib.hid hw2
  have HG := Lib.hid hw4
  clear hw1 hw2 hw4
  have H1 := Lib.hid (played_any w A len cap hact)
  clear hact
  go_enter Try.func4, Try.ntmps4
  go_wp2_with (fail)
  refine H1.out.mono ?_
  rintro e wp ⟨F, G, P, T, Q, N, M, s, rfl, tw0⟩
  go_wp2_with (fail)
  refine (ready_any tw0).mono ?_
  rintro e wa ⟨D, s1, rfl, tw1, cl1, on1⟩
  clear tw0 H1
  obtain ⟨y0, _, _⟩ := tw1.heads
  have hd1 := Lib.hid cl1.2.2.2.2
  go_wp2_with (fail)
  refine (data_tx tw1.t (by omega)).mono ?_
  rintro e wb ⟨B, rfl, lb, hB, cb⟩
  have hcells := Lib.hid (cr_cells hB tw1.t.len hd1.out)
  go_wp2_with (fail)
  refine (copy_any wb B 512 3584 3584 (fun j => D (512 + j)) (by omega) (by omega) hcells.out).mono ?_
  rintro e wc ⟨C, capC, rfl, lc, hC, cc⟩
  obtain ⟨pz0, hBC, hTC⟩ := pz_start tw1.t hd1.out tw1.lo tw1.ch lb hB cb lc hC cc
  clear hcells y0 hB cb lb hC cc lc tw1 hd1 on1
  have z0 := pz0.t.c0
  have kc := cut_tx pz0.t cut (by omega)
  have hcut := cut_wh cl1 c0 c1
  generalize s1.cut cut = R2 at *
  obtain ⟨s2, r2⟩ := R2
  obtain ⟨e2, cl2⟩ := hcut
  have e2' : r2 = 0 := e2
  subst e2'
  have cl2' : Wh 4096 (Cl 4096 D) s2 := cl2
  have kc' := Lib.hid kc
  clear cl1 cl2 e2 kc
  go_wp2_with (fail)
  refine (nvm_core _ T N z0).mono ?_
  rintro e wn ⟨rfl, rfl⟩
  go_wp2_with (fail)
  refine kc'.out.mono ?_
  rintro e w2 ⟨rfl, t2, c2⟩
  have t2' : Tx w2 _ T N 4096 s2 := t2
  have pz2 := pz0.step t2' c2 Grow.le
  clear t2 t2' c2 pz0 kc' z0
  generalize Grow F _ w2 = F2 at *
  have kb := tbegin_tx pz2.t
  have hb := begin_hr (L := 4096) (D := D) (by omega) s2 cl2'
  generalize tbegin s2 = R at *
  obtain ⟨s3, r3⟩ := R
  have hmid : Mid D D 0 s3 r3 := by
    rcases hb with ⟨a, b, _⟩ | ⟨a, b, _⟩
    · exact Or.inl ⟨a, b, by omega⟩
    · exact Or.inr ⟨a, b⟩
  have kb' := Lib.hid kb
  clear kb hb cl2'
  go_wp2_with (fail)
  refine kb'.out.mono ?_
  rintro e w3 ⟨rfl, t3, c3⟩
  have t3' : Tx w3 F2 T N 4096 s3 := t3
  have pz3 := pz2.step t3' c3 (fun _ h => Or.inl h)
  clear kb' t3 t3' c3 pz2
  go_upto_block 0 with (fail)
  go_cut [16] (fun v16 wx => ∃ (r : Int) (F' : Nat → Prop) (s : St) (g E : Nat → Int) (j : Nat), v16 = .int .i64 r ∧ Pz w F' T N s B C (fun j => D (512 + j)) g wx ∧ Mid D E j s r ∧ Hid (∀ j, j < 3584 → g j = E (512 + j)))
  case first =>
    go_wp2_with (fail)
    go_loopg [16, 17] len1 (fun q e i wr => ∃ j : Nat, j + q ≤ len1 ∧ len1 ≤ j + q ∧ i = .int .i64 j ∧ ∃ (r : Int) (F' : Nat → Prop) (s : St) (g E : Nat → Int), e = .int .i64 r ∧ Pz w F' T N s B C (fun j => D (512 + j)) g wr ∧ Mid D E j s r ∧ Hid (∀ j, j < 3584 → g j = E (512 + j)))
    case atStart => exact ⟨0, by omega, by omega, rfl, r3, F2, s3, _, D, rfl, pz3, hmid, Lib.hid (fun _ _ => rfl)⟩
    case round =>
      clear pz3 hmid
      obtain ⟨j, hj1, hj2, rfl, r, F', s, g, E, rfl, pz, hm, hg⟩ := hrel
      by_cases hlt : ((0 < gk ∧ j < len2) ∧ j < 100) ∧ r = 0
      · obtain ⟨ba, oa, at_, rfl, hba, a0, a1, a2⟩ := HW1.out j (by omega)
        obtain ⟨bv, ov, v, rfl, hbv, v0, v1, v2⟩ := HW2.out j (by omega)
        obtain rfl := hlt.2
        have op : Wh 4096 (Op 4096 1 D E j) s := by
          rcases hm with ⟨_, h, _⟩ | ⟨h, _⟩
          · exact h
          · omega
        clear hm
        have hi : (j : Int) < (len1 : Int) := by omega
        have hi2 : (j : Int) < (len2 : Int) := by omega
        have hi80 : (j : Int) < 100 := by omega
        have q1 := (pz.ch.cell (p := ⟨ba, oa + j, none⟩) hba (fun h => h)).trans a0
        have q2 := (pz.ch.cell (p := ⟨bv, ov + j, none⟩) hbv (fun h => h)).trans v0
        obtain ⟨k, hk, hk0, hk1⟩ : ∃ k : Nat, 256 + at_ % 1792 = k ∧ 256 ≤ k ∧ k < 2048 := ⟨(256 + at_ % 1792).toNat, by omega, by omega, by omega⟩
        have kp := tput_tx pz.t k v v1 v2
        have hput := putopen_hr (L := 4096) (D := D) (E := E) (w := k) (n := j) (v := v) (by omega) hk0 (by omega) (by omega) (by omega) v1 v2 s op
        dsimp only at hput
        generalize tput s k v = R3 at *
        obtain ⟨s4, r4⟩ := R3
        have hmid : Mid D (put2 E k v) (j + 1) s4 r4 := by
          rcases hput with ⟨a, b, _⟩ | ⟨a, b, _⟩
          · exact Or.inl ⟨a, b, by omega⟩
          · exact Or.inr ⟨a, b⟩
        have kp' := Lib.hid kp
        clear kp hput op
        obtain ⟨p, hp⟩ : ∃ p : Nat, p + 512 = 2 * k := ⟨2 * k - 512, by omega⟩
        have hp1 : 2 * (k : Int) - 512 = (p : Int) := by omega
        have hp2 : 2 * (k : Int) - 511 = (p : Int) + 1 := by omega
        have hp3 : ¬ (3584 : Int) ≤ (p : Int) + 1 := by omega
        have hp4 : (p : Int) < 3584 := by omega
        have hp5 : (p : Int) + 1 < 3584 := by omega
        have HP := Lib.hid hp
        clear hp hlt
        go_wp2_with (fail)
        refine kp'.out.mono ?_
        rintro e w4 ⟨rfl, t4, c4⟩
        have t4' : Tx w4 F' T N 4096 s4 := t4
        have pz4 := pz.step t4' c4 (fun _ h => Or.inl h)
        clear kp' t4 t4' c4 pz q1 q2 hk
        have q2 := (pz4.ch.cell (p := ⟨bv, ov + j, none⟩) hbv (fun h => h)).trans v0
        have f1 : w4.frozen? ⟨C, p, none⟩ = false := pz4.c.free _
        have f2 : w4.frozen? ⟨C, p + 1, none⟩ = false := pz4.c.free _
        have x1 := pz4.c.cell p (by omega)
        have x2 := pz4.c.cell (p + 1) (by omega)
        have hbC : bv ≠ C := fun e => by have := pz4.lc; omega
        have pz5 := (pz4.set hBC hTC p (v / 256) (by omega)).set hBC hTC (p + 1) (v % 256) (by omega)
        have hg5 := Lib.hid (put2_upd (v := v) HP.out hg.out)
        generalize upd (upd g p (v / 256)) (p + 1) (v % 256) = g5 at *
        go_wp2_with (fail)
        go_region
        all_goals
          have pz6 := pz5.gr (Ch.refl (fun _ => False) _).drew
          clear pz5 pz4 x1 x2 f1 f2 q2
          go_wp2_with (fail)
          go_roundg (gk - 1)
          case measure => omega
          case rel => exact ⟨j + 1, by omega, by omega, by go_num, r4, F', s4, g5, put2 E k v, rfl, pz6, hmid, hg5⟩
      · have tests : ((j : Int) < (len1 : Int) ∧ (j : Int) < (len2 : Int) ∧ (j : Int) < 100 ∧ (r == 0) = false) ∨ ((j : Int) < (len1 : Int) ∧ (j : Int) < (len2 : Int) ∧ ¬ (j : Int) < 100) ∨ ((j : Int) < (len1 : Int) ∧ ¬ (j : Int) < (len2 : Int)) ∨ ¬ (j : Int) < (len1 : Int) := by
          by_cases i1 : (j : Int) < (len1 : Int)
          · by_cases i2 : (j : Int) < (len2 : Int)
            · by_cases i3 : (j : Int) < 100
              · exact Or.inl ⟨i1, i2, i3, by rw [beq_eq_false_iff_ne]; omega⟩
              · exact Or.inr (Or.inl ⟨i1, i2, i3⟩)
            · exact Or.inr (Or.inr (Or.inl ⟨i1, i2⟩))
          · exact Or.inr (Or.inr (Or.inr i1))
        clear hlt
        rcases tests with ⟨i1, i2, i3, i4⟩ | ⟨i1, i2, i3⟩ | ⟨i1, i2⟩ | i1
        all_goals
          go_wp2_with (fail)
          go_meet
          exact ⟨r, F', s, g, E, j, rfl, pz, hm, hg⟩
  case rest =>
    obtain ⟨r, F', s, g, E, j, rfl, pz, hm, hg⟩ := hcut
    go_upto_if 109 with (fail)
    go_cut [19] (fun v19 wx => ∃ (done : Bool) (F' : Nat → Prop) (s : St) (D1 : Nat → Int), v19 = .bool done ∧ Pz w F' T N s B C (fun j => D (512 + j)) g wx ∧ Wh 4096 (IA 4096 D1) s ∧ Hid (Aft D E D1 r done))
    case first =>
      rcases hm with ⟨rfl, op, hj⟩ | ⟨rfl, ia⟩
      · have kp := tcommit_tx pz.t
        have hcm := commit_hr (L := 4096) (n := j) (D := D) (E := E) (by omega) s op
        generalize tcommit s = R3 at *
        obtain ⟨s4, r4⟩ := R3
        have haft : ∃ D1, Wh 4096 (IA 4096 D1) s4 ∧ Hid (Aft D E D1 0 (r4 == 0)) := by
          rcases hcm with ⟨a, b, _⟩ | ⟨a, b | b, _⟩
          · have a' : r4 = 0 := a
            subst a'
            exact ⟨E, b.imp (fun f _ h => h.ia), Or.inl ⟨rfl, rfl⟩⟩
          · have a' : r4 = 13 := a
            subst a'
            exact ⟨D, b, Or.inr (Or.inl ⟨rfl, rfl⟩)⟩
          · have a' : r4 = 13 := a
            subst a'
            exact ⟨E, b, Or.inr (Or.inr ⟨rfl, rfl, rfl⟩)⟩
        obtain ⟨D1, wh4, ha⟩ := haft
        have kp' := Lib.hid kp
        clear kp hcm op
        go_wp2_with (fail)
        refine kp'.out.mono ?_
        rintro e w4 ⟨rfl, t4, c4⟩
        have t4' : Tx w4 F' T N 4096 s4 := t4
        have pz4 := pz.step t4' c4 (fun _ h => Or.inl h)
        clear kp' t4 t4' c4 pz
        go_wp2_with (fail)
        go_meet
        exact ⟨_, F', s4, D1, rfl, pz4, wh4, ha⟩
      · go_wp2_with (fail)
        go_meet
        exact ⟨false, F', s, D, rfl, pz, ia, Lib.hid (Or.inr (Or.inl ⟨rfl, rfl⟩))⟩
    case rest =>
      clear pz hm
      obtain ⟨done, F3, s4, D1, rfl, pz3, wh3, haft⟩ := hcut
      go_wp2_with (fail)
      go_loopg [20] len4 (fun q i wr => ∃ j : Nat, j + q ≤ len4 ∧ len4 ≤ j + q ∧ i = .int .i64 j ∧ ∃ F' s, Pz w F' T N s B C (fun j => D (512 + j)) g wr ∧ Wh 4096 (IA 4096 D1) s)
      case atStart => exact ⟨0, by omega, by omega, rfl, F3, s4, pz3, wh3⟩
      case round =>
        clear pz3 wh3
        obtain ⟨j, hj1, hj2, rfl, F', s, pz, wh⟩ := hrel
        by_cases hlt : 0 < gk ∧ (j : Int) < 6
        · obtain ⟨b, o, x, rfl, hb, a0, x0, x1⟩ := HG.out j (by omega)
          have hi : (j : Int) < (len4 : Int) := by omega
          have hi6 : (j : Int) < 6 := hlt.2
          have z0 := pz.t.c0
          have won := on_wh wh
          go_wp2_with (fail)
          refine (nvm_core _ T N z0).mono ?_
          rintro e wn ⟨rfl, rfl⟩
          go_wp2_with (fail)
          refine (on_tx pz.t).mono ?_
          rintro e wa ⟨rfl, ta, ca⟩
          have pza := pz.step ta ca (fun _ h => Or.inl h)
          have e0 := (pza.ch.cell (p := ⟨b, o + j, none⟩) hb (fun h => h)).trans a0
          have hx8 : IntKind.i64.wrap x = x := wr64 (by omega) (by omega)
          have hcut := cut_wh won.1 (x := IntKind.i64.wrap x) (by omega) (by omega)
          have kc := Lib.hid (fun (wx : World) (h : Pz w F' T N s.on B C (fun j => D (512 + j)) g wx) => cut_tx h.t (IntKind.i64.wrap x) (by omega))
          generalize hs2 : s.on.cut (IntKind.i64.wrap x) = R2 at *
          have hbW : b < wa.heap.size := Nat.lt_of_lt_of_le hb pza.ch.size
          have hbF : ¬ F' b := fun h => by have := pza.lo b h; omega
          clear hs2 z0 ta ca pz a0 hb hx8
          obtain ⟨s5, r5⟩ := R2
          obtain ⟨e5, wh5⟩ := hcut
          have e5' : r5 = 0 := e5
          subst e5'
          have wh5' : Wh 4096 (IA 4096 D1) s5 := wh5
          clear wh5 e5 won
          go_wp2_with (fail)
          go_region_held3 (fun w' => w'.cell? ⟨b, o + j, none⟩ = some (.int .u8 x)) (first | exact e0 | exact (cb.cell (p := ⟨b, o + j, none⟩) hbW hbF).trans e0) (first | (go_at_call 19; refine (nvm_core _ T N (by first | exact pza.t.c0 | exact pza.t.drew.c0 | exact (pza.t.drewN _).c0)).mono ?_; rintro e wn ⟨rfl, rfl⟩) | (go_at_call 25; refine (kc.out _ (by first | exact pza | exact pza.gr (Ch.refl _ _).drew | exact pza.gr ((Ch.refl _ _).drewN _))).mono ?_; rintro e wb ⟨rfl, tb, cb⟩))
          all_goals
            first | have pzb := pza.step tb cb Grow.le | have pzb := (pza.gr (Ch.refl _ _).drew).step tb cb Grow.le
            have kr := trecover_tx pzb.t
            have hrec := recover_hr (L := 4096) (D := D1) (by omega) (by omega) s5 wh5'
            generalize trecover s5 = R5 at *
            obtain ⟨s6, r6⟩ := R5
            have wh6 : Wh 4096 (IA 4096 D1) s6 := by
              rcases hrec with ⟨_, h, _⟩ | ⟨_, h, _⟩
              · exact h.imp (fun f _ h => h.ia)
              · exact h
            have kr' := Lib.hid kr
            clear hrec kr kc cb tb e0
            go_wp2_with (fail)
            refine kr'.out.mono ?_
            rintro e w5 ⟨rfl, t5, c5⟩
            have t5' : Tx w5 _ T N 4096 s6 := t5
            have pz5 := pzb.step t5' c5 (fun _ h => Or.inl h)
            clear kr' t5 t5' c5 pzb pza
            go_wp2_with (fail)
            go_roundg (gk - 1)
            case measure => omega
            case rel => exact ⟨j + 1, by omega, by omega, by go_num, _, s6, pz5, wh6⟩
        · have won := on_wh wh
          obtain ⟨q0, q1, q2⟩ := (recover_hr (L := 4096) (D := D1) (by omega) (by omega)).on won.1 won.2
          have z0 := pz.t.c0
          have hend : (j : Int) < (len4 : Int) → ¬ (j : Int) < 6 := by omega
          have HE := Lib.hid hend
          clear hlt hend
          by_cases hi : (j : Int) < (len4 : Int)
          all_goals (try have h6 := HE.out hi)
          all_goals
            go_wp2_with (fail)
            refine (nvm_core _ T N z0).mono ?_
            rintro e wn ⟨rfl, rfl⟩
            go_wp2_with (fail)
            refine (on_tx pz.t).mono ?_
            rintro e wa ⟨rfl, ta, ca⟩
            have pza := pz.step ta ca (fun _ h => Or.inl h)
            have kr := trecover_tx pza.t
            generalize trecover s.on = R5 at *
            obtain ⟨s5, r5⟩ := R5
            have q0' : r5 = 0 := q0
            subst q0'
            have q1' : Wh 4096 (Cl 4096 D1) s5 := q1
            have kr' := Lib.hid kr
            clear kr q0 q1 q2 won
            go_wp2_with (fail)
            refine kr'.out.mono ?_
            rintro e wb ⟨rfl, tb, cb⟩
            have tb' : Tx wb F' T N 4096 s5 := tb
            have pzb := pza.step tb' cb (fun _ h => Or.inl h)
            clear kr' tb tb' cb pza ta ca z0
            have o0 : s5.opn = false := by
              have : s5.l.getD 1 0 = 0 := q1'.2.2.2.1
              unfold St.opn; rw [this]; rfl
            have o1 : cnt s5.l = 0 := by
              have : s5.l.getD 0 0 = 0 := q1'.2.2.1
              unfold cnt; rw [this]; rfl
            have ko := open_tx pzb.t
            rw [o0] at ko
            have ko' := Lib.hid ko
            clear ko o0
            go_wp2_with (fail)
            refine ko'.out.mono ?_
            rintro e wo ⟨rfl, co⟩
            have pzo := pzb.gr co
            have km := room_tx pzo.t
            rw [o1] at km
            have km' := Lib.hid km
            clear km o1 ko' pzb
            go_wp2_with (fail)
            refine km'.out.mono ?_
            rintro e wm ⟨rfl, cm⟩
            have pzm := pzo.gr cm
            clear km' pzo
            go_wp2_with (fail)
            refine (data_tx pzm.t (by omega)).mono ?_
            rintro e wc ⟨B2, rfl, lb, hB2, cc⟩
            have pzc := pzm.gr cc
            have hcell := Lib.hid (cr_cells hB2 pzm.t.len q1'.2.2.2.2)
            have hch := pzc.ch
            have hwant := Lib.hid (fun j (hj : j < 3584) => show wc.cell? ⟨C, 0 + j, none⟩ = some (.int .u8 (E (512 + j))) from by rw [Nat.zero_add, pzc.c.cell j hj, hg.out j hj])
            have hwas := Lib.hid pzc.b
            clear pzm pzc hB2 cc lb q1' wh hg
            rcases haft.out with ⟨rfl, rfl⟩ | ⟨rfl, rfl⟩ | ⟨rfl, rfl, rfl⟩
            · go_wp2_with (fail)
              refine (same_ok wc B2 C 3584 3584 capC 512 0 (fun j => D1 (512 + j)) (by omega) hcell.out hwant.out).mono ?_
              rintro e wd ⟨rfl, m2, rfl⟩
              go_wp2_with (fail)
              refine (works_ok _).mono ?_
              rintro e we ⟨rfl, ce⟩
              go_wp2_with (fail)
              go_ret
              exact ⟨rfl, ((hch.drewN m2).then ce).below (fun _ h => h.elim) (Nat.le_refl _)⟩
            · go_wp2_with (fail)
              refine (same_ok wc B2 B 3584 3584 3584 512 512 (fun j => D1 (512 + j)) (by omega) hcell.out hwas.out).mono ?_
              rintro e wd ⟨rfl, m2, rfl⟩
              go_wp2_with (fail)
              refine (works_ok _).mono ?_
              rintro e we ⟨rfl, ce⟩
              go_wp2_with (fail)
              go_ret
              exact ⟨rfl, ((hch.drewN m2).then ce).below (fun _ h => h.elim) (Nat.le_refl _)⟩
            · by_cases hall : ∀ j, j < 3584 → D (512 + j) = D1 (512 + j)
              · have hwas2 := Lib.hid (fun j (hj : j < 3584) => show wc.cell? ⟨B, 512 + j, none⟩ = some (.int .u8 (D1 (512 + j))) from by rw [hwas.out j hj, hall j hj])
                clear hall
                go_wp2_with (fail)
                refine (same_ok wc B2 B 3584 3584 3584 512 512 (fun j => D1 (512 + j)) (by omega) hcell.out hwas2.out).mono ?_
                rintro e wd ⟨rfl, m2, rfl⟩
                go_wp2_with (fail)
                refine (works_ok _).mono ?_
                rintro e we ⟨rfl, ce⟩
                go_wp2_with (fail)
                go_ret
                exact ⟨rfl, ((hch.drewN m2).then ce).below (fun _ h => h.elim) (Nat.le_refl _)⟩
              · obtain ⟨j0, hj0⟩ := Classical.not_forall.1 hall
                obtain ⟨hj1, hj2⟩ := Classical.not_imp.1 hj0
                have hne := Lib.hid (Ne.symm hj2)
                clear hall hj0 hj2
                go_wp2_with (fail)
                refine (same_ne wc B2 B 3584 3584 3584 512 512 j0 (fun j => D1 (512 + j)) (fun j => D (512 + j)) (by omega) hcell.out hwas.out hj1 hne.out).mono ?_
                rintro e wd ⟨rfl, cd⟩
                have hcell2 := Lib.hid (fun j (hj : j < 3584) => (cd.cell (p := ⟨B2, 512 + j, none⟩) (World.lt_of_cell (hcell.out j hj)) (fun h => h)).trans (hcell.out j hj))
                have hwant2 := Lib.hid (fun j (hj : j < 3584) => (cd.cell (p := ⟨C, 0 + j, none⟩) (World.lt_of_cell (hwant.out j hj)) (fun h => h)).trans (hwant.out j hj))
                have hch2 := hch.then cd
                go_wp2_with (fail)
                refine (same_ok wd B2 C 3584 3584 capC 512 0 (fun j => D1 (512 + j)) (by omega) hcell2.out hwant2.out).mono ?_
                rintro e wd ⟨rfl, m2, rfl⟩
                go_wp2_with (fail)
                refine (works_ok _).mono ?_
                rintro e we ⟨rfl, ce⟩
                go_wp2_with (fail)
                go_ret
                exact ⟨rfl, ((hch2.drewN m2).then ce).below (fun _ h => h.elim) (Nat.le_refl _)⟩
end Go.Proofs.Ytfnlpmakhlpgcaa.Nvm
