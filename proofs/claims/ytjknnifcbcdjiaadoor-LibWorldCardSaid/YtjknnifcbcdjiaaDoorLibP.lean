/- garderobelaw12.LibHolds, walked. -/
import Derived.Test.YtjknnifcbcdjiaaDoorLibO
import Derived.Deep.QuietTactic
import Derived.BigQuiet
set_option linter.unusedVariables false
set_option linter.unusedSimpArgs false
namespace Go.Proofs.YtjknnifcbcdjiaaDoor.TabL
open Go.RowKit Go.Proofs.YtjknnifcbcdjiaaDoor.Base Go.Proofs.YtjknnifcbcdjiaaDoorW.PrintWords Go.Proofs.YtjknnifcbcdjiaaDoorW.PrintLast Go.Proofs.YtjknnifcbcdjiaaDoor.Tab
theorem _root_.Go.Proofs.YtjknnifcbcdjiaaDoor.Base.Ch.old {w w' : World} {p : Addr} {v : Value} (c : Ch (fun _ => False) w w') (h : w.cell? p = some v) : w'.cell? p = some v := (c.cell (World.block_lt_of_cell? w _ h) (fun h => h)).trans h
def clsOk (i : Nat) (c : ClsM) : Bool := decide (c.super < i) && decide (-1 ≤ c.super) && (decide (c.super ≠ -1) || decide (i = 0) || decide (c.flags = 3)) && decide (c.virtuals.length ≤ 100) && c.virtuals.all (fun v => decide (-1 ≤ v) && decide (v < 37) && (decide (v ≠ -1) || decide (c.flags = 4)))
theorem cls_ok : ((List.range 17).all fun i => match (Tab.wst 17).1[i]? with | some c => clsOk i c | none => true) = true := by decide +kernel
theorem cls_facts (i : Nat) (h : i < (Tab.wst 17).1.length) : (((Tab.wst 17).1[i]).super < i ∧ -1 ≤ ((Tab.wst 17).1[i]).super ∧ (((Tab.wst 17).1[i]).super ≠ -1 ∨ i = 0 ∨ ((Tab.wst 17).1[i]).flags = 3) ∧ ((Tab.wst 17).1[i]).virtuals.length ≤ 100) ∧ ∀ v ∈ ((Tab.wst 17).1[i]).virtuals, -1 ≤ v ∧ v < 37 ∧ (v ≠ -1 ∨ ((Tab.wst 17).1[i]).flags = 4) := by
  have := List.all_eq_true.1 cls_ok i (List.mem_range.2 (by rw [wst_nums.1] at h; exact h))
  rw [List.getElem?_eq_getElem h] at this
  simp only [clsOk, Bool.and_eq_true, Bool.or_eq_true, List.all_eq_true, decide_eq_true_eq] at this
  obtain ⟨⟨⟨⟨a, b⟩, c⟩, d⟩, e⟩ := this
  refine ⟨⟨a, b, by rcases c with (c | c) | c <;> simp [c], d⟩, fun v hv => ?_⟩
  obtain ⟨⟨x, y⟩, z⟩ := e v hv
  exact ⟨x, y, z⟩
theorem met_ok : ((Tab.wst 17).2.1.all fun m => decide (0 ≤ m.cl) && decide (m.cl < 17) && decide (1 ≤ m.n) && decide (m.n ≤ 26)) = true := by decide +kernel
theorem met_facts (i : Nat) (h : i < (Tab.wst 17).2.1.length) : 0 ≤ ((Tab.wst 17).2.1[i]).cl ∧ ((Tab.wst 17).2.1[i]).cl < 17 ∧ 1 ≤ ((Tab.wst 17).2.1[i]).n ∧ ((Tab.wst 17).2.1[i]).n ≤ 26 := by
  have := List.all_eq_true.1 met_ok _ (List.getElem_mem h)
  simp only [Bool.and_eq_true, decide_eq_true_eq] at this
  exact ⟨this.1.1.1, this.1.1.2, this.1.2, this.2⟩
theorem name_ne (n : Int) (h : 1 ≤ n ∧ n ≤ 26) : ¬ (nameOf n).toList = [] := fun e => by
  unfold nameOf at e
  rw [if_pos h] at e
  have key : ((List.range 26).all fun i => decide ((⟨(names.getD i []).toArray⟩ : ByteArray).toList ≠ [])) = true := by decide +kernel
  have := List.all_eq_true.1 key (n - 1).toNat (List.mem_range.2 (by omega))
  exact of_decide_eq_true this e
set_option maxHeartbeats 4000000 in
set_option maxRecDepth 100000 in
theorem holds_any (w : World) (n : Int) (hn : -9223372036854775808 ≤ n ∧ n ≤ 9223372036854775807) (hG : Gl w) : Calls Tryd.prog 4 #[.int .i64 n] w fun e w' => e = .returned (.bool true) ∧ Ch (fun _ => False) w w' := by
  obtain ⟨l1, l2, l3, l4⟩ := wst_nums
  have hW := world_said w hG
  have HG := Lib.hid hG
  have HN := Lib.hid hn
  clear hG hn l4
  go_enter Tryd.func4, Tryd.ntmps4
  go_wp2_with (go_at_call 5; fail)
  refine hW.mono ?_
  rintro e w1 ⟨v, rfl, ⟨v1, v2, v3, v4, N, rfl, hC, hM, hX, hNb, hBN, hP⟩, c1⟩
  obtain ⟨A1, d1, hv1⟩ := own_len hC.choose_spec.1
  obtain ⟨A2, d2, hv2⟩ := own_len hM.choose_spec.1
  obtain ⟨A3, d3, hv3⟩ := own_len hX.choose_spec.1
  rw [l1] at hv1
  rw [l2] at hv2
  rw [l3] at hv3
  obtain ⟨g4, d4, hv4, _, _⟩ := World.ownsRow.form hP (by decide)
  have hp4 : w1.cell? ⟨g4, 4, none⟩ = some v3 := by
    have := World.ownsRow.cells hP (g := g4) (by rw [hv4]; rfl) 4 v3 rfl
    rwa [add_plain] at this
  subst hv1 hv2 hv3 hv4
  have c2 : Ch (fun _ => False) w1 (w1.alloc (.cells #[.slice A1 17 d1, .slice A2 37 d2, .slice none 0 0, .slice (some ⟨g4, 0, none⟩) 1 d4] 27)) := (Ch.refl _ w1).alloc _
  have hB := Blk.new w1 #[.slice A1 17 d1, .slice A2 37 d2, .slice none 0 0, .slice (some ⟨g4, 0, none⟩) 1 d4] 27
  clear hW hX hNb hBN hP
  go_wp2_with (fail)
  generalize hw2 : w1.alloc (.cells #[.slice A1 17 d1, .slice A2 37 d2, .slice none 0 0, .slice (some ⟨g4, 0, none⟩) 1 d4] 27) = w2 at *
  clear hw2
  generalize w1.heap.size = S at *
  have HL1 := Lib.hid l1
  have HL2 := Lib.hid l2
  clear l1 l2 l3
  go_loopg [4] 17 (fun q i wl => ∃ k : Nat, k + q ≤ 17 ∧ 17 ≤ k + q ∧ i = .int .i64 k ∧ Ch (fun _ => False) w2 wl)
  case atStart => exact ⟨0, by omega, by omega, rfl, Ch.refl _ _⟩
  case round =>
    obtain ⟨k, hk1, hk2, rfl, hc⟩ := hrel
    have y0 := (hB.ch hc (fun h => h)).cell 0
    simp at y0
    by_cases hlt : 0 < gk
    · have hk : k < (Tab.wst 17).1.length := by rw [HL1.out]; omega
      obtain ⟨gc, capc, A, c, B, d, hv, k0, k1, k2, k3, k4, k5, k6, hV⟩ := cl_at hC k hk
      obtain ⟨⟨f1, f2, f3, f4⟩, f5⟩ := cls_facts k hk
      generalize (Tab.wst 17).1[k] = cc at *
      rw [HL1.out] at hv
      injection hv with e1 _ e3
      subst e1 e3
      have cc12 := c2.then hc
      have k0 := cc12.old k0
      have k1 := cc12.old k1
      have k2 := cc12.old k2
      have k3 := cc12.old k3
      have k4 := cc12.old k4
      have k5 := cc12.old k5
      have k6 := cc12.old k6
      have hkk : (k : Int) < 17 := by omega
      obtain ⟨fl, su, fs, vs⟩ := cc
      dsimp only at *
      go_upto_region 6 with (fail)
      have hBc := Blk.new wr #[.int .i64 0, .int .u8 fl, .int .i64 su, .slice none 0 0, .slice A fs.length c, .slice B vs.length d, .slice none 0 0] 44
      have hcq : Ch (fun _ => False) w2 (wr.alloc (.cells #[.int .i64 0, .int .u8 fl, .int .i64 su, .slice none 0 0, .slice A fs.length c, .slice B vs.length d, .slice none 0 0] 44)) := hc.alloc _
      generalize wr.alloc (.cells #[.int .i64 0, .int .u8 fl, .int .i64 su, .slice none 0 0, .slice A fs.length c, .slice B vs.length d, .slice none 0 0] 44) = wq at *
      generalize wr.heap.size = Cb at *
      clear k0 k1 k2 k3 k4 k5 k6 y0
      have b0 := hBc.cell 0
      have b1 := hBc.cell 1
      have b2 := hBc.cell 2
      simp at b0 b1 b2
      go_cut [54] (fun u54 wx => u54 = .bool false ∧ wx = wq)
      case first =>
        have q1 : ¬ ((k : Int) ≤ su) := by omega
        have q2 : ¬ (su < -1) := by omega
        by_cases hs : su = -1
        · subst hs
          by_cases hz : k = 0
          · subst hz
            go_wp2_with (fail)
            go_meet
            exact ⟨rfl, rfl⟩
          · have hfl : fl = 3 := by rcases f3 with h | h | h; exact absurd rfl h; exact absurd h hz; exact h
            subst hfl
            have q3 : (0 : Int) < k := by omega
            go_wp2_with (fail)
            go_meet
            exact ⟨rfl, rfl⟩
        · have q3 : (su == -1) = false := beq_eq_false_iff_ne.2 hs
          go_wp2_with (fail)
          go_meet
          exact ⟨rfl, rfl⟩
      case rest =>
        obtain ⟨rfl, rfl⟩ := hcut
        have b5 := hBc.cell 5
        simp at b5
        go_wp2_with (fail)
        clear b0 b1 b2 b5
        generalize gk = g17 at *
        go_loopg [6] vs.length (fun q i wl => ∃ j : Nat, j + q ≤ vs.length ∧ vs.length ≤ j + q ∧ i = .int .i64 j ∧ Ch (fun _ => False) wc wl)
        case atStart => exact ⟨0, by omega, by omega, rfl, Ch.refl _ _⟩
        case round =>
          obtain ⟨j, hj1, hj2, rfl, hcj⟩ := hrel
          have hB5 := hBc.ch hcj (fun h => h)
          have b5 := hB5.cell 5
          simp at b5
          by_cases hlt : 0 < gk
          · have hj : j < vs.length := by omega
            have hjj : (j : Int) < (vs.length : Int) := by omega
            obtain ⟨gv, capv, hv, z0⟩ := int_at hV j hj
            have z0 := ((c2.then hcq).then hcj).old z0
            obtain ⟨g1, g2, g3⟩ := f5 _ (List.getElem_mem hj)
            injection hv with e1 _ e3
            subst e1 e3
            generalize vs[j] = vv at *
            have b1 := hB5.cell 1
            have y1 := (hB.ch (hcq.then hcj) (fun h => h)).cell 1
            simp at b1 y1
            go_upto_region 11 with (fail)
            go_cut [92] (fun u92 wx => u92 = .bool false ∧ Ch (fun _ => False) wr wx)
            case first =>
              have q1 : decide (vv < -1) = false := decide_eq_false (by omega)
              have q2 : decide ((37 : Int) ≤ vv) = false := decide_eq_false (by omega)
              have q4 : ((37 : Nat) : Int) = 37 := rfl
              by_cases hs : vv = -1
              · subst hs
                have hfl : fl = 4 := by rcases g3 with h | h; exact absurd rfl h; exact h
                subst hfl
                clear q1 q2
                go_quiet (fail)
                go_wp2_with (fail)
                go_meet
                exact ⟨rfl, (Ch.refl _ wr).drewN _⟩
              · have q3 : (vv == -1) = false := beq_eq_false_iff_ne.2 hs
                go_quiet (fail)
                go_wp2_with (fail)
                go_meet
                exact ⟨rfl, (Ch.refl _ wr).drewN _⟩
            case rest =>
              obtain ⟨rfl, hcx⟩ := hcut
              go_wp2_with (fail)
              go_roundg (gk - 1)
              case measure => omega
              case rel => exact ⟨j + 1, by omega, by omega, by go_num, hcj.then hcx⟩
          · have hjj : ¬ ((j : Int) < (vs.length : Int)) := by omega
            go_wp2_with (fail)
            go_roundg (g17 - 1)
            case measure => omega
            case rel => exact ⟨k + 1, by omega, by omega, by go_num, hcq.then hcj⟩
    · have hk : ¬ ((k : Int) < 17) := by omega
      go_wp2_with (fail)
      generalize wr = w3 at *
      clear hk hk1 hk2 y0 hlt
      generalize gk = g17 at *
      go_loopg [7] 37 (fun q i wl => ∃ k : Nat, k + q ≤ 37 ∧ 37 ≤ k + q ∧ i = .int .i64 k ∧ Ch (fun _ => False) w2 wl)
      case atStart => exact ⟨0, by omega, by omega, rfl, hc⟩
      case round =>
        clear hc
        obtain ⟨k, hk1, hk2, rfl, hc⟩ := hrel
        have y0 := (hB.ch hc (fun h => h)).cell 0
        have y1 := (hB.ch hc (fun h => h)).cell 1
        simp at y0 y1
        by_cases hlt : 0 < gk
        · have hk : k < (Tab.wst 17).2.1.length := by rw [HL2.out]; omega
          obtain ⟨gc, capc, A, c, hv, k0, k1, k2, k3, k4, k5, k6, k7, k8, k9, k10⟩ := me_at hM k hk
          obtain ⟨f1, f2, f3, f4⟩ := met_facts k hk
          generalize (Tab.wst 17).2.1[k] = mm at *
          rw [HL2.out] at hv
          injection hv with e1 _ e3
          subst e1 e3
          have cc12 := c2.then hc
          have k0 := cc12.old k0
          have k1 := cc12.old k1
          have k2 := cc12.old k2
          have k3 := cc12.old k3
          have k4 := cc12.old k4
          have k5 := cc12.old k5
          have k6 := cc12.old k6
          have k7 := cc12.old k7
          have k8 := cc12.old k8
          have k9 := cc12.old k9
          have k10 := cc12.old k10
          have hkk : (k : Int) < 37 := by omega
          obtain ⟨mf, mc, ps, mk, mk2, mn⟩ := mm
          dsimp only at *
          go_upto_region 17 with (fail)
          have hBc := Blk.new wr #[.int .i64 0, .int .u8 mf, .int .i64 mc, .slice A ps.length c, .int .u8 mk, .int .u16 mk2, .int .i64 0, .int .i64 0, .slice none 0 0, .slice none 0 0, .int .i64 mn] 39
          have hcq : Ch (fun _ => False) w2 (wr.alloc (.cells #[.int .i64 0, .int .u8 mf, .int .i64 mc, .slice A ps.length c, .int .u8 mk, .int .u16 mk2, .int .i64 0, .int .i64 0, .slice none 0 0, .slice none 0 0, .int .i64 mn] 39)) := hc.alloc _
          generalize wr.alloc (.cells #[.int .i64 0, .int .u8 mf, .int .i64 mc, .slice A ps.length c, .int .u8 mk, .int .u16 mk2, .int .i64 0, .int .i64 0, .slice none 0 0, .slice none 0 0, .int .i64 mn] 39) = wq at *
          generalize wr.heap.size = Cb at *
          clear k0 k1 k2 k3 k4 k5 k6 k7 k8 k9 k10 y0 y1
          have b2 := hBc.cell 2
          have b8 := hBc.cell 8
          have b10 := hBc.cell 10
          have y0 := (hB.ch hcq (fun h => h)).cell 0
          simp at b2 b8 b10 y0
          go_cut [126] (fun u126 wx => u126 = .bool false ∧ wx = wq)
          case first =>
            have q1 : ¬ (mc < 0) := by omega
            have q2 : ¬ ((17 : Int) ≤ mc) := by omega
            have q3 : ¬ (mn < 1) := by omega
            go_wp2_with (fail)
            go_meet
            exact ⟨rfl, rfl⟩
          case rest =>
            obtain ⟨rfl, rfl⟩ := hcut
            have hN := native_any wc mn (by omega) ((HG.out.ch c1).ch (c2.then hcq))
            rw [show isOf mn = true from decide_eq_true ⟨f3, f4⟩] at hN
            clear y0 b2 b8
            go_wp2_with (go_at_call 6; fail)
            refine hN.mono ?_
            rintro e w5 ⟨rfl, c5⟩
            clear hN b10
            go_wp2_with (fail)
            go_roundg (gk - 1)
            case measure => omega
            case rel => exact ⟨k + 1, by omega, by omega, by go_num, hcq.then c5⟩
        · have hk : ¬ ((k : Int) < 37) := by omega
          go_upto_region 22 with (fail)
          clear y1
          have y3 := (hB.ch hc (fun h => h)).cell 3
          simp at y3
          have p4 := (c2.then hc).old hp4
          go_cut [150] (fun u150 wx => u150 = .bool false ∧ Ch (fun _ => False) wr wx)
          case first =>
            go_quiet (fail)
            go_wp2_with (fail)
            go_meet
            exact ⟨rfl, (Ch.refl _ wr).drewN _⟩
          case rest =>
            obtain ⟨rfl, hcx⟩ := hcut
            have hcc := (c1.then c2).then (hc.then hcx)
            have hN := native_any wc n HN.out (HG.out.ch hcc)
            clear y0 y3 p4
            go_wp2_with (go_at_call 6; fail)
            refine hN.mono ?_
            rintro e w5 ⟨rfl, c5⟩
            have hcc5 := hcc.then c5
            have hWk := works_any w5 (HG.out.ch hcc5)
            clear hN
            by_cases hr : 1 ≤ n ∧ n ≤ 26
            · have hi : isOf n = true := decide_eq_true hr
              have hne : ¬ (nameOf n).toList = [] := name_ne n hr
              rw [hi]
              generalize nameOf n = nm at *
              obtain ⟨h1, h2⟩ := hr
              go_wp2_with (go_at_call 10; fail)
              refine hWk.mono ?_
              rintro e w6 ⟨rfl, c6⟩
              go_wp2_with (fail)
              go_ret
              refine ⟨?_, hcc5.then c6⟩
              show Ending.returned (.bool (!nm.toList.isEmpty)) = _
              rw [show nm.toList.isEmpty = false from List.isEmpty_eq_false_iff.2 hne]
              rfl
            · have hi : isOf n = false := decide_eq_false hr
              have hne : nameOf n = ⟨#[]⟩ := if_neg hr
              rw [hi, hne]
              by_cases h1 : 1 ≤ n
              · have h2 : ¬ (n ≤ 26) := by omega
                go_wp2_with (go_at_call 10; fail)
                refine hWk.mono ?_
                rintro e w6 ⟨rfl, c6⟩
                go_wp2_with (fail)
                go_ret
                refine ⟨?_, hcc5.then c6⟩
                show Ending.returned (.bool (!decide (n ≤ 26))) = _
                rw [decide_eq_false (show ¬ n ≤ 26 by omega)]
                rfl
              · go_wp2_with (go_at_call 10; fail)
                refine hWk.mono ?_
                rintro e w6 ⟨rfl, c6⟩
                go_wp2_with (fail)
                go_ret
                exact ⟨rfl, hcc5.then c6⟩
end Go.Proofs.YtjknnifcbcdjiaaDoor.TabL
