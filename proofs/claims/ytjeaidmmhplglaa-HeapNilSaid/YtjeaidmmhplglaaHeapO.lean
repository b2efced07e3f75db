/- garderobelaw25.works: objects that the document tells. -/
import Derived.Test.YtjeaidmmhplglaaHeapN
set_option linter.unusedVariables false
set_option linter.unusedSimpArgs false
namespace Go.Proofs.Ytjeaidmmhplglaa.Nvm
open Go.RowKit Go.Proofs.Ytjeaidmmhplglaa.Base
theorem own_form {w : World} {base : Nat} {e : TypeId} {size : Nat} {v : Value} {k : Nat} {xs : List Value} (h : w.ownsRow base e size v k xs) : ∃ A c, v = .slice A k c := by
  rcases h.2 with ⟨rfl, rfl⟩ | ⟨g, cap, cur, rfl, _⟩
  · exact ⟨none, 0, rfl⟩
  · exact ⟨_, cap, rfl⟩
def wX1 : Hd := ⟨6, -1, 0, 1, 0, 3⟩
def wX2 : Hd := ⟨7, -1, 0, 1, 0, 0⟩
def wS2 (s : St) : St := (tput (tput s 256 512).1 257 284).1
def wQ3 (s : St) (m : List Int) : St × List Int × Int × Int := hmake (wS2 s) m wX1
def wQ4 (s : St) (m : List Int) : St × List Int × Int := hput (wQ3 s m).1 (wQ3 s m).2.1 512 2 511
def wQ5 (s : St) (m : List Int) : St × List Int × Int × Int := hmake (wQ4 s m).1 (wQ4 s m).2.1 wX2
theorem pr_ext {α β : Type} (p : α × β) {b : β} (h : p.2 = b) : p = (p.1, b) := by cases p; cases h; rfl
theorem tr_ext {α β γ : Type} (p : α × β × γ) {c : γ} (h : p.2.2 = c) : p = (p.1, p.2.1, c) := by obtain ⟨a, b, d⟩ := p; cases h; rfl
def wkA (s : St) : Prop := tword s 256 = (0, 0) ∧ (tput s 256 512).2 = 0 ∧ (tput (tput s 256 512).1 257 284).2 = 0 ∧ (hall (wS2 s)).1.length = 12 ∧ (hall (wS2 s)).2 = 0
def wkB (s : St) (m : List Int) : Prop := (wQ3 s m).2.2 = (512, 0) ∧ (wQ4 s m).2.2 = 0 ∧ hget (wQ4 s m).1 (wQ4 s m).2.1 512 2 = (65535, 0) ∧ (hget (wQ4 s m).1 (wQ4 s m).2.1 512 3).2 = 2 ∧ (hfind (wQ4 s m).1 513).e = 6 ∧ (wQ5 s m).2.2 = (518, 0)
instance (s : St) : Decidable (wkA s) := by unfold wkA; infer_instance
instance (s : St) (m : List Int) : Decidable (wkB s m) := by unfold wkB; infer_instance
set_option maxRecDepth 100000 in
theorem hwk_a : wkA (fresh 4096) := by decide +kernel
set_option maxRecDepth 100000 in
theorem hwk_b : wkB (fresh 4096) Ram.zs := by decide +kernel
def wkC (s0 : St) (m0 : List Int) : Prop := ∃ (s1 s2 s3 s4 s5 : St) (m3 m4 m5 : List Int) (a : Int) (l : List Int), tword s0 256 = (0, 0) ∧ tput s0 256 512 = (s1, 0) ∧ tput s1 257 284 = (s2, 0) ∧ hall s2 = (l, 0) ∧ l.length = 12 ∧
    hmake s2 m0 ⟨6, -1, 0, 1, 0, 3⟩ = (s3, m3, 512, 0) ∧ hput s3 m3 512 2 511 = (s4, m4, 0) ∧ hget s4 m4 512 2 = (65535, 0) ∧ hget s4 m4 512 3 = (a, 2) ∧ (hfind s4 513).e = 6 ∧ hmake s4 m4 ⟨7, -1, 0, 1, 0, 0⟩ = (s5, m5, 518, 0)
theorem wkC_of {s : St} {m : List Int} (ha : wkA s) (hb : wkB s m) : wkC s m := by
  obtain ⟨h1, h2, h3, h4, h5⟩ := ha
  obtain ⟨g1, g2, g3, g4, g5, g6⟩ := hb
  exact ⟨(tput s 256 512).1, wS2 s, (wQ3 s m).1, (wQ4 s m).1, (wQ5 s m).1, (wQ3 s m).2.1, (wQ4 s m).2.1, (wQ5 s m).2.1, (hget (wQ4 s m).1 (wQ4 s m).2.1 512 3).1, (hall (wS2 s)).1, h1, pr_ext _ h2, pr_ext _ h3, pr_ext _ h5, h4, tr_ext (wQ3 s m) g1, tr_ext (wQ4 s m) g2, g3, pr_ext _ g4, g5, tr_ext (wQ5 s m) g6⟩
theorem hwk : wkC (fresh 4096) Ram.zs := wkC_of hwk_a hwk_b
/-- The blocks of both heaps are new. -/
theorem grow_ch {w w1 w2 : World} {S : Nat → Prop} (c : Ch (fun _ => False) w w1) (d : Ch S w1 w2) (h : ∀ k, S k → w.heap.size ≤ k) : Ch (fun _ => False) w w2 := c.trans (T := S) d (fun _ h => h) (fun k hk => Or.inr (h k hk))
set_option maxHeartbeats 4000000 in
set_option maxRecDepth 100000 in
theorem hworks_ok (w : World) : Calls Try.prog 18 #[] w fun e w' => e = .returned (.bool true) ∧ Ch (fun _ => False) w w' := by
  obtain ⟨s1, s2, s3, s4, s5, m3, m4, m5, a, l, E0, E1, E2, E3, E4, E5, E6, E7, E8, E9, E10⟩ := hwk
  have HB := Lib.hid (begun_ok w 4096 (by omega) (by omega) (by omega) E0 E1 E2)
  have F3 := Lib.hid E3
  have F4 := Lib.hid E4
  have F5 := Lib.hid E5
  have F6 := Lib.hid E6
  have F7 := Lib.hid E7
  have F8 := Lib.hid E8
  have F9 := Lib.hid E9
  have F10 := Lib.hid E10
  generalize Ram.zs = m0 at *
  clear E0 E1 E2 E3 E4 E5 E6 E7 E8 E9 E10
  go_enter Try.func18, Try.ntmps18
  go_wp2_with (fail)
  refine HB.out.mono ?_
  rintro e wa ⟨P, rfl, ⟨F, H, T, N, R, G, H', T', N', R', hx, hy, hp, b1, b2, b3, b4, b5, b6⟩, ca⟩
  have p0 : wa.cell? ⟨P, 0, none⟩ = some (.pointer (some ⟨H, 0, none⟩)) := hp.cell 0
  have Hb1 := Lib.hid b1
  have Hb5 := Lib.hid b5
  clear HB hy b1 b2 b3 b4 b5 b6
  go_wp2_with (fail)
  have h1 := hall_any hx
  rw [F3.out] at h1
  refine h1.mono ?_
  rintro e wb ⟨v, B, rfl, _, hrow, c1⟩
  dsimp only at hrow
  rw [F4.out] at hrow
  obtain ⟨A, cc, rfl⟩ := own_form hrow
  have hx1 := hx.gr c1
  have hp1 := hp.ch c1 (fun h => h)
  have cb := ca.then c1
  have p1 : wb.cell? ⟨P, 0, none⟩ = some (.pointer (some ⟨H, 0, none⟩)) := hp1.cell 0
  clear h1 hrow hx hp p0 ca c1 F3 F4
  go_wp2_with (fail)
  have h2 := hmake_any hx1 ⟨6, -1, 0, 1, 0, 3⟩ ⟨by decide, by decide, by decide, by decide, by decide, by decide, by decide, by decide, by decide, by decide, by decide, by decide⟩
  rw [F5.out] at h2
  refine h2.mono ?_
  rintro e wc ⟨rfl, hx2, c2⟩
  have hp2 := hp1.ch c2 Hb5.out
  have cc2 := grow_ch cb c2 Hb1.out
  have p2 : wc.cell? ⟨P, 0, none⟩ = some (.pointer (some ⟨H, 0, none⟩)) := hp2.cell 0
  clear h2 hx1 hp1 p1 cb c2 F5
  go_wp2_with (fail)
  have h3 := hput_any hx2 512 2 511 (by omega) (by omega)
  try dsimp only at h3
  rw [F6.out] at h3
  refine h3.mono ?_
  rintro e wd ⟨rfl, hx3, c3⟩
  have hp3 := hp2.ch c3 Hb5.out
  have cd := grow_ch cc2 c3 Hb1.out
  have p3 : wd.cell? ⟨P, 0, none⟩ = some (.pointer (some ⟨H, 0, none⟩)) := hp3.cell 0
  clear h3 hx2 hp2 p2 cc2 c3 F6
  go_wp2_with (fail)
  have h4 := hget_any hx3 512 2
  try dsimp only at h4
  rw [F7.out] at h4
  refine h4.mono ?_
  rintro e we ⟨rfl, c4⟩
  have hx4 := hx3.gr c4
  have hp4 := hp3.ch c4 (fun h => h)
  have ce := cd.then c4
  have p4 : we.cell? ⟨P, 0, none⟩ = some (.pointer (some ⟨H, 0, none⟩)) := hp4.cell 0
  clear h4 hx3 hp3 p3 cd c4 F7
  go_wp2_with (fail)
  have h5 := hget_any hx4 512 3
  try dsimp only at h5
  rw [F8.out] at h5
  refine h5.mono ?_
  rintro e wf ⟨rfl, c5⟩
  have hx5 := hx4.gr c5
  have hp5 := hp4.ch c5 (fun h => h)
  have cf := ce.then c5
  have p5 : wf.cell? ⟨P, 0, none⟩ = some (.pointer (some ⟨H, 0, none⟩)) := hp5.cell 0
  clear h5 hx4 hp4 p4 ce c5 F8
  go_wp2_with (fail)
  have h6 := hhd_any hx5 513
  try dsimp only at h6
  rw [F9.out] at h6
  refine h6.mono ?_
  rintro e wg ⟨rfl, c6⟩
  generalize (hfind s4 513).x = hd at *
  obtain ⟨kd, cl, el, ow, fl, cn⟩ := hd
  simp only [enc]
  have hx6 := hx5.gr c6
  have hp6 := hp5.ch c6 (fun h => h)
  have cg := cf.then c6
  have hx7 := hx6.gr ((Ch.refl _ wg).alloc (.cells #[.int .u8 kd, .int .i64 cl, .int .i64 el, .int .i64 ow, .int .u8 fl, .int .i64 cn] 46))
  have hp7 := hp6.alloc (.cells #[.int .u8 kd, .int .i64 cl, .int .i64 el, .int .i64 ow, .int .u8 fl, .int .i64 cn] 46)
  have cg7 := cg.alloc (.cells #[.int .u8 kd, .int .i64 cl, .int .i64 el, .int .i64 ow, .int .u8 fl, .int .i64 cn] 46)
  have p7 : (wg.alloc (.cells #[.int .u8 kd, .int .i64 cl, .int .i64 el, .int .i64 ow, .int .u8 fl, .int .i64 cn] 46)).cell? ⟨P, 0, none⟩ = some (.pointer (some ⟨H, 0, none⟩)) := hp7.cell 0
  clear h6 hx5 hp5 p5 cf c6 F9 hx6 hp6 cg
  go_wp2_with (fail)
  generalize wg.alloc (.cells #[.int .u8 kd, .int .i64 cl, .int .i64 el, .int .i64 ow, .int .u8 fl, .int .i64 cn] 46) = wh at *
  have h8 := hmake_any hx7 ⟨7, -1, 0, 1, 0, 0⟩ ⟨by decide, by decide, by decide, by decide, by decide, by decide, by decide, by decide, by decide, by decide, by decide, by decide⟩
  rw [F10.out] at h8
  refine h8.mono ?_
  rintro e wi ⟨rfl, hx8, c8⟩
  have ci := grow_ch cg7 c8 Hb1.out
  clear h8 hx7 hp7 p7 cg7 c8 F10
  go_wp2_with (fail)
  go_ret
  exact ⟨rfl, ci⟩
end Go.Proofs.Ytjeaidmmhplglaa.Nvm
