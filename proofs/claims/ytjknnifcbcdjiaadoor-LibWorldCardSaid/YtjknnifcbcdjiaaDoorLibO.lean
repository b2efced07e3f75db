/- garderobelaw12.works: the world that the document tells. -/
import Derived.Test.YtjknnifcbcdjiaaDoorLibN
import Derived.Test.YtjknnifcbcdjiaaDoorLibV
set_option linter.unusedVariables false
set_option linter.unusedSimpArgs false
namespace Go.Proofs.YtjknnifcbcdjiaaDoor.TabL
open Go.RowKit Go.Proofs.YtjknnifcbcdjiaaDoor.Base Go.Proofs.YtjknnifcbcdjiaaDoorW.PrintWords Go.Proofs.YtjknnifcbcdjiaaDoorW.PrintLast Go.Proofs.YtjknnifcbcdjiaaDoor.Tab
/-- A class of the world, where its cells stand. -/
theorem cl_at {w : World} {base : Nat} {v : Value} {cl : List ClsM} (h : ∃ xs, w.ownsRow base 44 7 v cl.length xs ∧ Reps (ClsRep w base) 7 cl xs) (i : Nat) (hi : i < cl.length) :
    ∃ g cap A c B d, v = .slice (some ⟨g, 0, none⟩) cl.length cap ∧ w.cell? ⟨g, i * 7, none⟩ = some (.int .i64 0) ∧ w.cell? ⟨g, i * 7 + 1, none⟩ = some (.int .u8 (cl[i]).flags) ∧ w.cell? ⟨g, i * 7 + 2, none⟩ = some (.int .i64 (cl[i]).super) ∧ w.cell? ⟨g, i * 7 + 3, none⟩ = some (.slice none 0 0) ∧
      w.cell? ⟨g, i * 7 + 4, none⟩ = some (.slice A (cl[i]).fields.length c) ∧ w.cell? ⟨g, i * 7 + 5, none⟩ = some (.slice B (cl[i]).virtuals.length d) ∧ w.cell? ⟨g, i * 7 + 6, none⟩ = some (.slice none 0 0) ∧ Ints w base (.slice B (cl[i]).virtuals.length d) (cl[i]).virtuals := by
  obtain ⟨xs, o, r⟩ := h
  obtain ⟨g, cap, cs, hv, hlt, ⟨vf, vv, rfl, a, b⟩, hc⟩ := reps_cell o r rfl i hi
  obtain ⟨A, c, rfl⟩ := own_len a
  obtain ⟨B, d, rfl⟩ := own_len b
  exact ⟨g, cap, A, c, B, d, hv, hc 0 _ (by omega) rfl, hc 1 _ (by omega) rfl, hc 2 _ (by omega) rfl, hc 3 _ (by omega) rfl, hc 4 _ (by omega) rfl, hc 5 _ (by omega) rfl, hc 6 _ (by omega) rfl, b⟩
/-- A method of the world, where its cells stand. -/
theorem me_at {w : World} {base : Nat} {v : Value} {ms : List MetM} (h : ∃ xs, w.ownsRow base 39 11 v ms.length xs ∧ Reps (MetRep w base) 11 ms xs) (i : Nat) (hi : i < ms.length) :
    ∃ g cap A c, v = .slice (some ⟨g, 0, none⟩) ms.length cap ∧ w.cell? ⟨g, i * 11, none⟩ = some (.int .i64 0) ∧ w.cell? ⟨g, i * 11 + 1, none⟩ = some (.int .u8 (ms[i]).f) ∧ w.cell? ⟨g, i * 11 + 2, none⟩ = some (.int .i64 (ms[i]).cl) ∧ w.cell? ⟨g, i * 11 + 3, none⟩ = some (.slice A (ms[i]).ps.length c) ∧
      w.cell? ⟨g, i * 11 + 4, none⟩ = some (.int .u8 (ms[i]).k) ∧ w.cell? ⟨g, i * 11 + 5, none⟩ = some (.int .u16 (ms[i]).c) ∧ w.cell? ⟨g, i * 11 + 6, none⟩ = some (.int .i64 0) ∧ w.cell? ⟨g, i * 11 + 7, none⟩ = some (.int .i64 0) ∧ w.cell? ⟨g, i * 11 + 8, none⟩ = some (.slice none 0 0) ∧ w.cell? ⟨g, i * 11 + 9, none⟩ = some (.slice none 0 0) ∧ w.cell? ⟨g, i * 11 + 10, none⟩ = some (.int .i64 (ms[i]).n) := by
  obtain ⟨xs, o, r⟩ := h
  obtain ⟨g, cap, cs, hv, hlt, ⟨vf, rfl, a⟩, hc⟩ := reps_cell o r rfl i hi
  obtain ⟨A, c, rfl⟩ := own_len a
  exact ⟨g, cap, A, c, hv, hc 0 _ (by omega) rfl, hc 1 _ (by omega) rfl, hc 2 _ (by omega) rfl, hc 3 _ (by omega) rfl, hc 4 _ (by omega) rfl, hc 5 _ (by omega) rfl, hc 6 _ (by omega) rfl, hc 7 _ (by omega) rfl, hc 8 _ (by omega) rfl, hc 9 _ (by omega) rfl, hc 10 _ (by omega) rfl⟩
theorem wst_nums : (Tab.wst 17).1.length = 17 ∧ (Tab.wst 17).2.1.length = 37 ∧ (Tab.wst 17).2.2.length = 17 ∧ ((Tab.wst 17).1.getD 11 dcls).super = 1 := by decide +kernel
theorem names_some : nameOf 5 = ⟨#[116, 104, 114, 111, 119, 73, 116]⟩ ∧ isOf 5 = true ∧ isOf 27 = false := ⟨by kernel_rfl, by decide, by decide⟩
set_option maxHeartbeats 1000000 in
set_option maxRecDepth 100000 in
theorem works_any (w : World) (hG : Gl w) : Calls Tryd.prog 10 #[] w fun e w' => e = .returned (.bool true) ∧ Ch (fun _ => False) w w' := by
  obtain ⟨l1, l2, l3, l4⟩ := wst_nums
  obtain ⟨m1, m2, m3⟩ := names_some
  have hW := world_said w hG
  have hN := fun w' h => native_any w' 5 (by decide) h
  have hN7 := fun w' h => native_any w' 27 (by decide) h
  rw [m1, m2] at hN
  rw [m3] at hN7
  generalize nameOf 27 = nm7 at *
  clear m1 m2 m3
  go_enter Tryd.func10, Tryd.ntmps10
  go_wp2_with (go_at_call 5; fail)
  refine hW.mono ?_
  rintro e w1 ⟨v, rfl, ⟨v1, v2, v3, v4, N, rfl, hC, hM, hX, hNb, hBN, hP⟩, c1⟩
  have hl : 11 < (Tab.wst 17).1.length := by rw [l1]; decide
  obtain ⟨gc, capc, A, c, B, d, hv1, k0, k1, k2, k3, k4, k5, k6, hV⟩ := cl_at hC 11 hl
  have hsup : ((Tab.wst 17).1[11]'hl).super = 1 := by rw [← l4, List.getD_eq_getElem?_getD, List.getElem?_eq_getElem hl]; rfl
  rw [hsup] at k2
  rw [l1] at hv1
  obtain ⟨A2, d2, hv2⟩ := own_len hM.choose_spec.1
  rw [l2] at hv2
  obtain ⟨A4, d4, hv4⟩ := own_len hP
  subst hv1 hv2 hv4
  have c2 : Ch (fun _ => False) w1 (w1.alloc (.cells #[.slice (some ⟨gc, 0, none⟩) 17 capc, .slice A2 37 d2, .slice none 0 0, .slice A4 1 d4] 27)) := (Ch.refl _ w1).alloc _
  have hB := Blk.new w1 #[.slice (some ⟨gc, 0, none⟩) 17 capc, .slice A2 37 d2, .slice none 0 0, .slice A4 1 d4] 27
  have hk := (c2.cell (p := ⟨gc, 11 * 7 + 2, none⟩) (World.block_lt_of_cell? w1 _ k2) (fun h => h)).trans k2
  clear hW hC hM hX hBN hP k0 k1 k2 k3 k4 k5 k6 hV hsup hl l1 l2 l3 l4
  go_wp2_with (go_at_call 6; fail)
  generalize w1.alloc (.cells #[.slice (some ⟨gc, 0, none⟩) 17 capc, .slice A2 37 d2, .slice none 0 0, .slice A4 1 d4] 27) = w2 at *
  refine (hN w2 ((hG.ch c1).ch c2)).mono ?_
  rintro e w3 ⟨rfl, c3⟩
  have hB3 := hB.ch c3 (fun h => h)
  have hk3 := (c3.cell (p := ⟨gc, 11 * 7 + 2, none⟩) (World.block_lt_of_cell? w2 _ hk) (fun h => h)).trans hk
  go_wp2_with (go_at_call 6; fail)
  refine (hN7 w3 (((hG.ch c1).ch c2).ch c3)).mono ?_
  rintro e w4 ⟨rfl, c4⟩
  have hB4 := hB3.ch c4 (fun h => h)
  have hk4 := (c4.cell (p := ⟨gc, 11 * 7 + 2, none⟩) (World.block_lt_of_cell? w3 _ hk3) (fun h => h)).trans hk3
  have y0 := hB4.cell 0
  have y1 := hB4.cell 1
  clear hB hB3 hB4 hk hk3 hN hN7 hG
  simp at y0 y1 hk4
  go_wp2_with (fail)
  go_ret
  exact ⟨rfl, ((c1.then c2).then c3).then c4⟩
end Go.Proofs.YtjknnifcbcdjiaaDoor.TabL
