/- garderobelaw12.LibWorld, walked. -/
import Derived.Test.YtjknnifcbcdjiaaDoorLibZ
set_option linter.unusedVariables false
set_option linter.unusedSimpArgs false
namespace Go.Proofs.YtjknnifcbcdjiaaDoor.TabL
open Go.RowKit Go.Proofs.YtjknnifcbcdjiaaDoor.Base Go.Proofs.YtjknnifcbcdjiaaDoorW.PrintWords Go.Proofs.YtjknnifcbcdjiaaDoorW.PrintLast Go.Proofs.YtjknnifcbcdjiaaDoor.Tab
/-- A world that is written into: the blocks from b to S alone; each is as long as it was; what leads to the parameters and to the virtual methods stays. -/
structure Wr (b S gm gc : Nat) (W w : World) : Prop where
  ch : Ch (fun k => b ≤ k ∧ k < S) W w
  kt : ∀ (k : Nat) (cs : Array Value) (T : TypeId), b ≤ k → k < S → W.heap[k]? = some (.cells cs T (0, 0)) → ∃ cs', w.heap[k]? = some (.cells cs' T (0, 0)) ∧ cs'.size = cs.size
  me : ∀ i, i < 37 → w.cell? ⟨gm, i * 11 + 3, none⟩ = W.cell? ⟨gm, i * 11 + 3, none⟩
  cl : ∀ i, i < 17 → w.cell? ⟨gc, i * 7 + 5, none⟩ = W.cell? ⟨gc, i * 7 + 5, none⟩
theorem Wr.refl (b S gm gc : Nat) (W : World) : Wr b S gm gc W W := ⟨Ch.refl _ _, fun k cs T _ _ h => ⟨cs, h, rfl⟩, fun _ _ => rfl, fun _ _ => rfl⟩
theorem Wr.set {b S gm gc : Nat} {W w : World} (h : Wr b S gm gc W w) (g o : Nat) (v : Value) (hb : b ≤ g) (hs : g < S) (hm : g = gm → ∃ i, o = i * 11 + 10) (hc : g ≠ gc) : Wr b S gm gc W (w.setCell ⟨g, o, none⟩ v) := by
  refine ⟨h.ch.setCell (p := ⟨g, o, none⟩) (Or.inl ⟨hb, hs⟩) v, fun k cs T h1 h2 h3 => ?_, fun i hi => ?_, fun i hi => ?_⟩
  · obtain ⟨cs', e1, e2⟩ := h.kt k cs T h1 h2 h3
    by_cases hk : k = g
    · subst hk
      exact ⟨_, ((⟨e1⟩ : Blk w k cs' T).set o v).heap, by simp [e2]⟩
    · exact ⟨cs', (Below.heap_setCell _ _ _ _ hk).trans e1, e2⟩
  · rw [World.cell?_setCell_other _ _ _ _ (fun e => ?_)]
    · exact h.me i hi
    · injection e with e1 e2 _
      obtain ⟨j, hj⟩ := hm e1
      omega
  · rw [World.cell?_setCell_other _ _ _ _ (fun e => ?_)]
    · exact h.cl i hi
    · injection e with e1 _ _
      exact hc e1
/-- A cell that may be written. -/
theorem Wr.at {b S gm gc : Nat} {W w : World} (h : Wr b S gm gc W w) {g o : Nat} {cs : Array Value} {T : TypeId} (hb : b ≤ g) (hs : g < S) (hg : W.heap[g]? = some (.cells cs T (0, 0))) (ho : o < cs.size) : (∃ u, w.cell? ⟨g, o, none⟩ = some u) ∧ w.frozen? ⟨g, o, none⟩ = false := by
  obtain ⟨cs', e1, e2⟩ := h.kt g cs T hb hs hg
  have B : Blk w g cs' T := ⟨e1⟩
  refine ⟨⟨cs'[o]'(by omega), ?_⟩, B.free o⟩
  rw [B.cell]
  exact Array.getElem?_eq_getElem _
theorem own_block {w : World} {base : Nat} {e : TypeId} {size : Nat} {g n c : Nat} {xs : List Value} (h : w.ownsRow base e size (.slice (some ⟨g, 0, none⟩) n c) n xs) : base ≤ g ∧ ∃ cs, w.heap[g]? = some (.cells cs e (0, 0)) ∧ n * size ≤ cs.size := by
  rcases h.2 with ⟨h1, _⟩ | ⟨g', cap, cur, h1, hb, hg, h2, _, h3, _⟩
  · cases h1
  · injection h1 with h1 _ h4
    injection h1 with h1
    injection h1 with h1 _ _
    subst h1
    exact ⟨hb, cur, hg, by rw [h3]; exact Nat.mul_le_mul_right _ h2⟩
theorem own_chs {w w' : World} {base : Nat} {e : TypeId} {size : Nat} {v : Value} {k : Nat} {xs : List Value} {S : Nat → Prop} (h : w.ownsRow base e size v k xs) (c : Ch S w w') (hs : ∀ i, base ≤ i → ¬ S i) : w'.ownsRow base e size v k xs := by
  refine ⟨h.1, ?_⟩
  rcases h.2 with h2 | ⟨g, cap, cur, hv, hb, hg, r⟩
  · exact Or.inl h2
  · exact Or.inr ⟨g, cap, cur, hv, hb, (c.block g (Array.getElem?_eq_some_iff.1 hg).1 (hs g hb)).trans hg, r⟩
theorem reps_imp {α : Type} {R R' : α → List Value → Prop} {size : Nat} {ps : List α} {cs : List Value} (h : Reps R size ps cs) (hi : ∀ p c, R p c → R' p c) : Reps R' size ps cs := ⟨h.1, fun j p hp => hi _ _ (h.2 j p hp)⟩
theorem rep_chs {w w' : World} {base : Nat} {v : Value} {s : List ClsM × List MetM × List ExpM} {S : Nat → Prop} (h : WorldRep w base v s) (c : Ch S w w') (hs : ∀ i, base ≤ i → ¬ S i) : WorldRep w' base v s := by
  obtain ⟨v1, v2, v3, v4, N, e, ⟨x1, o1, r1⟩, ⟨x2, o2, r2⟩, ⟨x3, o3, r3⟩, hN, hB, hP⟩ := h
  refine ⟨v1, v2, v3, v4, N, e, ⟨x1, own_chs o1 c hs, reps_imp r1 ?_⟩, ⟨x2, own_chs o2 c hs, reps_imp r2 ?_⟩, ⟨x3, own_chs o3 c hs, reps_imp r3 ?_⟩, hN, hB.ch c (hs N hN), own_chs hP c hs⟩
  · rintro p cs ⟨a, b, e, t, i⟩
    exact ⟨a, b, e, own_chs t c hs, own_chs i c hs⟩
  · rintro p cs ⟨a, e, t⟩
    exact ⟨a, e, own_chs t c hs⟩
  · rintro p cs ⟨a, e, t⟩
    exact ⟨a, e, own_chs t c hs⟩
theorem own_items {w : World} {base : Nat} {e : TypeId} {size : Nat} {v : Value} {n : Nat} {xs : List Value} (h : w.ownsRow base e size v n xs) : ∃ A c, v = .slice A n c ∧ n ≤ 9223372036854775807 ∧ ∀ j, j < n → ∃ g cs, A = some ⟨g, 0, none⟩ ∧ base ≤ g ∧ g < w.heap.size ∧ w.heap[g]? = some (.cells cs e (0, 0)) ∧ n * size ≤ cs.size := by
  have hm := own_max h
  rcases h.2 with ⟨rfl, rfl⟩ | ⟨g, cap, cur, rfl, hb, hg, h2, _, h3, _⟩
  · exact ⟨none, 0, rfl, hm, fun j hj => absurd hj (by omega)⟩
  · exact ⟨_, cap, rfl, hm, fun j _ => ⟨g, cur, rfl, hb, (Array.getElem?_eq_some_iff.1 hg).1, hg, by rw [h3]; exact Nat.mul_le_mul_right _ h2⟩⟩
/-- The parameters of a method of the world. -/
theorem par_at {w : World} {base gm d : Nat} {ms : List MetM} {xs : List Value} (o : w.ownsRow base 39 11 (.slice (some ⟨gm, 0, none⟩) ms.length d) ms.length xs) (r : Reps (MetRep w base) 11 ms xs) (i : Nat) (hi : i < ms.length) :
    ∃ A len c, w.cell? ⟨gm, i * 11 + 3, none⟩ = some (.slice A len c) ∧ len ≤ 9223372036854775807 ∧ ∀ j, j < len → ∃ g cs, A = some ⟨g, 0, none⟩ ∧ base ≤ g ∧ g < w.heap.size ∧ w.heap[g]? = some (.cells cs 33 (0, 0)) ∧ len * 2 ≤ cs.size := by
  obtain ⟨g, cap, cs, hv, hlt, ⟨vf, rfl, a⟩, hc⟩ := reps_cell o r rfl i hi
  injection hv with hv _ _
  injection hv with hv
  injection hv with hv _ _
  subst hv
  obtain ⟨A, c, rfl, hm, hh⟩ := own_items a
  exact ⟨A, _, c, hc 3 _ (by omega) rfl, hm, hh⟩
/-- The virtual methods of a class of the world. -/
theorem vir_at {w : World} {base gc d : Nat} {ms : List ClsM} {xs : List Value} (o : w.ownsRow base 44 7 (.slice (some ⟨gc, 0, none⟩) ms.length d) ms.length xs) (r : Reps (ClsRep w base) 7 ms xs) (i : Nat) (hi : i < ms.length) :
    ∃ A len c, w.cell? ⟨gc, i * 7 + 5, none⟩ = some (.slice A len c) ∧ len ≤ 9223372036854775807 ∧ ∀ j, j < len → ∃ g cs, A = some ⟨g, 0, none⟩ ∧ base ≤ g ∧ g < w.heap.size ∧ w.heap[g]? = some (.cells cs 3 (0, 0)) ∧ len * 1 ≤ cs.size := by
  obtain ⟨g, cap, cs, hv, hlt, ⟨vf, vv, rfl, _, a⟩, hc⟩ := reps_cell o r rfl i hi
  injection hv with hv _ _
  injection hv with hv
  injection hv with hv _ _
  subst hv
  obtain ⟨A, c, rfl, hm, hh⟩ := own_items a
  exact ⟨A, _, c, hc 5 _ (by omega) rfl, hm, hh⟩
theorem heap_ne {w : World} {g g' : Nat} {cs cs' : Array Value} {T T' : TypeId} (h : w.heap[g]? = some (.cells cs T (0, 0))) (h' : w.heap[g']? = some (.cells cs' T' (0, 0))) (hT : T ≠ T') : g ≠ g' := by
  rintro rfl
  rw [h] at h'
  injection h' with h'
  injection h' with _ h' _
  exact hT h'
theorem all_rows {w w4 : World} {T : TypeId} {base n sz : Nat} {A : Option Addr} (c : Ch (fun _ => False) w w4) (h : ∀ j, j < n → ∃ g cs, A = some ⟨g, 0, none⟩ ∧ base ≤ g ∧ g < w.heap.size ∧ w.heap[g]? = some (.cells cs T (0, 0)) ∧ n * sz ≤ cs.size) :
    ∀ j, j < n → ∃ g cs, A = some ⟨g, 0, none⟩ ∧ base ≤ g ∧ g < w.heap.size ∧ w4.heap[g]? = some (.cells cs T (0, 0)) ∧ n * sz ≤ cs.size := fun j hj => by
  obtain ⟨g, cs, e, hb, hl, hg, hz⟩ := h j hj
  exact ⟨g, cs, e, hb, hl, (c.block g hl (fun h => h)).trans hg, hz⟩
set_option maxHeartbeats 8000000 in
set_option maxRecDepth 100000 in
theorem libworld_any (w : World) (n : Int) (hn : -9223372036854775808 ≤ n ∧ n ≤ 9223372036854775807) (hG : Gl w) : Calls Tryd.prog 3 #[.int .i64 n] w fun e w' => e = .returned (.bool true) ∧ Ch (fun _ => False) w w' := by
  obtain ⟨l1, l2, l3, l4⟩ := wst_nums
  have hW := world_said w hG
  have HG := Lib.hid hG
  have HN := Lib.hid hn
  clear hG hn l4
  go_enter Tryd.func3, Tryd.ntmps3
  go_wp2_with (fail)
  refine hW.mono ?_
  rintro e w1 ⟨v, rfl, ⟨v1, v2, v3, v4, N, rfl, hC, hM, hX, hNb, hBN, hP⟩, c1⟩
  obtain ⟨A1, d1, hv1⟩ := own_len hC.choose_spec.1
  obtain ⟨A2, d2, hv2⟩ := own_len hM.choose_spec.1
  obtain ⟨A4, d4, hv4⟩ := own_len hP
  obtain ⟨gc, capc, _, _, _, _, hc1, rest1⟩ := cl_at hC 0 (by rw [l1]; decide)
  clear rest1
  obtain ⟨gm, capm, _, _, hm1, rest2⟩ := me_at hM 0 (by rw [l2]; decide)
  clear rest2
  rw [l1] at hv1 hc1
  rw [l2] at hv2 hm1
  subst hv4
  rw [hv1] at hc1
  rw [hv2] at hm1
  injection hc1 with hc1 _ hc2
  injection hm1 with hm1 _ hm2
  subst hc1 hc2 hm1 hm2 hv1 hv2
  have c2 : Ch (fun _ => False) w1 (w1.alloc (.cells #[.slice (some ⟨gc, 0, none⟩) 17 d1, .slice (some ⟨gm, 0, none⟩) 37 d2, .slice none 0 0, .slice A4 1 d4] 27)) := (Ch.refl _ w1).alloc _
  have hB := Blk.new w1 #[.slice (some ⟨gc, 0, none⟩) 17 d1, .slice (some ⟨gm, 0, none⟩) 37 d2, .slice none 0 0, .slice A4 1 d4] 27
  clear hW hX hNb hBN hP
  go_wp2_with (fail)
  generalize w1.alloc (.cells #[.slice (some ⟨gc, 0, none⟩) 17 d1, .slice (some ⟨gm, 0, none⟩) 37 d2, .slice none 0 0, .slice A4 1 d4] 27) = w2 at *
  have hS0 := c1.size
  generalize hS : w1.heap.size = S at *
  have hS1 : S < w2.heap.size := hB.lt
  refine (world_said w2 ((HG.out.ch c1).ch c2)).mono ?_
  rintro e w3 ⟨vv, rfl, hR2, c3⟩
  obtain ⟨u1, u2, u3, u4, N2, rfl, hC2, hM2, hX2, hNb2, hBN2, hP2⟩ := hR2
  obtain ⟨E1, f1, hu1⟩ := own_len hC2.choose_spec.1
  obtain ⟨E2, f2, hu2⟩ := own_len hM2.choose_spec.1
  obtain ⟨E4, f4, hu4⟩ := own_len hP2
  rw [l1] at hu1
  rw [l2] at hu2
  subst hu1 hu2 hu4
  have R2 : WorldRep w3 w2.heap.size (.agg #[.slice E1 17 f1, .slice E2 37 f2, .slice none 0 0, .slice E4 1 f4]) (Tab.wst 17) := ⟨_, _, _, _, N2, rfl, hC2, hM2, hX2, hNb2, hBN2, hP2⟩
  clear hC2 hM2 hX2 hNb2 hBN2 hP2
  have hB2 := Blk.new w3 #[.slice E1 17 f1, .slice E2 37 f2, .slice none 0 0, .slice E4 1 f4] 27
  have c4 : Ch (fun _ => False) w3 (w3.alloc (.cells #[.slice E1 17 f1, .slice E2 37 f2, .slice none 0 0, .slice E4 1 f4] 27)) := (Ch.refl _ w3).alloc _
  go_wp2_with (fail)
  generalize w3.alloc (.cells #[.slice E1 17 f1, .slice E2 37 f2, .slice none 0 0, .slice E4 1 f4] 27) = w4 at *
  have hS2 := c3.size
  have hB := hB.ch (c3.then c4) (fun h => h)
  have R4 := rep_chs R2 c4 (fun _ _ h => h)
  have c14 := c2.then (c3.then c4)
  have cw4 := c1.then c14
  clear R2 c2 c3 c4
  generalize w3.heap.size = S3 at *
  generalize w2.heap.size = S2 at *
  obtain ⟨xsM, oM, rM⟩ := hM
  obtain ⟨xsC, oC, rC⟩ := hC
  have par := fun i (hi : i < 37) => par_at (d := d2) (by rw [l2]; rw [l2] at oM; exact oM) rM i (by rw [l2]; exact hi)
  have vir := fun i (hi : i < 17) => vir_at (d := d1) (by rw [l1]; rw [l1] at oC; exact oC) rC i (by rw [l1]; exact hi)
  rw [l2] at oM
  rw [l1] at oC
  obtain ⟨bm, csM, hgM, hzM⟩ := own_block oM
  obtain ⟨bc, csC, hgC, hzC⟩ := own_block oC
  have hmS : gm < S := by have := (Array.getElem?_eq_some_iff.1 hgM).1; omega
  have hcS : gc < S := by have := (Array.getElem?_eq_some_iff.1 hgC).1; omega
  have hgM := (c14.block gm (by omega) (fun h => h)).trans hgM
  have hgC := (c14.block gc (by omega) (fun h => h)).trans hgC
  have hmc : gm ≠ gc := heap_ne hgM hgC (by decide)
  have PAR := Lib.hid par
  have VIR := Lib.hid vir
  clear par vir oM oC rM rC l1 l2 l3
  generalize hbb : w.heap.size = b at *
  go_wp2_with (fail)
  go_loopg [5] 37 (fun q i wl => ∃ k : Nat, k + q ≤ 37 ∧ 37 ≤ k + q ∧ i = .int .i64 k ∧ Wr b S gm gc w4 wl)
  case atStart => exact ⟨0, by omega, by omega, rfl, Wr.refl _ _ _ _ _⟩
  case round => as_aux_lemma =>
    obtain ⟨k, hk1, hk2, rfl, hr⟩ := hrel
    have hBr := hB.ch hr.ch (by omega)
    have y1 := hBr.cell 1
    simp at y1
    by_cases hlt : 0 < gk
    · have hk : k < 37 := by omega
      have hkk : (k : Int) < 37 := by omega
      obtain ⟨A, len, c, p3, hlen, hrows⟩ := PAR.out k hk
      have p3 := c14.old p3
      have hrows := Lib.hid (all_rows c14 hrows)
      obtain ⟨⟨u, hu⟩, hf⟩ := hr.at (o := k * 11 + 10) bm hmS hgM (by omega)
      have hr2 := hr.set gm (k * 11 + 10) (.int .i64 0) bm hmS (fun _ => ⟨k, rfl⟩) hmc
      obtain ⟨g0, HG0⟩ : ∃ g0, Hid (g0 = gk) := ⟨_, Lib.hid rfl⟩
      clear hBr hr
      go_wp2_with (fail)
      generalize wr.setCell ⟨gm, k * 11 + 10, none⟩ (.int .i64 0) = wq at *
      clear hu hf y1
      go_loopg [6] len (fun q i wl => ∃ j : Nat, j + q ≤ len ∧ len ≤ j + q ∧ i = .int .i64 j ∧ Wr b S gm gc w4 wl)
      case atStart => exact ⟨0, by omega, by omega, rfl, hr2⟩
      case round => as_aux_lemma =>
        clear hr2
        obtain ⟨j, hj1, hj2, rfl, hr⟩ := hrel
        have hBr := hB.ch hr.ch (by omega)
        have y1 := hBr.cell 1
        simp at y1
        have p4 := (hr.me k hk).trans p3
        by_cases hltj : 0 < gk
        · have hj : j < len := by omega
          have hjj : (j : Int) < (len : Int) := by omega
          obtain ⟨g, cs, rfl, hbg, hlg, hgg, hzg⟩ := hrows.out j hj
          have hng : g ≠ gm := heap_ne hgg hgM (by decide)
          have hnc : g ≠ gc := heap_ne hgg hgC (by decide)
          have hgS : g < S := by omega
          obtain ⟨⟨ua, hua⟩, hfa⟩ := hr.at (o := j * 2) hbg hgS hgg (by omega)
          obtain ⟨⟨ub, hub⟩, hfb⟩ := hr.at (o := j * 2 + 1) hbg hgS hgg (by omega)
          have hr2 := (hr.set g (j * 2) (.int .u8 0) hbg hgS (fun e => absurd e hng) hnc).set g (j * 2 + 1) (.int .u16 0) hbg hgS (fun e => absurd e hng) hnc
          clear hBr hr hrows
          go_wp2_with (fail)
          go_roundg (gk - 1)
          case measure => omega
          case rel => exact ⟨j + 1, by omega, by omega, by go_num, hr2⟩
        · have hjj : ¬ ((j : Int) < (len : Int)) := by omega
          clear hBr
          go_wp2_with (fail)
          go_roundg (g0 - 1)
          case measure => have := HG0.out; omega
          case rel => exact ⟨k + 1, by have := HG0.out; omega, by have := HG0.out; omega, by go_num, hr⟩
    · have hkk : ¬ ((k : Int) < 37) := by omega
      clear hBr hlt hk1 hk2
      go_wp2_with (fail)
      clear y1
      go_loopg [7] 17 (fun q i wl => ∃ k : Nat, k + q ≤ 17 ∧ 17 ≤ k + q ∧ i = .int .i64 k ∧ Wr b S gm gc w4 wl)
      case atStart => exact ⟨0, by omega, by omega, rfl, hr⟩
      case round => as_aux_lemma =>
        clear hr hkk
        obtain ⟨k, hk1, hk2, rfl, hr⟩ := hrel
        have hBr := hB.ch hr.ch (by omega)
        have y0 := hBr.cell 0
        simp at y0
        by_cases hlt : 0 < gk
        · have hk : k < 17 := by omega
          have hkk : (k : Int) < 17 := by omega
          obtain ⟨A, len, c, p3, hlen, hrows⟩ := VIR.out k hk
          have p3 := c14.old p3
          have hrows := Lib.hid (all_rows c14 hrows)
          obtain ⟨g0, HG0⟩ : ∃ g0, Hid (g0 = gk) := ⟨_, Lib.hid rfl⟩
          clear hBr
          go_wp2_with (fail)
          clear y0
          go_loopg [8] len (fun q i wl => ∃ j : Nat, j + q ≤ len ∧ len ≤ j + q ∧ i = .int .i64 j ∧ Wr b S gm gc w4 wl)
          case atStart => exact ⟨0, by omega, by omega, rfl, hr⟩
          case round => as_aux_lemma =>
            clear hr
            obtain ⟨j, hj1, hj2, rfl, hr⟩ := hrel
            have hBr := hB.ch hr.ch (by omega)
            have y0 := hBr.cell 0
            simp at y0
            have p4 := (hr.cl k hk).trans p3
            by_cases hltj : 0 < gk
            · have hj : j < len := by omega
              have hjj : (j : Int) < (len : Int) := by omega
              obtain ⟨g, cs, rfl, hbg, hlg, hgg, hzg⟩ := hrows.out j hj
              have hng : g ≠ gm := heap_ne hgg hgM (by decide)
              have hnc : g ≠ gc := heap_ne hgg hgC (by decide)
              have hgS : g < S := by omega
              obtain ⟨⟨ua, hua⟩, hfa⟩ := hr.at (o := j) hbg hgS hgg (by omega)
              have hr2 := hr.set g j (.int .i64 99) hbg hgS (fun e => absurd e hng) hnc
              clear hBr hr hrows
              go_wp2_with (fail)
              go_roundg (gk - 1)
              case measure => omega
              case rel => exact ⟨j + 1, by omega, by omega, by go_num, hr2⟩
            · have hjj : ¬ ((j : Int) < (len : Int)) := by omega
              clear hBr
              go_wp2_with (fail)
              go_roundg (g0 - 1)
              case measure => have := HG0.out; omega
              case rel => exact ⟨k + 1, by have := HG0.out; omega, by have := HG0.out; omega, by go_num, hr⟩
        · have hkk : ¬ ((k : Int) < 17) := by omega
          have cwl : Ch (fun _ => False) w wr := cw4.trans (T := fun k => b ≤ k ∧ k < S) hr.ch (fun _ h => h) (fun k hk => Or.inr (by omega))
          have R5 := rep_chs R4 hr.ch (fun i hi h => by omega)
          have hB5 := hB2.ch hr.ch (by omega)
          have hN := native_any wr n HN.out (HG.out.ch cwl)
          clear hr hBr hB hB2 R4 PAR VIR
          go_wp2_with (fail)
          refine hN.mono ?_
          rintro e w5 ⟨rfl, c5⟩
          go_wp2_with (fail)
          refine (rnat_any w5 n).mono ?_
          rintro e w6 ⟨rfl, c6⟩
          generalize nameOf n = nm at *
          generalize isOf n = ib at *
          have c56 := c5.then c6
          have R6 := rep_chs R5 c56 (fun _ _ h => h)
          have hB6 := hB5.ch c56 (fun h => h)
          have cw6 := cwl.then c56
          clear hN c5 c6 c56 R5 hB5 cwl y0
          have b0 := hB6.cell 0
          have b1 := hB6.cell 1
          have b2 := hB6.cell 2
          have b3 := hB6.cell 3
          simp at b0 b1 b2 b3
          go_upto_region 20 with (fail)
          refine wp_region_held_drew (S := (fun W => Ch (fun _ => False) w6 W)) (by kernel_rfl) (by exact (Ch.refl _ w6).drew) (fun hHeld => ?_)
          refine wpAnyH_take (i := 0) (v := ?_) rfl (by kernel_rfl) (by kernel_rfl) (by kernel_rfl) (fun _ _ _ h => h) (Or.inl ⟨by rfl, ?_⟩) (by assumption) ?_
          rotate_left
          · (intro wS hS; have b0 := hS.old b0; have b1 := hS.old b1; have b2 := hS.old b2; have b3 := hS.old b3; go_simp; try with_reducible rfl)
          simp only [List.getElem_toArray, List.getElem_cons_succ, List.getElem_cons_zero, Act.put, List.setIfInBounds_toArray, List.set_cons_zero, List.set_cons_succ]
          refine wpAnyH_ready (rs := [1]) (by kernel_rfl) (by simp) (AllReadyH.cons rfl (fun K hK => ?_) AllReadyH.nil)
          go_simp; go_at_call 9; refine (Tab.world_any _).mono ?_; rintro e w7 ⟨vr, rfl, R7, c7⟩; have c9 := hHeld.then c7; clear hHeld
          refine hK.out _ _ (by exact c9) (fun hHeld => ?_)
          clear hK K
          refine wpAnyH_ready (rs := [2]) (by kernel_rfl) (by simp) (AllReadyH.cons rfl (fun K hK => ?_) AllReadyH.nil)
          go_simp; go_at_call 8; refine (worlds_same (rep_chs R6 hHeld (fun _ _ h => h)) R7 (by have := wst_nums.1; omega) (by have := wst_nums.2.1; omega)).mono ?_; rintro e w8 ⟨rfl, c8⟩; have c9 := hHeld.then c8; clear hHeld R7
          refine hK.out _ _ (by exact c9) (fun hHeld => ?_)
          clear hK K
          refine wpAnyH_take (i := 3) (v := ?_) rfl (by kernel_rfl) (by kernel_rfl) (by kernel_rfl) (fun _ _ _ h => h) (Or.inl ⟨by rfl, ?_⟩) (by assumption) ?_
          rotate_left
          · (intro wS hS; have b0 := hS.old b0; have b1 := hS.old b1; have b2 := hS.old b2; have b3 := hS.old b3; go_simp; try with_reducible rfl)
          simp only [List.getElem_toArray, List.getElem_cons_succ, List.getElem_cons_zero, Act.put, List.setIfInBounds_toArray, List.set_cons_zero, List.set_cons_succ]
          refine wpAnyH_take (i := 4) (v := ?_) rfl (by kernel_rfl) (by kernel_rfl) (by kernel_rfl) (fun _ _ _ h => h) (Or.inl ⟨by rfl, ?_⟩) (by assumption) ?_
          rotate_left
          · (intro wS hS; have b0 := hS.old b0; have b1 := hS.old b1; have b2 := hS.old b2; have b3 := hS.old b3; go_simp; try with_reducible rfl)
          simp only [List.getElem_toArray, List.getElem_cons_succ, List.getElem_cons_zero, Act.put, List.setIfInBounds_toArray, List.set_cons_zero, List.set_cons_succ]
          refine wpAnyH_take (i := 5) (v := ?_) rfl (by kernel_rfl) (by kernel_rfl) (by kernel_rfl) (fun _ _ _ h => h) (Or.inl ⟨by rfl, ?_⟩) (by assumption) ?_
          rotate_left
          · (intro wS hS; have b0 := hS.old b0; have b1 := hS.old b1; have b2 := hS.old b2; have b3 := hS.old b3; go_simp; try with_reducible rfl)
          simp only [List.getElem_toArray, List.getElem_cons_succ, List.getElem_cons_zero, Act.put, List.setIfInBounds_toArray, List.set_cons_zero, List.set_cons_succ]
          refine wpAnyH_take (i := 6) (v := ?_) rfl (by kernel_rfl) (by kernel_rfl) (by kernel_rfl) (fun _ _ _ h => h) (Or.inl ⟨by rfl, ?_⟩) (by assumption) ?_
          rotate_left
          · (intro wS hS; have b0 := hS.old b0; have b1 := hS.old b1; have b2 := hS.old b2; have b3 := hS.old b3; go_simp; try with_reducible rfl)
          simp only [List.getElem_toArray, List.getElem_cons_succ, List.getElem_cons_zero, Act.put, List.setIfInBounds_toArray, List.set_cons_zero, List.set_cons_succ]
          refine wpAnyH_take (i := 7) (v := ?_) rfl (by kernel_rfl) (by kernel_rfl) (by kernel_rfl) (fun _ _ _ h => h) (Or.inl ⟨by rfl, ?_⟩) (by assumption) ?_
          rotate_left
          · (intro wS hS; have b0 := hS.old b0; have b1 := hS.old b1; have b2 := hS.old b2; have b3 := hS.old b3; go_simp; try with_reducible rfl)
          simp only [List.getElem_toArray, List.getElem_cons_succ, List.getElem_cons_zero, Act.put, List.setIfInBounds_toArray, List.set_cons_zero, List.set_cons_succ]
          refine wpAnyH_take (i := 8) (v := ?_) rfl (by kernel_rfl) (by kernel_rfl) (by kernel_rfl) (fun _ _ _ h => h) (Or.inl ⟨by rfl, ?_⟩) (by assumption) ?_
          rotate_left
          · (intro wS hS; have b0 := hS.old b0; have b1 := hS.old b1; have b2 := hS.old b2; have b3 := hS.old b3; go_simp; try with_reducible rfl)
          simp only [List.getElem_toArray, List.getElem_cons_succ, List.getElem_cons_zero, Act.put, List.setIfInBounds_toArray, List.set_cons_zero, List.set_cons_succ]
          refine wpAnyH_take (i := 9) (v := ?_) rfl (by kernel_rfl) (by kernel_rfl) (by kernel_rfl) (fun _ _ _ h => h) (Or.inl ⟨by rfl, ?_⟩) (by assumption) ?_
          rotate_left
          · (intro wS hS; have b0 := hS.old b0; have b1 := hS.old b1; have b2 := hS.old b2; have b3 := hS.old b3; go_simp; try with_reducible rfl)
          simp only [List.getElem_toArray, List.getElem_cons_succ, List.getElem_cons_zero, Act.put, List.setIfInBounds_toArray, List.set_cons_zero, List.set_cons_succ]
          refine wpAnyH_take (i := 10) (v := ?_) rfl (by kernel_rfl) (by kernel_rfl) (by kernel_rfl) (fun _ _ _ h => h) (Or.inl ⟨by rfl, ?_⟩) (by assumption) ?_
          rotate_left
          · (intro wS hS; have b0 := hS.old b0; have b1 := hS.old b1; have b2 := hS.old b2; have b3 := hS.old b3; go_simp; try with_reducible rfl)
          simp only [List.getElem_toArray, List.getElem_cons_succ, List.getElem_cons_zero, Act.put, List.setIfInBounds_toArray, List.set_cons_zero, List.set_cons_succ]
          refine wpAnyH_take (i := 11) (v := ?_) rfl (by kernel_rfl) (by kernel_rfl) (by kernel_rfl) (fun _ _ _ h => h) (Or.inl ⟨by rfl, ?_⟩) (by assumption) ?_
          rotate_left
          · (intro wS hS; have b0 := hS.old b0; have b1 := hS.old b1; have b2 := hS.old b2; have b3 := hS.old b3; go_simp; try with_reducible rfl)
          simp only [List.getElem_toArray, List.getElem_cons_succ, List.getElem_cons_zero, Act.put, List.setIfInBounds_toArray, List.set_cons_zero, List.set_cons_succ]
          refine wpAnyH_take (i := 12) (v := ?_) rfl (by kernel_rfl) (by kernel_rfl) (by kernel_rfl) (fun _ _ _ h => h) (Or.inl ⟨by rfl, ?_⟩) (by assumption) ?_
          rotate_left
          · (intro wS hS; have b0 := hS.old b0; have b1 := hS.old b1; have b2 := hS.old b2; have b3 := hS.old b3; go_simp; try with_reducible rfl)
          simp only [List.getElem_toArray, List.getElem_cons_succ, List.getElem_cons_zero, Act.put, List.setIfInBounds_toArray, List.set_cons_zero, List.set_cons_succ]
          refine wpAnyH_take (i := 13) (v := ?_) rfl (by kernel_rfl) (by kernel_rfl) (by kernel_rfl) (fun _ _ _ h => h) (Or.inl ⟨by rfl, ?_⟩) (by assumption) ?_
          rotate_left
          · (intro wS hS; have b0 := hS.old b0; have b1 := hS.old b1; have b2 := hS.old b2; have b3 := hS.old b3; go_simp; try with_reducible rfl)
          simp only [List.getElem_toArray, List.getElem_cons_succ, List.getElem_cons_zero, Act.put, List.setIfInBounds_toArray, List.set_cons_zero, List.set_cons_succ]
          refine wpAnyH_ready (rs := [14]) (by kernel_rfl) (by simp) (AllReadyH.cons rfl (fun K hK => ?_) AllReadyH.nil)
          go_simp; go_at_call 10; refine (works_any _ (HG.out.ch (cw6.then hHeld))).mono ?_; rintro e w10 ⟨rfl, c10⟩; have c9 := hHeld.then c10; clear hHeld
          refine hK.out _ _ (by exact c9) (fun hHeld => ?_)
          clear hK K
          refine wpAnyH_take (i := 15) (v := ?_) rfl (by kernel_rfl) (by kernel_rfl) (by kernel_rfl) (fun _ _ _ h => h) (Or.inl ⟨by rfl, ?_⟩) (by assumption) ?_
          rotate_left
          · (intro wS hS; have b0 := hS.old b0; have b1 := hS.old b1; have b2 := hS.old b2; have b3 := hS.old b3; go_simp; try with_reducible rfl)
          simp only [List.getElem_toArray, List.getElem_cons_succ, List.getElem_cons_zero, Act.put, List.setIfInBounds_toArray, List.set_cons_zero, List.set_cons_succ]
          refine wpAnyH_take (i := 16) (v := ?_) rfl (by kernel_rfl) (by kernel_rfl) (by kernel_rfl) (fun _ _ _ h => h) (Or.inl ⟨by rfl, ?_⟩) (by assumption) ?_
          rotate_left
          · (intro wS hS; have b0 := hS.old b0; have b1 := hS.old b1; have b2 := hS.old b2; have b3 := hS.old b3; go_simp; try with_reducible rfl)
          simp only [List.getElem_toArray, List.getElem_cons_succ, List.getElem_cons_zero, Act.put, List.setIfInBounds_toArray, List.set_cons_zero, List.set_cons_succ]
          refine wpAnyH_done (by kernel_rfl) ?_ _
          go_wp2_with (fail)
          go_ret
          exact ⟨rfl, cw6.then hHeld⟩
end Go.Proofs.YtjknnifcbcdjiaaDoor.TabL
