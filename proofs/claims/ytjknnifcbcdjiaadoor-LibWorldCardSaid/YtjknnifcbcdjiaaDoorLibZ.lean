/- The same worlds: samePackage, Same of what reads alike. -/
import Derived.Test.YtjknnifcbcdjiaaDoorLibY
set_option linter.unusedVariables false
set_option linter.unusedSimpArgs false
namespace Go.Proofs.YtjknnifcbcdjiaaDoor.TabL
open Go.RowKit Go.Proofs.YtjknnifcbcdjiaaDoor.Base Go.Proofs.YtjknnifcbcdjiaaDoorW.PrintWords Go.Proofs.YtjknnifcbcdjiaaDoorW.PrintLast Go.Proofs.YtjknnifcbcdjiaaDoor.Tab
set_option maxHeartbeats 4000000 in
set_option maxRecDepth 100000 in
theorem bytes_same {w : World} {N1 N2 c1 c2 : Nat} {T1 T2 : TypeId} {l : List Int} (hl : l.length ≤ 1000) (h1 : Blk w N1 (cr l) T1) (h2 : Blk w N2 (cr l) T2) :
    Calls Tryd.prog 36 #[.slice (some ⟨N1, 0, none⟩) l.length c1, .slice (some ⟨N2, 0, none⟩) l.length c2] w fun e w' => e = .returned (.bool true) ∧ Ch (fun _ => False) w w' := by
  go_enter Tryd.func36, Tryd.ntmps36
  go_wp2_with (fail)
  go_loopg [5] l.length (fun q i wl => ∃ k : Nat, k + q ≤ l.length ∧ l.length ≤ k + q ∧ i = .int .i64 k ∧ Ch (fun _ => False) w wl)
  case atStart => exact ⟨0, by omega, by omega, rfl, Ch.refl _ _⟩
  case round =>
    obtain ⟨k, hk1, hk2, rfl, hc⟩ := hrel
    by_cases hlt : 0 < gk
    · have hk : k < l.length := by omega
      have hkk : (k : Int) < (l.length : Int) := by omega
      have z1 := hc.old ((h1.cell k).trans (cr_get l k hk))
      have z2 := hc.old ((h2.cell k).trans (cr_get l k hk))
      generalize l.getD k 0 = x at *
      go_wp2_with (fail)
      go_quiet (fail)
      go_wp2_with (fail)
      go_roundg (gk - 1)
      case measure => omega
      case rel => exact ⟨k + 1, by omega, by omega, by go_num, hc.drewN _⟩
    · have hkk : ¬ ((k : Int) < (l.length : Int)) := by omega
      go_wp2_with (fail)
      go_ret
      exact ⟨rfl, hc⟩
/-- An export of a row, where its cells stand. -/
theorem ex_at {w : World} {base : Nat} {v : Value} {ms : List ExpM} (h : ∃ xs, w.ownsRow base 67 3 v ms.length xs ∧ Reps (ExpRep w base) 3 ms xs) (i : Nat) (hi : i < ms.length) :
    ∃ g cap A c, v = .slice (some ⟨g, 0, none⟩) ms.length cap ∧ w.cell? ⟨g, i * 3, none⟩ = some (.int .i64 (ms[i]).cl) ∧ w.cell? ⟨g, i * 3 + 1, none⟩ = some (.slice none 0 0) ∧ w.cell? ⟨g, i * 3 + 2, none⟩ = some (.slice A (ms[i]).ms.length c) ∧ Ints w base (.slice A (ms[i]).ms.length c) (ms[i]).ms := by
  obtain ⟨xs, o, r⟩ := h
  obtain ⟨g, cap, cs, hv, hlt, ⟨vf, rfl, a⟩, hc⟩ := reps_cell o r rfl i hi
  obtain ⟨A, c, rfl⟩ := own_len a
  exact ⟨g, cap, A, c, hv, hc 0 _ (by omega) rfl, hc 1 _ (by omega) rfl, hc 2 _ (by omega) rfl, a⟩
theorem ints_nil (w : World) (b : Nat) : Ints w b (.slice none 0 0) [] := ⟨rfl, Or.inl ⟨rfl, rfl⟩⟩
def pname : List Int := [160, 0, 0, 0, 98, 1, 1]
set_option maxHeartbeats 4000000 in
set_option maxRecDepth 100000 in
theorem pkg_same {w : World} {b1 b2 N1 N2 : Nat} {v1 v2 : Value} {xs : List ExpM} (n1 : Blk w N1 (cr pname) 5) (n2 : Blk w N2 (cr pname) 5)
    (h1 : ∃ ys, w.ownsRow b1 67 3 v1 xs.length ys ∧ Reps (ExpRep w b1) 3 xs ys) (h2 : ∃ ys, w.ownsRow b2 67 3 v2 xs.length ys ∧ Reps (ExpRep w b2) 3 xs ys) :
    Calls Tryd.prog 22 #[.agg #[.slice (some ⟨N1, 0, none⟩) 7 7, .int .u8 1, .int .u8 0, .bool false, v1, .slice none 0 0], .agg #[.slice (some ⟨N2, 0, none⟩) 7 7, .int .u8 1, .int .u8 0, .bool false, v2, .slice none 0 0]] w fun e w' => e = .returned (.bool true) ∧ Ch (fun _ => False) w w' := by
  have hmx := own_max h1.choose_spec.1
  obtain ⟨A1, c1, rfl⟩ := own_len h1.choose_spec.1
  obtain ⟨A2, c2, rfl⟩ := own_len h2.choose_spec.1
  have C2 : Ch (fun _ => False) w ((w.alloc (.cells #[.slice (some ⟨N1, 0, none⟩) 7 7, .int .u8 1, .int .u8 0, .bool false, .slice A1 xs.length c1, .slice none 0 0] 56)).alloc (.cells #[.slice (some ⟨N2, 0, none⟩) 7 7, .int .u8 1, .int .u8 0, .bool false, .slice A2 xs.length c2, .slice none 0 0] 56)) := ((Ch.refl _ w).alloc _).alloc _
  have hB1 : Blk ((w.alloc (.cells #[.slice (some ⟨N1, 0, none⟩) 7 7, .int .u8 1, .int .u8 0, .bool false, .slice A1 xs.length c1, .slice none 0 0] 56)).alloc (.cells #[.slice (some ⟨N2, 0, none⟩) 7 7, .int .u8 1, .int .u8 0, .bool false, .slice A2 xs.length c2, .slice none 0 0] 56)) w.heap.size #[.slice (some ⟨N1, 0, none⟩) 7 7, .int .u8 1, .int .u8 0, .bool false, .slice A1 xs.length c1, .slice none 0 0] 56 := (Blk.new w _ _).alloc _
  have hB2 : Blk ((w.alloc (.cells #[.slice (some ⟨N1, 0, none⟩) 7 7, .int .u8 1, .int .u8 0, .bool false, .slice A1 xs.length c1, .slice none 0 0] 56)).alloc (.cells #[.slice (some ⟨N2, 0, none⟩) 7 7, .int .u8 1, .int .u8 0, .bool false, .slice A2 xs.length c2, .slice none 0 0] 56)) (w.heap.size + 1) #[.slice (some ⟨N2, 0, none⟩) 7 7, .int .u8 1, .int .u8 0, .bool false, .slice A2 xs.length c2, .slice none 0 0] 56 := blk_to (Blk.new _ _ _) (by simp)
  have hT := Lib.hid (bytes_same (c1 := 7) (c2 := 7) (by decide) (n1.ch C2 (fun h => h)) (n2.ch C2 (fun h => h)))
  clear n1 n2
  go_enter Tryd.func22, Tryd.ntmps22
  go_wp2_with (fail)
  refine hT.out.mono ?_
  rintro e w3 ⟨rfl, c3⟩
  have hB1 := hB1.ch c3 (fun h => h)
  have hB2 := hB2.ch c3 (fun h => h)
  replace C2 := C2.then c3
  clear c3 hT
  have x1 := hB1.cell 1
  have x2 := hB1.cell 2
  have x3 := hB1.cell 3
  have x4 := hB1.cell 4
  have x5 := hB1.cell 5
  simp at x1 x2 x3 x4 x5
  have y1 := hB2.cell 1
  have y2 := hB2.cell 2
  have y3 := hB2.cell 3
  have y4 := hB2.cell 4
  have y5 := hB2.cell 5
  simp at y1 y2 y3 y4 y5
  go_wp2_with (fail)
  clear x1 x2 x3 x4 x5 y1 y2 y3 y4 y5
  go_loopg [5] xs.length (fun q i wl => ∃ k : Nat, k + q ≤ xs.length ∧ xs.length ≤ k + q ∧ i = .int .i64 k ∧ Ch (fun _ => False) w3 wl)
  case atStart => exact ⟨0, by omega, by omega, rfl, Ch.refl _ _⟩
  case round => as_aux_lemma =>
    obtain ⟨k, hk1, hk2, rfl, hc⟩ := hrel
    have hB1r := hB1.ch hc (fun h => h)
    have hB2r := hB2.ch hc (fun h => h)
    have x4 := hB1r.cell 4
    have x5 := hB1r.cell 5
    simp at x4 x5
    have y4 := hB2r.cell 4
    have y5 := hB2r.cell 5
    simp at y4 y5
    by_cases hlt : 0 < gk
    · have hk : k < xs.length := by omega
      have hkk : (k : Int) < (xs.length : Int) := by omega
      obtain ⟨g1, p1, B1, d1, e1, q0, q1, q2, I1⟩ := ex_at h1 k hk
      obtain ⟨g2, p2, B2, d2, e2, r0, r1, r2, I2⟩ := ex_at h2 k hk
      injection e1 with a1 _ a2
      injection e2 with a3 _ a4
      subst a1 a2 a3 a4
      have CC := C2.then hc
      have q0 := CC.old q0
      have q1 := CC.old q1
      have q2 := CC.old q2
      have r0 := CC.old r0
      have r1 := CC.old r1
      have r2 := CC.old r2
      generalize xs[k] = x at *
      obtain ⟨xc, xm⟩ := x
      dsimp only at *
      go_upto_region 6 with (fail)
      obtain ⟨g0, HG0⟩ : ∃ g0, Hid (g0 = gk) := ⟨_, Lib.hid rfl⟩
      go_cut [6, 7] (fun u6 u7 wx => ∃ P Q, u6 = .pointer (some ⟨P, 0, none⟩) ∧ u7 = .pointer (some ⟨Q, 0, none⟩) ∧ Blk wx P #[.int .i64 xc, .slice none 0 0, .slice B1 xm.length d1] 67 ∧ Blk wx Q #[.int .i64 xc, .slice none 0 0, .slice B2 xm.length d2] 67 ∧ Ch (fun _ => False) wr wx)
      case first =>
        have hk := Lib.hid (fun (wy : World) (c : Ch (fun _ => False) wr wy) => show wy.cell? ⟨w.heap.size, 4, none⟩ = some (.slice (some ⟨g1, 0, none⟩) xs.length c1) ∧ wy.cell? ⟨w.heap.size + 1, 4, none⟩ = some (.slice (some ⟨g2, 0, none⟩) xs.length c2) ∧ wy.cell? ⟨g1, k * 3, none⟩ = some (.int .i64 xc) ∧ wy.cell? ⟨g1, k * 3 + 1, none⟩ = some (.slice none 0 0) ∧ wy.cell? ⟨g1, k * 3 + 2, none⟩ = some (.slice B1 xm.length d1) ∧ wy.cell? ⟨g2, k * 3, none⟩ = some (.int .i64 xc) ∧ wy.cell? ⟨g2, k * 3 + 1, none⟩ = some (.slice none 0 0) ∧ wy.cell? ⟨g2, k * 3 + 2, none⟩ = some (.slice B2 xm.length d2) from ⟨c.old x4, c.old y4, c.old q0, c.old q1, c.old q2, c.old r0, c.old r1, c.old r2⟩)
        first | (go_region_held3 (fun w' => w'.cell? ⟨w.heap.size, 4, none⟩ = some (.slice (some ⟨g1, 0, none⟩) xs.length c1) ∧ w'.cell? ⟨w.heap.size + 1, 4, none⟩ = some (.slice (some ⟨g2, 0, none⟩) xs.length c2) ∧ w'.cell? ⟨g1, k * 3, none⟩ = some (.int .i64 xc) ∧ w'.cell? ⟨g1, k * 3 + 1, none⟩ = some (.slice none 0 0) ∧ w'.cell? ⟨g1, k * 3 + 2, none⟩ = some (.slice B1 xm.length d1) ∧ w'.cell? ⟨g2, k * 3, none⟩ = some (.int .i64 xc) ∧ w'.cell? ⟨g2, k * 3 + 1, none⟩ = some (.slice none 0 0) ∧ w'.cell? ⟨g2, k * 3 + 2, none⟩ = some (.slice B2 xm.length d2)) ((refine hk.out _ ?_; (repeat (first | exact Ch.refl _ _ | refine Ch.drew ?_ | refine Ch.alloc ?_ _ | refine Ch.setCell ?_ (Or.inr (by simp)) _)))) (fail)) | fail
        all_goals
          go_wp2_with (fail)
          go_meet
          first
          | exact ⟨_, _, rfl, rfl, ((Blk.new wr _ _).alloc _).drew, (blk_to (Blk.new _ _ _) (by simp)).drew, (((Ch.refl _ wr).alloc _).alloc _).drew⟩
          | exact ⟨_, _, rfl, rfl, (blk_to (Blk.new _ _ _) (by simp)).drew, ((Blk.new wr _ _).alloc _).drew, (((Ch.refl _ wr).alloc _).alloc _).drew⟩
      case rest =>
        obtain ⟨P, Q, rfl, rfl, hP, hQ, hcx⟩ := hcut
        have hcc := hc.then hcx
        have I1 := own_gr I1 (C2.then hcc)
        have I2 := own_gr I2 (C2.then hcc)
        clear x4 x5 y4 y5 q0 q1 q2 r0 r1 r2 CC hB1r hB2r hc hcx
        have s0 := hP.cell 0
        have s1 := hP.cell 1
        have s2 := hP.cell 2
        have t0 := hQ.cell 0
        have t1 := hQ.cell 1
        have t2 := hQ.cell 2
        simp at s0 s1 s2 t0 t1 t2
        go_wp2_with (fail)
        refine (ints_same (ints_nil _ 0) (ints_nil _ 0)).mono ?_
        rintro e w5 ⟨rfl, c5⟩
        clear s0 s1 s2 t0 t1 t2
        have hP := hP.ch c5 (fun h => h)
        have hQ := hQ.ch c5 (fun h => h)
        have s2 := hP.cell 2
        have t2 := hQ.cell 2
        simp at s2 t2
        go_wp2_with (fail)
        refine (ints_same (own_gr I1 c5) (own_gr I2 c5)).mono ?_
        rintro e w6 ⟨rfl, c6⟩
        clear s2 t2 hP hQ I1 I2
        go_wp2_with (fail)
        go_roundg (g0 - 1)
        case measure => have := HG0.out; omega
        case rel => exact ⟨k + 1, by have := HG0.out; omega, by have := HG0.out; omega, by go_num, (hcc.then c5).then c6⟩
    · have hkk : ¬ ((k : Int) < (xs.length : Int)) := by omega
      go_wp2_with (fail)
      go_loopg [8] 0 (fun q i wl => i = .int .i64 0 ∧ wl = wr)
      case atStart => exact ⟨rfl, rfl⟩
      case round =>
        obtain ⟨rfl, rfl⟩ := hrel
        go_wp2_with (fail)
        go_ret
        exact ⟨rfl, C2.then hc⟩
theorem cl_ty {w : World} {base : Nat} {v : Value} {cl : List ClsM} (h : ∃ xs, w.ownsRow base 44 7 v cl.length xs ∧ Reps (ClsRep w base) 7 cl xs) (i : Nat) (hi : i < cl.length) {g cap : Nat} {u : Value} (hv : v = .slice (some ⟨g, 0, none⟩) cl.length cap) (hu : w.cell? ⟨g, i * 7 + 4, none⟩ = some u) : Ty w base u (cl[i]).fields := by
  obtain ⟨xs, o, r⟩ := h
  obtain ⟨g', cap', cs, hv', hlt, ⟨vf, vv, rfl, a, b⟩, hc⟩ := reps_cell o r rfl i hi
  rw [hv] at hv'
  injection hv' with hv' _ _
  injection hv' with hv'
  injection hv' with hv' _ _
  subst hv'
  have := hc 4 _ (by omega) rfl
  rw [hu] at this
  injection this with this
  exact this ▸ a
theorem me_ty {w : World} {base : Nat} {v : Value} {ms : List MetM} (h : ∃ xs, w.ownsRow base 39 11 v ms.length xs ∧ Reps (MetRep w base) 11 ms xs) (i : Nat) (hi : i < ms.length) {g cap : Nat} {u : Value} (hv : v = .slice (some ⟨g, 0, none⟩) ms.length cap) (hu : w.cell? ⟨g, i * 11 + 3, none⟩ = some u) : Ty w base u (ms[i]).ps := by
  obtain ⟨xs, o, r⟩ := h
  obtain ⟨g', cap', cs, hv', hlt, ⟨vf, rfl, a⟩, hc⟩ := reps_cell o r rfl i hi
  rw [hv] at hv'
  injection hv' with hv' _ _
  injection hv' with hv'
  injection hv' with hv' _ _
  subst hv'
  have := hc 3 _ (by omega) rfl
  rw [hu] at this
  injection this with this
  exact this ▸ a
theorem ex_gr {w w' : World} {base : Nat} {v : Value} {ms : List ExpM} (h : ∃ xs, w.ownsRow base 67 3 v ms.length xs ∧ Reps (ExpRep w base) 3 ms xs) (c : Ch (fun _ => False) w w') : ∃ xs, w'.ownsRow base 67 3 v ms.length xs ∧ Reps (ExpRep w' base) 3 ms xs := by
  obtain ⟨xs, o, r⟩ := h
  refine ⟨xs, own_gr o c, r.1, fun j p hp => ?_⟩
  obtain ⟨a, e, t⟩ := r.2 j p hp
  exact ⟨a, e, own_gr t c⟩
set_option maxHeartbeats 8000000 in
set_option maxRecDepth 100000 in
theorem worlds_same {w : World} {base1 base2 : Nat} {u v : Value} {s : List ClsM × List MetM × List ExpM} (h1 : WorldRep w base1 u s) (h2 : WorldRep w base2 v s) (hl1 : s.1.length ≤ 1000) (hl2 : s.2.1.length ≤ 1000) :
    Calls Tryd.prog 8 #[u, v] w fun e w' => e = .returned (.bool true) ∧ Ch (fun _ => False) w w' := by
  obtain ⟨u1, u2, u3, u4, N1, rfl, hC1, hM1, hX1, _, hN1, hP1⟩ := h1
  obtain ⟨v1, v2, v3, v4, N2, rfl, hC2, hM2, hX2, _, hN2, hP2⟩ := h2
  obtain ⟨A1, a1, rfl⟩ := own_len hC1.choose_spec.1
  obtain ⟨B1, b1, rfl⟩ := own_len hC2.choose_spec.1
  obtain ⟨A2, a2, rfl⟩ := own_len hM1.choose_spec.1
  obtain ⟨B2, b2, rfl⟩ := own_len hM2.choose_spec.1
  obtain ⟨g4, a4, hu4, _, _⟩ := World.ownsRow.form hP1 (by decide)
  obtain ⟨k4, b4, hv4, _, _⟩ := World.ownsRow.form hP2 (by decide)
  obtain ⟨A3, a3, rfl⟩ := own_len hX1.choose_spec.1
  obtain ⟨B3, b3, rfl⟩ := own_len hX2.choose_spec.1
  have pk1 : ∀ (j : Nat) (x : Value), [Value.slice (some ⟨N1, 0, none⟩) 7 7, .int .u8 1, .int .u8 0, .bool false, .slice A3 s.2.2.length a3, .slice none 0 0][j]? = some x → w.cell? ⟨g4, j, none⟩ = some x := fun j x hx => by
    have := World.ownsRow.cells hP1 (g := g4) (by rw [hu4]; rfl) j x hx
    rwa [add_plain] at this
  have pk2 : ∀ (j : Nat) (x : Value), [Value.slice (some ⟨N2, 0, none⟩) 7 7, .int .u8 1, .int .u8 0, .bool false, .slice B3 s.2.2.length b3, .slice none 0 0][j]? = some x → w.cell? ⟨k4, j, none⟩ = some x := fun j x hx => by
    have := World.ownsRow.cells hP2 (g := k4) (by rw [hv4]; rfl) j x hx
    rwa [add_plain] at this
  have PK1 := Lib.hid pk1
  have PK2 := Lib.hid pk2
  clear pk1 pk2 hP1 hP2
  subst hu4 hv4
  have C2 : Ch (fun _ => False) w ((w.alloc (.cells #[.slice A1 s.1.length a1, .slice A2 s.2.1.length a2, .slice none 0 0, .slice (some ⟨g4, 0, none⟩) 1 a4] 27)).alloc (.cells #[.slice B1 s.1.length b1, .slice B2 s.2.1.length b2, .slice none 0 0, .slice (some ⟨k4, 0, none⟩) 1 b4] 27)) := ((Ch.refl _ w).alloc _).alloc _
  have hB1 : Blk ((w.alloc (.cells #[.slice A1 s.1.length a1, .slice A2 s.2.1.length a2, .slice none 0 0, .slice (some ⟨g4, 0, none⟩) 1 a4] 27)).alloc (.cells #[.slice B1 s.1.length b1, .slice B2 s.2.1.length b2, .slice none 0 0, .slice (some ⟨k4, 0, none⟩) 1 b4] 27)) w.heap.size #[.slice A1 s.1.length a1, .slice A2 s.2.1.length a2, .slice none 0 0, .slice (some ⟨g4, 0, none⟩) 1 a4] 27 := (Blk.new w _ _).alloc _
  have hB2 : Blk ((w.alloc (.cells #[.slice A1 s.1.length a1, .slice A2 s.2.1.length a2, .slice none 0 0, .slice (some ⟨g4, 0, none⟩) 1 a4] 27)).alloc (.cells #[.slice B1 s.1.length b1, .slice B2 s.2.1.length b2, .slice none 0 0, .slice (some ⟨k4, 0, none⟩) 1 b4] 27)) (w.heap.size + 1) #[.slice B1 s.1.length b1, .slice B2 s.2.1.length b2, .slice none 0 0, .slice (some ⟨k4, 0, none⟩) 1 b4] 27 := blk_to (Blk.new _ _ _) (by simp)
  go_enter Tryd.func8, Tryd.ntmps8
  go_wp2_with (fail)
  generalize hW : ((w.alloc (.cells #[.slice A1 s.1.length a1, .slice A2 s.2.1.length a2, .slice none 0 0, .slice (some ⟨g4, 0, none⟩) 1 a4] 27)).alloc (.cells #[.slice B1 s.1.length b1, .slice B2 s.2.1.length b2, .slice none 0 0, .slice (some ⟨k4, 0, none⟩) 1 b4] 27)) = w2 at *
  clear hW
  go_loopg [5] s.1.length (fun q i wl => ∃ k : Nat, k + q ≤ s.1.length ∧ s.1.length ≤ k + q ∧ i = .int .i64 k ∧ Ch (fun _ => False) w2 wl)
  case atStart => exact ⟨0, by omega, by omega, rfl, Ch.refl _ _⟩
  case round => as_aux_lemma =>
    obtain ⟨k, hk1, hk2, rfl, hc⟩ := hrel
    have hcw := C2.then hc
    have hBr1 := hB1.ch hc (fun h => h)
    have hBr2 := hB2.ch hc (fun h => h)
    have x0 := hBr1.cell 0
    have y0 := hBr2.cell 0
    simp at x0 y0
    by_cases hlt : 0 < gk
    · have hk : k < s.1.length := by omega
      have hkk : (k : Int) < (s.1.length : Int) := by omega
      obtain ⟨g1, m1, F1, f1, G1, n1, e1, p0, p1, p2, p3, p4, p5, p6, I1⟩ := cl_at hC1 k hk
      obtain ⟨g2, m2, F2, f2, G2, n2, e2, q0, q1, q2, q3, q4, q5, q6, I2⟩ := cl_at hC2 k hk
      obtain ⟨T1, T2⟩ : (Ty w base1 (.slice F1 (s.1[k]).fields.length f1) (s.1[k]).fields) ∧ (Ty w base2 (.slice F2 (s.1[k]).fields.length f2) (s.1[k]).fields) := ⟨cl_ty hC1 k hk e1 p4, cl_ty hC2 k hk e2 q4⟩
      injection e1 with z1 _ z2
      injection e2 with z3 _ z4
      subst z1 z2 z3 z4
      have p0 := hcw.old p0
      have p1 := hcw.old p1
      have p2 := hcw.old p2
      have p3 := hcw.old p3
      have p4 := hcw.old p4
      have p5 := hcw.old p5
      have p6 := hcw.old p6
      have q0 := hcw.old q0
      have q1 := hcw.old q1
      have q2 := hcw.old q2
      have q3 := hcw.old q3
      have q4 := hcw.old q4
      have q5 := hcw.old q5
      have q6 := hcw.old q6
      have T1 := own_gr T1 hcw
      have T2 := own_gr T2 hcw
      have I1 := own_gr I1 hcw
      have I2 := own_gr I2 hcw
      generalize s.1[k] = c at *
      obtain ⟨fl, su, fs, vs⟩ := c
      dsimp only at *
      obtain ⟨g0, HG0⟩ : ∃ g0, Hid (g0 = gk) := ⟨_, Lib.hid rfl⟩
      go_upto_region 6 with (fail)
      refine wp_region_held_drew (S := (fun W => Ch (fun _ => False) wr W)) (by kernel_rfl) (by exact (Ch.refl _ wr).drew) (fun hHeld => ?_)
      refine wpAnyH_take (i := 0) (v := ?_) rfl (by kernel_rfl) (by kernel_rfl) (by kernel_rfl) (fun _ _ _ h => h) (Or.inl ⟨by rfl, ?_⟩) (by assumption) ?_
      rotate_left
      · (intro wS hS; have x0 := hS.old x0; have y0 := hS.old y0; have p0 := hS.old p0; have p1 := hS.old p1; have p2 := hS.old p2; have p3 := hS.old p3; have p4 := hS.old p4; have p5 := hS.old p5; have p6 := hS.old p6; have q0 := hS.old q0; have q1 := hS.old q1; have q2 := hS.old q2; have q3 := hS.old q3; have q4 := hS.old q4; have q5 := hS.old q5; have q6 := hS.old q6; go_simp; try with_reducible rfl)
      simp only [List.getElem_toArray, List.getElem_cons_succ, List.getElem_cons_zero, Act.put, List.setIfInBounds_toArray, List.set_cons_zero, List.set_cons_succ]
      refine wpAnyH_take (i := 1) (v := ?_) rfl (by kernel_rfl) (by kernel_rfl) (by kernel_rfl) (fun _ _ _ h => h) (Or.inl ⟨by rfl, ?_⟩) (by assumption) ?_
      rotate_left
      · (intro wS hS; have x0 := hS.old x0; have y0 := hS.old y0; have p0 := hS.old p0; have p1 := hS.old p1; have p2 := hS.old p2; have p3 := hS.old p3; have p4 := hS.old p4; have p5 := hS.old p5; have p6 := hS.old p6; have q0 := hS.old q0; have q1 := hS.old q1; have q2 := hS.old q2; have q3 := hS.old q3; have q4 := hS.old q4; have q5 := hS.old q5; have q6 := hS.old q6; go_simp; try with_reducible rfl)
      simp only [List.getElem_toArray, List.getElem_cons_succ, List.getElem_cons_zero, Act.put, List.setIfInBounds_toArray, List.set_cons_zero, List.set_cons_succ]
      refine wpAnyH_take (i := 2) (v := ?_) rfl (by kernel_rfl) (by kernel_rfl) (by kernel_rfl) (fun _ _ _ h => h) (Or.inl ⟨by rfl, ?_⟩) (by assumption) ?_
      rotate_left
      · (intro wS hS; have x0 := hS.old x0; have y0 := hS.old y0; have p0 := hS.old p0; have p1 := hS.old p1; have p2 := hS.old p2; have p3 := hS.old p3; have p4 := hS.old p4; have p5 := hS.old p5; have p6 := hS.old p6; have q0 := hS.old q0; have q1 := hS.old q1; have q2 := hS.old q2; have q3 := hS.old q3; have q4 := hS.old q4; have q5 := hS.old q5; have q6 := hS.old q6; go_simp; try with_reducible rfl)
      simp only [List.getElem_toArray, List.getElem_cons_succ, List.getElem_cons_zero, Act.put, List.setIfInBounds_toArray, List.set_cons_zero, List.set_cons_succ]
      refine wpAnyH_take (i := 3) (v := ?_) rfl (by kernel_rfl) (by kernel_rfl) (by kernel_rfl) (fun _ _ _ h => h) (Or.inl ⟨by rfl, ?_⟩) (by assumption) ?_
      rotate_left
      · (intro wS hS; have x0 := hS.old x0; have y0 := hS.old y0; have p0 := hS.old p0; have p1 := hS.old p1; have p2 := hS.old p2; have p3 := hS.old p3; have p4 := hS.old p4; have p5 := hS.old p5; have p6 := hS.old p6; have q0 := hS.old q0; have q1 := hS.old q1; have q2 := hS.old q2; have q3 := hS.old q3; have q4 := hS.old q4; have q5 := hS.old q5; have q6 := hS.old q6; go_simp; try with_reducible rfl)
      simp only [List.getElem_toArray, List.getElem_cons_succ, List.getElem_cons_zero, Act.put, List.setIfInBounds_toArray, List.set_cons_zero, List.set_cons_succ]
      refine wpAnyH_take (i := 4) (v := ?_) rfl (by kernel_rfl) (by kernel_rfl) (by kernel_rfl) (fun _ _ _ h => h) (Or.inl ⟨by rfl, ?_⟩) (by assumption) ?_
      rotate_left
      · (intro wS hS; have x0 := hS.old x0; have y0 := hS.old y0; have p0 := hS.old p0; have p1 := hS.old p1; have p2 := hS.old p2; have p3 := hS.old p3; have p4 := hS.old p4; have p5 := hS.old p5; have p6 := hS.old p6; have q0 := hS.old q0; have q1 := hS.old q1; have q2 := hS.old q2; have q3 := hS.old q3; have q4 := hS.old q4; have q5 := hS.old q5; have q6 := hS.old q6; go_simp; try with_reducible rfl)
      simp only [List.getElem_toArray, List.getElem_cons_succ, List.getElem_cons_zero, Act.put, List.setIfInBounds_toArray, List.set_cons_zero, List.set_cons_succ]
      refine wpAnyH_take (i := 5) (v := ?_) rfl (by kernel_rfl) (by kernel_rfl) (by kernel_rfl) (fun _ _ _ h => h) (Or.inl ⟨by rfl, ?_⟩) (by assumption) ?_
      rotate_left
      · (intro wS hS; have x0 := hS.old x0; have y0 := hS.old y0; have p0 := hS.old p0; have p1 := hS.old p1; have p2 := hS.old p2; have p3 := hS.old p3; have p4 := hS.old p4; have p5 := hS.old p5; have p6 := hS.old p6; have q0 := hS.old q0; have q1 := hS.old q1; have q2 := hS.old q2; have q3 := hS.old q3; have q4 := hS.old q4; have q5 := hS.old q5; have q6 := hS.old q6; go_simp; try with_reducible rfl)
      simp only [List.getElem_toArray, List.getElem_cons_succ, List.getElem_cons_zero, Act.put, List.setIfInBounds_toArray, List.set_cons_zero, List.set_cons_succ]
      refine wpAnyH_take (i := 6) (v := ?_) rfl (by kernel_rfl) (by kernel_rfl) (by kernel_rfl) (fun _ _ _ h => h) (Or.inl ⟨by rfl, ?_⟩) (by assumption) ?_
      rotate_left
      · (intro wS hS; have x0 := hS.old x0; have y0 := hS.old y0; have p0 := hS.old p0; have p1 := hS.old p1; have p2 := hS.old p2; have p3 := hS.old p3; have p4 := hS.old p4; have p5 := hS.old p5; have p6 := hS.old p6; have q0 := hS.old q0; have q1 := hS.old q1; have q2 := hS.old q2; have q3 := hS.old q3; have q4 := hS.old q4; have q5 := hS.old q5; have q6 := hS.old q6; go_simp; try with_reducible rfl)
      simp only [List.getElem_toArray, List.getElem_cons_succ, List.getElem_cons_zero, Act.put, List.setIfInBounds_toArray, List.set_cons_zero, List.set_cons_succ]
      refine wpAnyH_take (i := 7) (v := ?_) rfl (by kernel_rfl) (by kernel_rfl) (by kernel_rfl) (fun _ _ _ h => h) (Or.inl ⟨by rfl, ?_⟩) (by assumption) ?_
      rotate_left
      · (intro wS hS; have x0 := hS.old x0; have y0 := hS.old y0; have p0 := hS.old p0; have p1 := hS.old p1; have p2 := hS.old p2; have p3 := hS.old p3; have p4 := hS.old p4; have p5 := hS.old p5; have p6 := hS.old p6; have q0 := hS.old q0; have q1 := hS.old q1; have q2 := hS.old q2; have q3 := hS.old q3; have q4 := hS.old q4; have q5 := hS.old q5; have q6 := hS.old q6; go_simp; try with_reducible rfl)
      simp only [List.getElem_toArray, List.getElem_cons_succ, List.getElem_cons_zero, Act.put, List.setIfInBounds_toArray, List.set_cons_zero, List.set_cons_succ]
      refine wpAnyH_take (i := 8) (v := ?_) rfl (by kernel_rfl) (by kernel_rfl) (by kernel_rfl) (fun _ _ _ h => h) (Or.inl ⟨by rfl, ?_⟩) (by assumption) ?_
      rotate_left
      · (intro wS hS; have x0 := hS.old x0; have y0 := hS.old y0; have p0 := hS.old p0; have p1 := hS.old p1; have p2 := hS.old p2; have p3 := hS.old p3; have p4 := hS.old p4; have p5 := hS.old p5; have p6 := hS.old p6; have q0 := hS.old q0; have q1 := hS.old q1; have q2 := hS.old q2; have q3 := hS.old q3; have q4 := hS.old q4; have q5 := hS.old q5; have q6 := hS.old q6; go_simp; try with_reducible rfl)
      simp only [List.getElem_toArray, List.getElem_cons_succ, List.getElem_cons_zero, Act.put, List.setIfInBounds_toArray, List.set_cons_zero, List.set_cons_succ]
      refine wpAnyH_take (i := 9) (v := ?_) rfl (by kernel_rfl) (by kernel_rfl) (by kernel_rfl) (fun _ _ _ h => h) (Or.inl ⟨by rfl, ?_⟩) (by assumption) ?_
      rotate_left
      · (intro wS hS; have x0 := hS.old x0; have y0 := hS.old y0; have p0 := hS.old p0; have p1 := hS.old p1; have p2 := hS.old p2; have p3 := hS.old p3; have p4 := hS.old p4; have p5 := hS.old p5; have p6 := hS.old p6; have q0 := hS.old q0; have q1 := hS.old q1; have q2 := hS.old q2; have q3 := hS.old q3; have q4 := hS.old q4; have q5 := hS.old q5; have q6 := hS.old q6; go_simp; try with_reducible rfl)
      simp only [List.getElem_toArray, List.getElem_cons_succ, List.getElem_cons_zero, Act.put, List.setIfInBounds_toArray, List.set_cons_zero, List.set_cons_succ]
      refine wpAnyH_ready (rs := [10]) (by kernel_rfl) (by simp) (AllReadyH.cons rfl (fun K hK => ?_) AllReadyH.nil)
      go_simp; go_at_call 20; refine (cls_same fl su (own_gr T1 hHeld) (own_gr T2 hHeld) (own_gr I1 hHeld) (own_gr I2 hHeld)).mono ?_; rintro e w9 ⟨rfl, c9⟩; replace c9 := hHeld.then c9; clear hHeld
      refine hK.out _ _ (by exact c9) (fun hHeld => ?_)
      clear hK K
      refine wpAnyH_take (i := 11) (v := ?_) rfl (by kernel_rfl) (by kernel_rfl) (by kernel_rfl) (fun _ _ _ h => h) (Or.inl ⟨by rfl, ?_⟩) (by assumption) ?_
      rotate_left
      · (intro wS hS; have x0 := hS.old x0; have y0 := hS.old y0; have p0 := hS.old p0; have p1 := hS.old p1; have p2 := hS.old p2; have p3 := hS.old p3; have p4 := hS.old p4; have p5 := hS.old p5; have p6 := hS.old p6; have q0 := hS.old q0; have q1 := hS.old q1; have q2 := hS.old q2; have q3 := hS.old q3; have q4 := hS.old q4; have q5 := hS.old q5; have q6 := hS.old q6; go_simp; try with_reducible rfl)
      simp only [List.getElem_toArray, List.getElem_cons_succ, List.getElem_cons_zero, Act.put, List.setIfInBounds_toArray, List.set_cons_zero, List.set_cons_succ]
      refine wpAnyH_done (by kernel_rfl) ?_ _
      clear x0 y0 p0 p1 p2 p3 p4 p5 p6 q0 q1 q2 q3 q4 q5 q6 T1 T2 I1 I2
      go_wp2_with (fail)
      go_roundg (g0 - 1)
      case measure => have := HG0.out; omega
      case rel => exact ⟨k + 1, by have := HG0.out; omega, by have := HG0.out; omega, by go_num, hc.then hHeld⟩
    · have hkk : ¬ ((k : Int) < (s.1.length : Int)) := by omega
      clear x0 y0 hlt hk1 hk2
      have x0 := hBr1.cell 0
      have y0 := hBr2.cell 0
      have x1 := hBr1.cell 1
      have y1 := hBr2.cell 1
      simp at x0 y0 x1 y1
      clear hBr1 hBr2
      go_wp2_with (fail)
      clear x0 y0 x1 y1
      go_loopg [6] s.2.1.length (fun q i wl => ∃ k : Nat, k + q ≤ s.2.1.length ∧ s.2.1.length ≤ k + q ∧ i = .int .i64 k ∧ Ch (fun _ => False) w2 wl)
      case atStart => exact ⟨0, by omega, by omega, rfl, hc⟩
      case round => as_aux_lemma =>
        clear hc hcw hkk
        obtain ⟨k, hk1, hk2, rfl, hc⟩ := hrel
        have hcw := C2.then hc
        have hBr1 := hB1.ch hc (fun h => h)
        have hBr2 := hB2.ch hc (fun h => h)
        have x1 := hBr1.cell 1
        have y1 := hBr2.cell 1
        simp at x1 y1
        by_cases hlt : 0 < gk
        · have hk : k < s.2.1.length := by omega
          have hkk : (k : Int) < (s.2.1.length : Int) := by omega
          obtain ⟨g1, m1, F1, f1, e1, p0, p1, p2, p3, p4, p5, p6, p7, p8, p9, p10⟩ := me_at hM1 k hk
          obtain ⟨g2, m2, F2, f2, e2, q0, q1, q2, q3, q4, q5, q6, q7, q8, q9, q10⟩ := me_at hM2 k hk
          obtain ⟨T1, T2⟩ : (Ty w base1 (.slice F1 (s.2.1[k]).ps.length f1) (s.2.1[k]).ps) ∧ (Ty w base2 (.slice F2 (s.2.1[k]).ps.length f2) (s.2.1[k]).ps) := ⟨me_ty hM1 k hk e1 p3, me_ty hM2 k hk e2 q3⟩
          injection e1 with z1 _ z2
          injection e2 with z3 _ z4
          subst z1 z2 z3 z4
          have p0 := hcw.old p0
          have p1 := hcw.old p1
          have p2 := hcw.old p2
          have p3 := hcw.old p3
          have p4 := hcw.old p4
          have p5 := hcw.old p5
          have p6 := hcw.old p6
          have p7 := hcw.old p7
          have p8 := hcw.old p8
          have p9 := hcw.old p9
          have p10 := hcw.old p10
          have q0 := hcw.old q0
          have q1 := hcw.old q1
          have q2 := hcw.old q2
          have q3 := hcw.old q3
          have q4 := hcw.old q4
          have q5 := hcw.old q5
          have q6 := hcw.old q6
          have q7 := hcw.old q7
          have q8 := hcw.old q8
          have q9 := hcw.old q9
          have q10 := hcw.old q10
          have T1 := own_gr T1 hcw
          have T2 := own_gr T2 hcw
          generalize s.2.1[k] = c at *
          obtain ⟨mf, mcl, ps, mk, mc, mn⟩ := c
          dsimp only at *
          obtain ⟨g0, HG0⟩ : ∃ g0, Hid (g0 = gk) := ⟨_, Lib.hid rfl⟩
          go_upto_region 11 with (fail)
          refine wp_region_held_drew (S := (fun W => Ch (fun _ => False) wr W)) (by kernel_rfl) (by exact (Ch.refl _ wr).drew) (fun hHeld => ?_)
          refine wpAnyH_take (i := 0) (v := ?_) rfl (by kernel_rfl) (by kernel_rfl) (by kernel_rfl) (fun _ _ _ h => h) (Or.inl ⟨by rfl, ?_⟩) (by assumption) ?_
          rotate_left
          · (intro wS hS; have x1 := hS.old x1; have y1 := hS.old y1; have p0 := hS.old p0; have p1 := hS.old p1; have p2 := hS.old p2; have p3 := hS.old p3; have p4 := hS.old p4; have p5 := hS.old p5; have p6 := hS.old p6; have p7 := hS.old p7; have p8 := hS.old p8; have p9 := hS.old p9; have p10 := hS.old p10; have q0 := hS.old q0; have q1 := hS.old q1; have q2 := hS.old q2; have q3 := hS.old q3; have q4 := hS.old q4; have q5 := hS.old q5; have q6 := hS.old q6; have q7 := hS.old q7; have q8 := hS.old q8; have q9 := hS.old q9; have q10 := hS.old q10; go_simp; try with_reducible rfl)
          simp only [List.getElem_toArray, List.getElem_cons_succ, List.getElem_cons_zero, Act.put, List.setIfInBounds_toArray, List.set_cons_zero, List.set_cons_succ]
          refine wpAnyH_take (i := 1) (v := ?_) rfl (by kernel_rfl) (by kernel_rfl) (by kernel_rfl) (fun _ _ _ h => h) (Or.inl ⟨by rfl, ?_⟩) (by assumption) ?_
          rotate_left
          · (intro wS hS; have x1 := hS.old x1; have y1 := hS.old y1; have p0 := hS.old p0; have p1 := hS.old p1; have p2 := hS.old p2; have p3 := hS.old p3; have p4 := hS.old p4; have p5 := hS.old p5; have p6 := hS.old p6; have p7 := hS.old p7; have p8 := hS.old p8; have p9 := hS.old p9; have p10 := hS.old p10; have q0 := hS.old q0; have q1 := hS.old q1; have q2 := hS.old q2; have q3 := hS.old q3; have q4 := hS.old q4; have q5 := hS.old q5; have q6 := hS.old q6; have q7 := hS.old q7; have q8 := hS.old q8; have q9 := hS.old q9; have q10 := hS.old q10; go_simp; try with_reducible rfl)
          simp only [List.getElem_toArray, List.getElem_cons_succ, List.getElem_cons_zero, Act.put, List.setIfInBounds_toArray, List.set_cons_zero, List.set_cons_succ]
          refine wpAnyH_take (i := 2) (v := ?_) rfl (by kernel_rfl) (by kernel_rfl) (by kernel_rfl) (fun _ _ _ h => h) (Or.inl ⟨by rfl, ?_⟩) (by assumption) ?_
          rotate_left
          · (intro wS hS; have x1 := hS.old x1; have y1 := hS.old y1; have p0 := hS.old p0; have p1 := hS.old p1; have p2 := hS.old p2; have p3 := hS.old p3; have p4 := hS.old p4; have p5 := hS.old p5; have p6 := hS.old p6; have p7 := hS.old p7; have p8 := hS.old p8; have p9 := hS.old p9; have p10 := hS.old p10; have q0 := hS.old q0; have q1 := hS.old q1; have q2 := hS.old q2; have q3 := hS.old q3; have q4 := hS.old q4; have q5 := hS.old q5; have q6 := hS.old q6; have q7 := hS.old q7; have q8 := hS.old q8; have q9 := hS.old q9; have q10 := hS.old q10; go_simp; try with_reducible rfl)
          simp only [List.getElem_toArray, List.getElem_cons_succ, List.getElem_cons_zero, Act.put, List.setIfInBounds_toArray, List.set_cons_zero, List.set_cons_succ]
          refine wpAnyH_take (i := 3) (v := ?_) rfl (by kernel_rfl) (by kernel_rfl) (by kernel_rfl) (fun _ _ _ h => h) (Or.inl ⟨by rfl, ?_⟩) (by assumption) ?_
          rotate_left
          · (intro wS hS; have x1 := hS.old x1; have y1 := hS.old y1; have p0 := hS.old p0; have p1 := hS.old p1; have p2 := hS.old p2; have p3 := hS.old p3; have p4 := hS.old p4; have p5 := hS.old p5; have p6 := hS.old p6; have p7 := hS.old p7; have p8 := hS.old p8; have p9 := hS.old p9; have p10 := hS.old p10; have q0 := hS.old q0; have q1 := hS.old q1; have q2 := hS.old q2; have q3 := hS.old q3; have q4 := hS.old q4; have q5 := hS.old q5; have q6 := hS.old q6; have q7 := hS.old q7; have q8 := hS.old q8; have q9 := hS.old q9; have q10 := hS.old q10; go_simp; try with_reducible rfl)
          simp only [List.getElem_toArray, List.getElem_cons_succ, List.getElem_cons_zero, Act.put, List.setIfInBounds_toArray, List.set_cons_zero, List.set_cons_succ]
          refine wpAnyH_take (i := 4) (v := ?_) rfl (by kernel_rfl) (by kernel_rfl) (by kernel_rfl) (fun _ _ _ h => h) (Or.inl ⟨by rfl, ?_⟩) (by assumption) ?_
          rotate_left
          · (intro wS hS; have x1 := hS.old x1; have y1 := hS.old y1; have p0 := hS.old p0; have p1 := hS.old p1; have p2 := hS.old p2; have p3 := hS.old p3; have p4 := hS.old p4; have p5 := hS.old p5; have p6 := hS.old p6; have p7 := hS.old p7; have p8 := hS.old p8; have p9 := hS.old p9; have p10 := hS.old p10; have q0 := hS.old q0; have q1 := hS.old q1; have q2 := hS.old q2; have q3 := hS.old q3; have q4 := hS.old q4; have q5 := hS.old q5; have q6 := hS.old q6; have q7 := hS.old q7; have q8 := hS.old q8; have q9 := hS.old q9; have q10 := hS.old q10; go_simp; try with_reducible rfl)
          simp only [List.getElem_toArray, List.getElem_cons_succ, List.getElem_cons_zero, Act.put, List.setIfInBounds_toArray, List.set_cons_zero, List.set_cons_succ]
          refine wpAnyH_take (i := 5) (v := ?_) rfl (by kernel_rfl) (by kernel_rfl) (by kernel_rfl) (fun _ _ _ h => h) (Or.inl ⟨by rfl, ?_⟩) (by assumption) ?_
          rotate_left
          · (intro wS hS; have x1 := hS.old x1; have y1 := hS.old y1; have p0 := hS.old p0; have p1 := hS.old p1; have p2 := hS.old p2; have p3 := hS.old p3; have p4 := hS.old p4; have p5 := hS.old p5; have p6 := hS.old p6; have p7 := hS.old p7; have p8 := hS.old p8; have p9 := hS.old p9; have p10 := hS.old p10; have q0 := hS.old q0; have q1 := hS.old q1; have q2 := hS.old q2; have q3 := hS.old q3; have q4 := hS.old q4; have q5 := hS.old q5; have q6 := hS.old q6; have q7 := hS.old q7; have q8 := hS.old q8; have q9 := hS.old q9; have q10 := hS.old q10; go_simp; try with_reducible rfl)
          simp only [List.getElem_toArray, List.getElem_cons_succ, List.getElem_cons_zero, Act.put, List.setIfInBounds_toArray, List.set_cons_zero, List.set_cons_succ]
          refine wpAnyH_take (i := 6) (v := ?_) rfl (by kernel_rfl) (by kernel_rfl) (by kernel_rfl) (fun _ _ _ h => h) (Or.inl ⟨by rfl, ?_⟩) (by assumption) ?_
          rotate_left
          · (intro wS hS; have x1 := hS.old x1; have y1 := hS.old y1; have p0 := hS.old p0; have p1 := hS.old p1; have p2 := hS.old p2; have p3 := hS.old p3; have p4 := hS.old p4; have p5 := hS.old p5; have p6 := hS.old p6; have p7 := hS.old p7; have p8 := hS.old p8; have p9 := hS.old p9; have p10 := hS.old p10; have q0 := hS.old q0; have q1 := hS.old q1; have q2 := hS.old q2; have q3 := hS.old q3; have q4 := hS.old q4; have q5 := hS.old q5; have q6 := hS.old q6; have q7 := hS.old q7; have q8 := hS.old q8; have q9 := hS.old q9; have q10 := hS.old q10; go_simp; try with_reducible rfl)
          simp only [List.getElem_toArray, List.getElem_cons_succ, List.getElem_cons_zero, Act.put, List.setIfInBounds_toArray, List.set_cons_zero, List.set_cons_succ]
          refine wpAnyH_take (i := 7) (v := ?_) rfl (by kernel_rfl) (by kernel_rfl) (by kernel_rfl) (fun _ _ _ h => h) (Or.inl ⟨by rfl, ?_⟩) (by assumption) ?_
          rotate_left
          · (intro wS hS; have x1 := hS.old x1; have y1 := hS.old y1; have p0 := hS.old p0; have p1 := hS.old p1; have p2 := hS.old p2; have p3 := hS.old p3; have p4 := hS.old p4; have p5 := hS.old p5; have p6 := hS.old p6; have p7 := hS.old p7; have p8 := hS.old p8; have p9 := hS.old p9; have p10 := hS.old p10; have q0 := hS.old q0; have q1 := hS.old q1; have q2 := hS.old q2; have q3 := hS.old q3; have q4 := hS.old q4; have q5 := hS.old q5; have q6 := hS.old q6; have q7 := hS.old q7; have q8 := hS.old q8; have q9 := hS.old q9; have q10 := hS.old q10; go_simp; try with_reducible rfl)
          simp only [List.getElem_toArray, List.getElem_cons_succ, List.getElem_cons_zero, Act.put, List.setIfInBounds_toArray, List.set_cons_zero, List.set_cons_succ]
          refine wpAnyH_take (i := 8) (v := ?_) rfl (by kernel_rfl) (by kernel_rfl) (by kernel_rfl) (fun _ _ _ h => h) (Or.inl ⟨by rfl, ?_⟩) (by assumption) ?_
          rotate_left
          · (intro wS hS; have x1 := hS.old x1; have y1 := hS.old y1; have p0 := hS.old p0; have p1 := hS.old p1; have p2 := hS.old p2; have p3 := hS.old p3; have p4 := hS.old p4; have p5 := hS.old p5; have p6 := hS.old p6; have p7 := hS.old p7; have p8 := hS.old p8; have p9 := hS.old p9; have p10 := hS.old p10; have q0 := hS.old q0; have q1 := hS.old q1; have q2 := hS.old q2; have q3 := hS.old q3; have q4 := hS.old q4; have q5 := hS.old q5; have q6 := hS.old q6; have q7 := hS.old q7; have q8 := hS.old q8; have q9 := hS.old q9; have q10 := hS.old q10; go_simp; try with_reducible rfl)
          simp only [List.getElem_toArray, List.getElem_cons_succ, List.getElem_cons_zero, Act.put, List.setIfInBounds_toArray, List.set_cons_zero, List.set_cons_succ]
          refine wpAnyH_take (i := 9) (v := ?_) rfl (by kernel_rfl) (by kernel_rfl) (by kernel_rfl) (fun _ _ _ h => h) (Or.inl ⟨by rfl, ?_⟩) (by assumption) ?_
          rotate_left
          · (intro wS hS; have x1 := hS.old x1; have y1 := hS.old y1; have p0 := hS.old p0; have p1 := hS.old p1; have p2 := hS.old p2; have p3 := hS.old p3; have p4 := hS.old p4; have p5 := hS.old p5; have p6 := hS.old p6; have p7 := hS.old p7; have p8 := hS.old p8; have p9 := hS.old p9; have p10 := hS.old p10; have q0 := hS.old q0; have q1 := hS.old q1; have q2 := hS.old q2; have q3 := hS.old q3; have q4 := hS.old q4; have q5 := hS.old q5; have q6 := hS.old q6; have q7 := hS.old q7; have q8 := hS.old q8; have q9 := hS.old q9; have q10 := hS.old q10; go_simp; try with_reducible rfl)
          simp only [List.getElem_toArray, List.getElem_cons_succ, List.getElem_cons_zero, Act.put, List.setIfInBounds_toArray, List.set_cons_zero, List.set_cons_succ]
          refine wpAnyH_ready (rs := [10]) (by kernel_rfl) (by simp) (AllReadyH.cons rfl (fun K hK => ?_) AllReadyH.nil)
          go_simp; go_at_call 21; refine (met_same mf mcl mk mc mn (own_gr T1 hHeld) (own_gr T2 hHeld)).mono ?_; rintro e w9 ⟨rfl, c9⟩; replace c9 := hHeld.then c9; clear hHeld
          refine hK.out _ _ (by exact c9) (fun hHeld => ?_)
          clear hK K
          refine wpAnyH_take (i := 11) (v := ?_) rfl (by kernel_rfl) (by kernel_rfl) (by kernel_rfl) (fun _ _ _ h => h) (Or.inl ⟨by rfl, ?_⟩) (by assumption) ?_
          rotate_left
          · (intro wS hS; have x1 := hS.old x1; have y1 := hS.old y1; have p0 := hS.old p0; have p1 := hS.old p1; have p2 := hS.old p2; have p3 := hS.old p3; have p4 := hS.old p4; have p5 := hS.old p5; have p6 := hS.old p6; have p7 := hS.old p7; have p8 := hS.old p8; have p9 := hS.old p9; have p10 := hS.old p10; have q0 := hS.old q0; have q1 := hS.old q1; have q2 := hS.old q2; have q3 := hS.old q3; have q4 := hS.old q4; have q5 := hS.old q5; have q6 := hS.old q6; have q7 := hS.old q7; have q8 := hS.old q8; have q9 := hS.old q9; have q10 := hS.old q10; go_simp; try with_reducible rfl)
          simp only [List.getElem_toArray, List.getElem_cons_succ, List.getElem_cons_zero, Act.put, List.setIfInBounds_toArray, List.set_cons_zero, List.set_cons_succ]
          refine wpAnyH_done (by kernel_rfl) ?_ _
          clear x1 y1 p0 p1 p2 p3 p4 p5 p6 p7 p8 p9 p10 q0 q1 q2 q3 q4 q5 q6 q7 q8 q9 q10 T1 T2
          go_wp2_with (fail)
          go_roundg (g0 - 1)
          case measure => have := HG0.out; omega
          case rel => exact ⟨k + 1, by have := HG0.out; omega, by have := HG0.out; omega, by go_num, hc.then hHeld⟩
        · have hkk : ¬ ((k : Int) < (s.2.1.length : Int)) := by omega
          clear x1 y1 hlt hk1 hk2
          have x1 := hBr1.cell 1
          have y1 := hBr2.cell 1
          have x2 := hBr1.cell 2
          have y2 := hBr2.cell 2
          simp at x1 y1 x2 y2
          clear hBr1 hBr2
          go_wp2_with (fail)
          clear x1 y1 x2 y2
          go_loopg [7] 0 (fun q i wl => i = .int .i64 0 ∧ Ch (fun _ => False) w2 wl)
          case atStart => exact ⟨rfl, hc⟩
          case round => as_aux_lemma =>
            clear hc hcw hkk
            obtain ⟨rfl, hc⟩ := hrel
            have hBr1 := hB1.ch hc (fun h => h)
            have hBr2 := hB2.ch hc (fun h => h)
            have x2 := hBr1.cell 2
            have y2 := hBr2.cell 2
            have x3 := hBr1.cell 3
            have y3 := hBr2.cell 3
            simp at x2 y2 x3 y3
            clear hBr1 hBr2
            go_wp2_with (fail)
            clear x2 y2 x3 y3
            go_loopg [8] 1 (fun q i wl => ∃ k : Nat, k + q ≤ 1 ∧ 1 ≤ k + q ∧ i = .int .i64 k ∧ Ch (fun _ => False) w2 wl)
            case atStart => exact ⟨0, by omega, by omega, rfl, hc⟩
            case round => as_aux_lemma =>
              clear hc
              obtain ⟨k, hk1, hk2, rfl, hc⟩ := hrel
              have hcw := C2.then hc
              have hBr1 := hB1.ch hc (fun h => h)
              have hBr2 := hB2.ch hc (fun h => h)
              have x3 := hBr1.cell 3
              have y3 := hBr2.cell 3
              simp at x3 y3
              by_cases hlt : 0 < gk
              · obtain rfl : k = 0 := by omega
                have p0 := hcw.old (PK1.out 0 _ rfl)
                have q0 := hcw.old (PK2.out 0 _ rfl)
                have p1 := hcw.old (PK1.out 1 _ rfl)
                have q1 := hcw.old (PK2.out 1 _ rfl)
                have p2 := hcw.old (PK1.out 2 _ rfl)
                have q2 := hcw.old (PK2.out 2 _ rfl)
                have p3 := hcw.old (PK1.out 3 _ rfl)
                have q3 := hcw.old (PK2.out 3 _ rfl)
                have p4 := hcw.old (PK1.out 4 _ rfl)
                have q4 := hcw.old (PK2.out 4 _ rfl)
                have p5 := hcw.old (PK1.out 5 _ rfl)
                have q5 := hcw.old (PK2.out 5 _ rfl)
                have N1' := hN1.ch hcw (fun h => h)
                have N2' := hN2.ch hcw (fun h => h)
                obtain ⟨g0, HG0⟩ : ∃ g0, Hid (g0 = gk) := ⟨_, Lib.hid rfl⟩
                have HQ := Lib.hid (fun (wz : World) (c : Ch (fun _ => False) wr wz) => pkg_same (N1'.ch c (fun h => h)) (N2'.ch c (fun h => h)) (ex_gr hX1 (hcw.then c)) (ex_gr hX2 (hcw.then c)))
                go_upto_region 21 with (fail)
                refine wp_region_held_drew (S := (fun W => Ch (fun _ => False) wr W)) (by kernel_rfl) (by exact (Ch.refl _ wr).drew) (fun hHeld => ?_)
                refine wpAnyH_take (i := 0) (v := ?_) rfl (by kernel_rfl) (by kernel_rfl) (by kernel_rfl) (fun _ _ _ h => h) (Or.inl ⟨by rfl, ?_⟩) (by assumption) ?_
                rotate_left
                · (intro wS hS; have x3 := hS.old x3; have y3 := hS.old y3; have p0 := hS.old p0; have p1 := hS.old p1; have p2 := hS.old p2; have p3 := hS.old p3; have p4 := hS.old p4; have p5 := hS.old p5; have q0 := hS.old q0; have q1 := hS.old q1; have q2 := hS.old q2; have q3 := hS.old q3; have q4 := hS.old q4; have q5 := hS.old q5; go_simp; try with_reducible rfl)
                simp only [List.getElem_toArray, List.getElem_cons_succ, List.getElem_cons_zero, Act.put, List.setIfInBounds_toArray, List.set_cons_zero, List.set_cons_succ]
                refine wpAnyH_take (i := 1) (v := ?_) rfl (by kernel_rfl) (by kernel_rfl) (by kernel_rfl) (fun _ _ _ h => h) (Or.inl ⟨by rfl, ?_⟩) (by assumption) ?_
                rotate_left
                · (intro wS hS; have x3 := hS.old x3; have y3 := hS.old y3; have p0 := hS.old p0; have p1 := hS.old p1; have p2 := hS.old p2; have p3 := hS.old p3; have p4 := hS.old p4; have p5 := hS.old p5; have q0 := hS.old q0; have q1 := hS.old q1; have q2 := hS.old q2; have q3 := hS.old q3; have q4 := hS.old q4; have q5 := hS.old q5; go_simp; try with_reducible rfl)
                simp only [List.getElem_toArray, List.getElem_cons_succ, List.getElem_cons_zero, Act.put, List.setIfInBounds_toArray, List.set_cons_zero, List.set_cons_succ]
                refine wpAnyH_take (i := 2) (v := ?_) rfl (by kernel_rfl) (by kernel_rfl) (by kernel_rfl) (fun _ _ _ h => h) (Or.inl ⟨by rfl, ?_⟩) (by assumption) ?_
                rotate_left
                · (intro wS hS; have x3 := hS.old x3; have y3 := hS.old y3; have p0 := hS.old p0; have p1 := hS.old p1; have p2 := hS.old p2; have p3 := hS.old p3; have p4 := hS.old p4; have p5 := hS.old p5; have q0 := hS.old q0; have q1 := hS.old q1; have q2 := hS.old q2; have q3 := hS.old q3; have q4 := hS.old q4; have q5 := hS.old q5; go_simp; try with_reducible rfl)
                simp only [List.getElem_toArray, List.getElem_cons_succ, List.getElem_cons_zero, Act.put, List.setIfInBounds_toArray, List.set_cons_zero, List.set_cons_succ]
                refine wpAnyH_take (i := 3) (v := ?_) rfl (by kernel_rfl) (by kernel_rfl) (by kernel_rfl) (fun _ _ _ h => h) (Or.inl ⟨by rfl, ?_⟩) (by assumption) ?_
                rotate_left
                · (intro wS hS; have x3 := hS.old x3; have y3 := hS.old y3; have p0 := hS.old p0; have p1 := hS.old p1; have p2 := hS.old p2; have p3 := hS.old p3; have p4 := hS.old p4; have p5 := hS.old p5; have q0 := hS.old q0; have q1 := hS.old q1; have q2 := hS.old q2; have q3 := hS.old q3; have q4 := hS.old q4; have q5 := hS.old q5; go_simp; try with_reducible rfl)
                simp only [List.getElem_toArray, List.getElem_cons_succ, List.getElem_cons_zero, Act.put, List.setIfInBounds_toArray, List.set_cons_zero, List.set_cons_succ]
                refine wpAnyH_take (i := 4) (v := ?_) rfl (by kernel_rfl) (by kernel_rfl) (by kernel_rfl) (fun _ _ _ h => h) (Or.inl ⟨by rfl, ?_⟩) (by assumption) ?_
                rotate_left
                · (intro wS hS; have x3 := hS.old x3; have y3 := hS.old y3; have p0 := hS.old p0; have p1 := hS.old p1; have p2 := hS.old p2; have p3 := hS.old p3; have p4 := hS.old p4; have p5 := hS.old p5; have q0 := hS.old q0; have q1 := hS.old q1; have q2 := hS.old q2; have q3 := hS.old q3; have q4 := hS.old q4; have q5 := hS.old q5; go_simp; try with_reducible rfl)
                simp only [List.getElem_toArray, List.getElem_cons_succ, List.getElem_cons_zero, Act.put, List.setIfInBounds_toArray, List.set_cons_zero, List.set_cons_succ]
                refine wpAnyH_take (i := 5) (v := ?_) rfl (by kernel_rfl) (by kernel_rfl) (by kernel_rfl) (fun _ _ _ h => h) (Or.inl ⟨by rfl, ?_⟩) (by assumption) ?_
                rotate_left
                · (intro wS hS; have x3 := hS.old x3; have y3 := hS.old y3; have p0 := hS.old p0; have p1 := hS.old p1; have p2 := hS.old p2; have p3 := hS.old p3; have p4 := hS.old p4; have p5 := hS.old p5; have q0 := hS.old q0; have q1 := hS.old q1; have q2 := hS.old q2; have q3 := hS.old q3; have q4 := hS.old q4; have q5 := hS.old q5; go_simp; try with_reducible rfl)
                simp only [List.getElem_toArray, List.getElem_cons_succ, List.getElem_cons_zero, Act.put, List.setIfInBounds_toArray, List.set_cons_zero, List.set_cons_succ]
                refine wpAnyH_take (i := 6) (v := ?_) rfl (by kernel_rfl) (by kernel_rfl) (by kernel_rfl) (fun _ _ _ h => h) (Or.inl ⟨by rfl, ?_⟩) (by assumption) ?_
                rotate_left
                · (intro wS hS; have x3 := hS.old x3; have y3 := hS.old y3; have p0 := hS.old p0; have p1 := hS.old p1; have p2 := hS.old p2; have p3 := hS.old p3; have p4 := hS.old p4; have p5 := hS.old p5; have q0 := hS.old q0; have q1 := hS.old q1; have q2 := hS.old q2; have q3 := hS.old q3; have q4 := hS.old q4; have q5 := hS.old q5; go_simp; try with_reducible rfl)
                simp only [List.getElem_toArray, List.getElem_cons_succ, List.getElem_cons_zero, Act.put, List.setIfInBounds_toArray, List.set_cons_zero, List.set_cons_succ]
                refine wpAnyH_take (i := 7) (v := ?_) rfl (by kernel_rfl) (by kernel_rfl) (by kernel_rfl) (fun _ _ _ h => h) (Or.inl ⟨by rfl, ?_⟩) (by assumption) ?_
                rotate_left
                · (intro wS hS; have x3 := hS.old x3; have y3 := hS.old y3; have p0 := hS.old p0; have p1 := hS.old p1; have p2 := hS.old p2; have p3 := hS.old p3; have p4 := hS.old p4; have p5 := hS.old p5; have q0 := hS.old q0; have q1 := hS.old q1; have q2 := hS.old q2; have q3 := hS.old q3; have q4 := hS.old q4; have q5 := hS.old q5; go_simp; try with_reducible rfl)
                simp only [List.getElem_toArray, List.getElem_cons_succ, List.getElem_cons_zero, Act.put, List.setIfInBounds_toArray, List.set_cons_zero, List.set_cons_succ]
                refine wpAnyH_take (i := 8) (v := ?_) rfl (by kernel_rfl) (by kernel_rfl) (by kernel_rfl) (fun _ _ _ h => h) (Or.inl ⟨by rfl, ?_⟩) (by assumption) ?_
                rotate_left
                · (intro wS hS; have x3 := hS.old x3; have y3 := hS.old y3; have p0 := hS.old p0; have p1 := hS.old p1; have p2 := hS.old p2; have p3 := hS.old p3; have p4 := hS.old p4; have p5 := hS.old p5; have q0 := hS.old q0; have q1 := hS.old q1; have q2 := hS.old q2; have q3 := hS.old q3; have q4 := hS.old q4; have q5 := hS.old q5; go_simp; try with_reducible rfl)
                simp only [List.getElem_toArray, List.getElem_cons_succ, List.getElem_cons_zero, Act.put, List.setIfInBounds_toArray, List.set_cons_zero, List.set_cons_succ]
                refine wpAnyH_take (i := 9) (v := ?_) rfl (by kernel_rfl) (by kernel_rfl) (by kernel_rfl) (fun _ _ _ h => h) (Or.inl ⟨by rfl, ?_⟩) (by assumption) ?_
                rotate_left
                · (intro wS hS; have x3 := hS.old x3; have y3 := hS.old y3; have p0 := hS.old p0; have p1 := hS.old p1; have p2 := hS.old p2; have p3 := hS.old p3; have p4 := hS.old p4; have p5 := hS.old p5; have q0 := hS.old q0; have q1 := hS.old q1; have q2 := hS.old q2; have q3 := hS.old q3; have q4 := hS.old q4; have q5 := hS.old q5; go_simp; try with_reducible rfl)
                simp only [List.getElem_toArray, List.getElem_cons_succ, List.getElem_cons_zero, Act.put, List.setIfInBounds_toArray, List.set_cons_zero, List.set_cons_succ]
                refine wpAnyH_ready (rs := [10]) (by kernel_rfl) (by simp) (AllReadyH.cons rfl (fun K hK => ?_) AllReadyH.nil)
                go_simp; go_at_call 22; refine (HQ.out _ hHeld).mono ?_; rintro e w9 ⟨rfl, c9⟩; replace c9 := hHeld.then c9; clear hHeld
                refine hK.out _ _ (by exact c9) (fun hHeld => ?_)
                clear hK K
                refine wpAnyH_take (i := 11) (v := ?_) rfl (by kernel_rfl) (by kernel_rfl) (by kernel_rfl) (fun _ _ _ h => h) (Or.inl ⟨by rfl, ?_⟩) (by assumption) ?_
                rotate_left
                · (intro wS hS; have x3 := hS.old x3; have y3 := hS.old y3; have p0 := hS.old p0; have p1 := hS.old p1; have p2 := hS.old p2; have p3 := hS.old p3; have p4 := hS.old p4; have p5 := hS.old p5; have q0 := hS.old q0; have q1 := hS.old q1; have q2 := hS.old q2; have q3 := hS.old q3; have q4 := hS.old q4; have q5 := hS.old q5; go_simp; try with_reducible rfl)
                simp only [List.getElem_toArray, List.getElem_cons_succ, List.getElem_cons_zero, Act.put, List.setIfInBounds_toArray, List.set_cons_zero, List.set_cons_succ]
                refine wpAnyH_done (by kernel_rfl) ?_ _
                clear x3 y3 p0 p1 p2 p3 p4 p5 q0 q1 q2 q3 q4 q5
                go_wp2_with (fail)
                go_roundg (g0 - 1)
                case measure => have := HG0.out; omega
                case rel => exact ⟨0 + 1, by have := HG0.out; omega, by have := HG0.out; omega, by go_num, hc.then hHeld⟩
              · obtain rfl : k = 1 := by omega
                go_wp2_with (fail)
                go_ret
                exact ⟨rfl, hcw⟩
end Go.Proofs.YtjknnifcbcdjiaaDoor.TabL
