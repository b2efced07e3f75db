/- The same worlds: sameClass, sameMethod, samePackage, Same of what reads alike. -/
import Derived.Test.YtjknnifcbcdjiaaDoorLibX
set_option linter.unusedVariables false
set_option linter.unusedSimpArgs false
namespace Go.Proofs.YtjknnifcbcdjiaaDoor.TabL
open Go.RowKit Go.Proofs.YtjknnifcbcdjiaaDoor.Base Go.Proofs.YtjknnifcbcdjiaaDoorW.PrintWords Go.Proofs.YtjknnifcbcdjiaaDoorW.PrintLast Go.Proofs.YtjknnifcbcdjiaaDoor.Tab
theorem own_gr {w w' : World} {base : Nat} {e : TypeId} {size : Nat} {v : Value} {k : Nat} {xs : List Value} (h : w.ownsRow base e size v k xs) (c : Ch (fun _ => False) w w') : w'.ownsRow base e size v k xs := by
  refine ⟨h.1, ?_⟩
  rcases h.2 with h2 | ⟨g, cap, cur, hv, hb, hg, r⟩
  · exact Or.inl h2
  · exact Or.inr ⟨g, cap, cur, hv, hb, (c.block g (Array.getElem?_eq_some_iff.1 hg).1 (fun h => h)).trans hg, r⟩
theorem blk_to {w : World} {B B' : Nat} {cs : Array Value} {T : TypeId} (h : Blk w B cs T) (e : B = B') : Blk w B' cs T := e ▸ h
set_option maxHeartbeats 4000000 in
set_option maxRecDepth 100000 in
theorem sigs_same {w : World} {b1 b2 : Nat} {v1 v2 : Value} {ps : List (Int × Int)} (k c : Int) (h1 : Ty w b1 v1 ps) (h2 : Ty w b2 v2 ps) :
    Calls Tryd.prog 34 #[.agg #[v1, .int .u8 k, .int .u16 c], .agg #[v2, .int .u8 k, .int .u16 c]] w fun e w' => e = .returned (.bool true) ∧ Ch (fun _ => False) w w' := by
  obtain ⟨A1, c1, rfl⟩ := own_len h1
  obtain ⟨A2, c2, rfl⟩ := own_len h2
  have C2 : Ch (fun _ => False) w ((w.alloc (.cells #[.slice A1 ps.length c1, .int .u8 k, .int .u16 c] 35)).alloc (.cells #[.slice A2 ps.length c2, .int .u8 k, .int .u16 c] 35)) := ((Ch.refl _ w).alloc _).alloc _
  have hB1 : Blk ((w.alloc (.cells #[.slice A1 ps.length c1, .int .u8 k, .int .u16 c] 35)).alloc (.cells #[.slice A2 ps.length c2, .int .u8 k, .int .u16 c] 35)) w.heap.size #[.slice A1 ps.length c1, .int .u8 k, .int .u16 c] 35 := (Blk.new w _ _).alloc _
  have hB2 : Blk ((w.alloc (.cells #[.slice A1 ps.length c1, .int .u8 k, .int .u16 c] 35)).alloc (.cells #[.slice A2 ps.length c2, .int .u8 k, .int .u16 c] 35)) (w.heap.size + 1) #[.slice A2 ps.length c2, .int .u8 k, .int .u16 c] 35 := blk_to (Blk.new _ _ _) (by simp)
  have hT := Lib.hid (types_same (own_gr h1 C2) (own_gr h2 C2))
  clear h1 h2
  go_enter Tryd.func34, Tryd.ntmps34
  go_wp2_with (fail)
  refine hT.out.mono ?_
  rintro e w3 ⟨rfl, c3⟩
  go_wp2_with (fail)
  go_ret
  exact ⟨rfl, C2.then c3⟩
set_option maxHeartbeats 4000000 in
set_option maxRecDepth 100000 in
theorem cls_same {w : World} {b1 b2 : Nat} {f1 f2 v1 v2 : Value} {fs : List (Int × Int)} {vs : List Int} (fl su : Int) (h1 : Ty w b1 f1 fs) (h2 : Ty w b2 f2 fs) (g1 : Ints w b1 v1 vs) (g2 : Ints w b2 v2 vs) :
    Calls Tryd.prog 20 #[.agg #[.int .i64 0, .int .u8 fl, .int .i64 su, .slice none 0 0, f1, v1, .slice none 0 0], .agg #[.int .i64 0, .int .u8 fl, .int .i64 su, .slice none 0 0, f2, v2, .slice none 0 0]] w fun e w' => e = .returned (.bool true) ∧ Ch (fun _ => False) w w' := by
  obtain ⟨A1, c1, rfl⟩ := own_len h1
  obtain ⟨A2, c2, rfl⟩ := own_len h2
  obtain ⟨B1, d1, rfl⟩ := own_len g1
  obtain ⟨B2, d2, rfl⟩ := own_len g2
  have C2 : Ch (fun _ => False) w ((w.alloc (.cells #[.int .i64 0, .int .u8 fl, .int .i64 su, .slice none 0 0, .slice A1 fs.length c1, .slice B1 vs.length d1, .slice none 0 0] 44)).alloc (.cells #[.int .i64 0, .int .u8 fl, .int .i64 su, .slice none 0 0, .slice A2 fs.length c2, .slice B2 vs.length d2, .slice none 0 0] 44)) := ((Ch.refl _ w).alloc _).alloc _
  have hB1 : Blk ((w.alloc (.cells #[.int .i64 0, .int .u8 fl, .int .i64 su, .slice none 0 0, .slice A1 fs.length c1, .slice B1 vs.length d1, .slice none 0 0] 44)).alloc (.cells #[.int .i64 0, .int .u8 fl, .int .i64 su, .slice none 0 0, .slice A2 fs.length c2, .slice B2 vs.length d2, .slice none 0 0] 44)) w.heap.size #[.int .i64 0, .int .u8 fl, .int .i64 su, .slice none 0 0, .slice A1 fs.length c1, .slice B1 vs.length d1, .slice none 0 0] 44 := (Blk.new w _ _).alloc _
  have hB2 : Blk ((w.alloc (.cells #[.int .i64 0, .int .u8 fl, .int .i64 su, .slice none 0 0, .slice A1 fs.length c1, .slice B1 vs.length d1, .slice none 0 0] 44)).alloc (.cells #[.int .i64 0, .int .u8 fl, .int .i64 su, .slice none 0 0, .slice A2 fs.length c2, .slice B2 vs.length d2, .slice none 0 0] 44)) (w.heap.size + 1) #[.int .i64 0, .int .u8 fl, .int .i64 su, .slice none 0 0, .slice A2 fs.length c2, .slice B2 vs.length d2, .slice none 0 0] 44 := blk_to (Blk.new _ _ _) (by simp)
  have hT := Lib.hid (types_same (own_gr h1 C2) (own_gr h2 C2))
  have hI := Lib.hid (fun w' (c : Ch (fun _ => False) w w') => ints_same (own_gr g1 c) (own_gr g2 c))
  clear h1 h2 g1 g2
  go_enter Tryd.func20, Tryd.ntmps20
  go_wp2_with (fail)
  refine hT.out.mono ?_
  rintro e w3 ⟨rfl, c3⟩
  have hB1 := hB1.ch c3 (fun h => h)
  have hB2 := hB2.ch c3 (fun h => h)
  replace C2 := C2.then c3
  clear c3
  have x3 := hB1.cell 3
  have x5 := hB1.cell 5
  have x6 := hB1.cell 6
  simp at x3 x5 x6
  have y3 := hB2.cell 3
  have y5 := hB2.cell 5
  have y6 := hB2.cell 6
  simp at y3 y5 y6
  clear hT
  go_wp2_with (fail)
  refine (hI.out _ C2).mono ?_
  clear x3 x5 x6 y3 y5 y6
  rintro e w4 ⟨rfl, c4⟩
  have hB1 := hB1.ch c4 (fun h => h)
  have hB2 := hB2.ch c4 (fun h => h)
  replace C2 := C2.then c4
  clear c4
  have x3 := hB1.cell 3
  have x5 := hB1.cell 5
  have x6 := hB1.cell 6
  simp at x3 x5 x6
  have y3 := hB2.cell 3
  have y5 := hB2.cell 5
  have y6 := hB2.cell 6
  simp at y3 y5 y6
  clear hI
  go_wp2_with (fail)
  go_loopg [5] 0 (fun q i wl => i = .int .i64 0 ∧ wl = w4)
  case atStart => exact ⟨rfl, rfl⟩
  case round =>
    obtain ⟨rfl, rfl⟩ := hrel
    go_wp2_with (fail)
    go_loopg [6] 0 (fun q i wl => i = .int .i64 0 ∧ wl = wr)
    case atStart => exact ⟨rfl, rfl⟩
    case round =>
      obtain ⟨rfl, rfl⟩ := hrel
      go_wp2_with (fail)
      go_ret
      exact ⟨rfl, C2⟩
set_option maxHeartbeats 4000000 in
set_option maxRecDepth 100000 in
theorem met_same {w : World} {b1 b2 : Nat} {v1 v2 : Value} {ps : List (Int × Int)} (f cl k c n : Int) (h1 : Ty w b1 v1 ps) (h2 : Ty w b2 v2 ps) :
    Calls Tryd.prog 21 #[.agg #[.int .i64 0, .int .u8 f, .int .i64 cl, v1, .int .u8 k, .int .u16 c, .int .i64 0, .int .i64 0, .slice none 0 0, .slice none 0 0, .int .i64 n], .agg #[.int .i64 0, .int .u8 f, .int .i64 cl, v2, .int .u8 k, .int .u16 c, .int .i64 0, .int .i64 0, .slice none 0 0, .slice none 0 0, .int .i64 n]] w fun e w' => e = .returned (.bool true) ∧ Ch (fun _ => False) w w' := by
  obtain ⟨A1, c1, rfl⟩ := own_len h1
  obtain ⟨A2, c2, rfl⟩ := own_len h2
  have C2 : Ch (fun _ => False) w ((w.alloc (.cells #[.int .i64 0, .int .u8 f, .int .i64 cl, .slice A1 ps.length c1, .int .u8 k, .int .u16 c, .int .i64 0, .int .i64 0, .slice none 0 0, .slice none 0 0, .int .i64 n] 39)).alloc (.cells #[.int .i64 0, .int .u8 f, .int .i64 cl, .slice A2 ps.length c2, .int .u8 k, .int .u16 c, .int .i64 0, .int .i64 0, .slice none 0 0, .slice none 0 0, .int .i64 n] 39)) := ((Ch.refl _ w).alloc _).alloc _
  have hB1 : Blk ((w.alloc (.cells #[.int .i64 0, .int .u8 f, .int .i64 cl, .slice A1 ps.length c1, .int .u8 k, .int .u16 c, .int .i64 0, .int .i64 0, .slice none 0 0, .slice none 0 0, .int .i64 n] 39)).alloc (.cells #[.int .i64 0, .int .u8 f, .int .i64 cl, .slice A2 ps.length c2, .int .u8 k, .int .u16 c, .int .i64 0, .int .i64 0, .slice none 0 0, .slice none 0 0, .int .i64 n] 39)) w.heap.size #[.int .i64 0, .int .u8 f, .int .i64 cl, .slice A1 ps.length c1, .int .u8 k, .int .u16 c, .int .i64 0, .int .i64 0, .slice none 0 0, .slice none 0 0, .int .i64 n] 39 := (Blk.new w _ _).alloc _
  have hB2 : Blk ((w.alloc (.cells #[.int .i64 0, .int .u8 f, .int .i64 cl, .slice A1 ps.length c1, .int .u8 k, .int .u16 c, .int .i64 0, .int .i64 0, .slice none 0 0, .slice none 0 0, .int .i64 n] 39)).alloc (.cells #[.int .i64 0, .int .u8 f, .int .i64 cl, .slice A2 ps.length c2, .int .u8 k, .int .u16 c, .int .i64 0, .int .i64 0, .slice none 0 0, .slice none 0 0, .int .i64 n] 39)) (w.heap.size + 1) #[.int .i64 0, .int .u8 f, .int .i64 cl, .slice A2 ps.length c2, .int .u8 k, .int .u16 c, .int .i64 0, .int .i64 0, .slice none 0 0, .slice none 0 0, .int .i64 n] 39 := blk_to (Blk.new _ _ _) (by simp)
  have hT := Lib.hid (sigs_same k c (own_gr h1 C2) (own_gr h2 C2))
  clear h1 h2
  go_enter Tryd.func21, Tryd.ntmps21
  go_wp2_with (fail)
  refine hT.out.mono ?_
  rintro e w3 ⟨rfl, c3⟩
  have hB1 := hB1.ch c3 (fun h => h)
  have hB2 := hB2.ch c3 (fun h => h)
  replace C2 := C2.then c3
  clear c3
  have x6 := hB1.cell 6
  have x7 := hB1.cell 7
  have x8 := hB1.cell 8
  have x9 := hB1.cell 9
  have x10 := hB1.cell 10
  simp at x6 x7 x8 x9 x10
  have y6 := hB2.cell 6
  have y7 := hB2.cell 7
  have y8 := hB2.cell 8
  have y9 := hB2.cell 9
  have y10 := hB2.cell 10
  simp at y6 y7 y8 y9 y10
  clear hT
  go_wp2_with (fail)
  refine (instrs_same _).mono ?_
  clear x6 x7 x8 x9 x10 y6 y7 y8 y9 y10
  rintro e w4 ⟨rfl, c4⟩
  have hB1 := hB1.ch c4 (fun h => h)
  have hB2 := hB2.ch c4 (fun h => h)
  replace C2 := C2.then c4
  clear c4
  have x9 := hB1.cell 9
  simp at x9
  have y9 := hB2.cell 9
  simp at y9
  go_wp2_with (fail)
  go_loopg [5] 0 (fun q i wl => i = .int .i64 0 ∧ wl = w4)
  case atStart => exact ⟨rfl, rfl⟩
  case round =>
    obtain ⟨rfl, rfl⟩ := hrel
    go_wp2_with (fail)
    go_ret
    exact ⟨rfl, C2⟩
end Go.Proofs.YtjknnifcbcdjiaaDoor.TabL
