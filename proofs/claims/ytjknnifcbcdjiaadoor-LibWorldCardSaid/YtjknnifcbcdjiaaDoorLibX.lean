/- The same worlds, part by part: the reference's comparisons of what reads alike. -/
import Derived.Test.YtjknnifcbcdjiaaDoorLibP
import Derived.Test.YtjknnifcbcdjiaaDoorLibR
set_option linter.unusedVariables false
set_option linter.unusedSimpArgs false
namespace Go.Proofs.YtjknnifcbcdjiaaDoor.TabL
open Go.RowKit Go.Proofs.YtjknnifcbcdjiaaDoor.Base Go.Proofs.YtjknnifcbcdjiaaDoorW.PrintWords Go.Proofs.YtjknnifcbcdjiaaDoorW.PrintLast Go.Proofs.YtjknnifcbcdjiaaDoor.Tab
set_option maxHeartbeats 1000000 in
set_option maxRecDepth 100000 in
theorem ints_same {w : World} {b1 b2 : Nat} {v1 v2 : Value} {xs : List Int} (h1 : Ints w b1 v1 xs) (h2 : Ints w b2 v2 xs) :
    Calls Tryd.prog 33 #[v1, v2] w fun e w' => e = .returned (.bool true) ∧ Ch (fun _ => False) w w' := by
  have hmx := own_max h1
  obtain ⟨A1, c1, rfl⟩ := own_len h1
  obtain ⟨A2, c2, rfl⟩ := own_len h2
  go_enter Tryd.func33, Tryd.ntmps33
  go_wp2_with (fail)
  go_loopg [5] xs.length (fun q i wl => ∃ k : Nat, k + q ≤ xs.length ∧ xs.length ≤ k + q ∧ i = .int .i64 k ∧ Ch (fun _ => False) w wl)
  case atStart => exact ⟨0, by omega, by omega, rfl, Ch.refl _ _⟩
  case round =>
    obtain ⟨k, hk1, hk2, rfl, hc⟩ := hrel
    by_cases hlt : 0 < gk
    · have hk : k < xs.length := by omega
      have hkk : (k : Int) < (xs.length : Int) := by omega
      obtain ⟨g1, p1, e1, z1⟩ := int_at h1 k hk
      obtain ⟨g2, p2, e2, z2⟩ := int_at h2 k hk
      injection e1 with a1 _ d1
      injection e2 with a2 _ d2
      subst a1 d1 a2 d2
      have z1 := hc.old z1
      have z2 := hc.old z2
      generalize xs[k] = x at *
      go_wp2_with (fail)
      go_quiet (fail)
      go_wp2_with (fail)
      go_roundg (gk - 1)
      case measure => omega
      case rel => exact ⟨k + 1, by omega, by omega, by go_num, hc.drewN _⟩
    · have hkk : ¬ ((k : Int) < (xs.length : Int)) := by omega
      go_wp2_with (fail)
      go_ret
      exact ⟨rfl, hc⟩
/-- A type of a row, where its cells stand. -/
theorem ty_at {w : World} {base : Nat} {v : Value} {ts : List (Int × Int)} (h : Ty w base v ts) (i : Nat) (hi : i < ts.length) :
    ∃ g cap, v = .slice (some ⟨g, 0, none⟩) ts.length cap ∧ w.cell? ⟨g, i * 2, none⟩ = some (.int .u8 ts[i].1) ∧ w.cell? ⟨g, i * 2 + 1, none⟩ = some (.int .u16 ts[i].2) := by
  have key : ∀ (l : List (Int × Int)) (j : Nat) (hj : j < l.length), (tcells l)[j * 2]? = some (.int .u8 l[j].1) ∧ (tcells l)[j * 2 + 1]? = some (.int .u16 l[j].2) := by
    intro l
    induction l with
    | nil => intro j hj; simp at hj
    | cons p l ih =>
      intro j hj
      cases j with
      | zero => exact ⟨rfl, rfl⟩
      | succ j =>
        obtain ⟨x, y⟩ := ih j (by simpa using hj)
        refine ⟨?_, ?_⟩
        · rw [show (j + 1) * 2 = j * 2 + 1 + 1 by omega]
          show (tcells l)[j * 2]? = _
          rw [x]
          rfl
        · rw [show (j + 1) * 2 + 1 = (j * 2 + 1) + 1 + 1 by omega]
          show (tcells l)[j * 2 + 1]? = _
          rw [y]
          rfl
  obtain ⟨g, cap, hv, _, _⟩ := World.ownsRow.form h (by omega)
  obtain ⟨x, y⟩ := key ts i hi
  refine ⟨g, cap, hv, ?_, ?_⟩
  · have := World.ownsRow.cells h (g := g) (by rw [hv]; rfl) _ _ x
    rwa [add_plain] at this
  · have := World.ownsRow.cells h (g := g) (by rw [hv]; rfl) _ _ y
    rwa [add_plain] at this
set_option maxHeartbeats 1000000 in
set_option maxRecDepth 100000 in
theorem types_same {w : World} {b1 b2 : Nat} {v1 v2 : Value} {xs : List (Int × Int)} (h1 : Ty w b1 v1 xs) (h2 : Ty w b2 v2 xs) :
    Calls Tryd.prog 32 #[v1, v2] w fun e w' => e = .returned (.bool true) ∧ Ch (fun _ => False) w w' := by
  have hmx := own_max h1
  obtain ⟨A1, c1, rfl⟩ := own_len h1
  obtain ⟨A2, c2, rfl⟩ := own_len h2
  go_enter Tryd.func32, Tryd.ntmps32
  go_wp2_with (fail)
  go_loopg [5] xs.length (fun q i wl => ∃ k : Nat, k + q ≤ xs.length ∧ xs.length ≤ k + q ∧ i = .int .i64 k ∧ Ch (fun _ => False) w wl)
  case atStart => exact ⟨0, by omega, by omega, rfl, Ch.refl _ _⟩
  case round =>
    obtain ⟨k, hk1, hk2, rfl, hc⟩ := hrel
    by_cases hlt : 0 < gk
    · have hk : k < xs.length := by omega
      have hkk : (k : Int) < (xs.length : Int) := by omega
      obtain ⟨g1, p1, e1, y1, z1⟩ := ty_at h1 k hk
      obtain ⟨g2, p2, e2, y2, z2⟩ := ty_at h2 k hk
      injection e1 with a1 _ d1
      injection e2 with a2 _ d2
      subst a1 d1 a2 d2
      have y1 := hc.old y1
      have y2 := hc.old y2
      have z1 := hc.old z1
      have z2 := hc.old z2
      generalize xs[k] = x at *
      obtain ⟨x, y⟩ := x
      dsimp only at *
      go_wp2_with (fail)
      go_quiet (fail)
      go_wp2_with (fail)
      go_roundg (gk - 1)
      case measure => omega
      case rel => exact ⟨k + 1, by omega, by omega, by go_num, hc.drewN _⟩
    · have hkk : ¬ ((k : Int) < (xs.length : Int)) := by omega
      go_wp2_with (fail)
      go_ret
      exact ⟨rfl, hc⟩
set_option maxHeartbeats 1000000 in
set_option maxRecDepth 100000 in
theorem instrs_same (w : World) : Calls Tryd.prog 35 #[.slice none 0 0, .slice none 0 0] w fun e w' => e = .returned (.bool true) ∧ Ch (fun _ => False) w w' := by
  go_enter Tryd.func35, Tryd.ntmps35
  go_wp2_with (fail)
  go_loopg [5] 0 (fun q i wl => i = .int .i64 0 ∧ wl = w)
  case atStart => exact ⟨rfl, rfl⟩
  case round =>
    obtain ⟨rfl, rfl⟩ := hrel
    go_wp2_with (fail)
    go_ret
    exact ⟨rfl, Ch.refl _ _⟩
end Go.Proofs.YtjknnifcbcdjiaaDoor.TabL
