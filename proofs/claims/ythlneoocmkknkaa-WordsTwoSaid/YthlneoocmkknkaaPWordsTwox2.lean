-- PRINTED BY print.sh 35421559b90ae4d0a3588c463048766b98c2df88dd9212a6774a882060cdf62d: not written by this session
import Derived.Test.YthlneoocmkknkaaPWordsTwox0
import Derived.Test.YthlneoocmkknkaaPWordsTwox1
namespace Go.Proofs.Ythlneoocmkknkaa.PWordsTwo
open Go.RowKit Go.Proofs.YthlneoocmkknkaaW.PrintWords Go.Proofs.YthlneoocmkknkaaW.PrintLast Go.Proofs.YthlneoocmkknkaaW.PrintMore
attribute [local go_sem] max2_int min2_int max_two min_two max_three min_three max_four min_four   -- for this text's walks alone
set_option linter.unusedVariables false
set_option linter.unusedSimpArgs false

/-! ### garderoberef01_Two: function 11 -/
mutual
def garderoberef01_Two.l0 : Nat → Int → Int → Int → Int → Int → Int → Int → Int → Option (Int × Int × Int)
  | 0, _, _, _, _, _, _, _, _ => none
  | k + 1, x0, x1, x2, x9, x10, x11, x12, x13 => if x13 < x11 then (garderoberef01_Two.l0 k x0 x1 x2 x9 x10 x11 (wrap64 (x12 * 2)) (wrap64 (x13 + 1))) else (if x9 < 0 then (garderoberef01_Two.j1 k x0 x1 x2 x9 x10 x12 (wrap64 (x9 + 4294967296))) else (garderoberef01_Two.j1 k x0 x1 x2 x9 x10 x12 x9))
def garderoberef01_Two.j1 : Nat → Int → Int → Int → Int → Int → Int → Int → Option (Int × Int × Int)
  | 0, _, _, _, _, _, _, _ => none
  | k + 1, x0, x1, x2, x9, x10, x12, x14 => if x0 = 1 then ((garderoberef01_Word.f (wrap64 (x9 + x10))).bind fun t105 => (some (t105, 0, 0))) else (if x0 = 2 then ((garderoberef01_Word.f (wrap64 (x9 - x10))).bind fun t106 => (some (t106, 0, 0))) else (if x0 = 3 then ((garderoberef01_Word.f (wrap64 (x9 * x10))).bind fun t107 => (some (t107, 0, 0))) else (if x0 = 4 then (garderoberef01_Two.j2 k x0 x1 x2 x9 x10 x12 x14 x0 (x0 == 4)) else (garderoberef01_Two.j2 k x0 x1 x2 x9 x10 x12 x14 x0 (x0 == 5)))))
def garderoberef01_Two.j2 : Nat → Int → Int → Int → Int → Int → Int → Int → Int → Bool → Option (Int × Int × Int)
  | 0, _, _, _, _, _, _, _, _, _ => none
  | k + 1, x0, x1, x2, x9, x10, x12, x14, x42, x61 => if x61 = true then (if x10 = 0 then (some (0, 1, 0)) else (if x0 = 4 then ((garderoberef01_Word.f (wrap64 (Int.tdiv x9 x10))).bind fun t108 => (some (t108, 0, 0))) else ((garderoberef01_Word.f (wrap64 (x9 - (wrap64 ((wrap64 (Int.tdiv x9 x10)) * x10))))).bind fun t109 => (some (t109, 0, 0))))) else (if x42 = 6 then ((garderoberef01_Word.f (wrap64 ((Int.tmod x9 65536) * (Int.tmod x12 65536)))).bind fun t110 => (some (t110, 0, 0))) else (if x42 = 7 then (if x12 = 0 then (none) else (if x9 < 0 then (if (wrap64 ((wrap64 (Int.tdiv x9 x12)) * x12)) = x9 then ((garderoberef01_Word.f (wrap64 (Int.tdiv x9 x12))).bind fun t111 => (some (t111, 0, 0))) else ((garderoberef01_Word.f (wrap64 ((wrap64 (Int.tdiv x9 x12)) - 1))).bind fun t112 => (some (t112, 0, 0)))) else ((garderoberef01_Word.f (wrap64 (Int.tdiv x9 x12))).bind fun t113 => (some (t113, 0, 0))))) else (if x42 = 8 then (if x12 = 0 then (none) else ((garderoberef01_Word.f (wrap64 (Int.tdiv x14 x12))).bind fun t114 => (some (t114, 0, 0)))) else (if x42 = 9 then (garderoberef01_Two.j3 k x0 x1 x2 (x42 == 9)) else (if x42 = 10 then (garderoberef01_Two.j3 k x0 x1 x2 (x42 == 10)) else (garderoberef01_Two.j3 k x0 x1 x2 (x42 == 11)))))))
def garderoberef01_Two.j3 : Nat → Int → Int → Int → Bool → Option (Int × Int × Int)
  | 0, _, _, _, _ => none
  | k + 1, x0, x1, x2, x111 => if x111 = true then (garderoberef01_Two.l1 k x0 x1 x2 0 0) else (some (0, 0, 2))
def garderoberef01_Two.l1 : Nat → Int → Int → Int → Int → Int → Option (Int × Int × Int)
  | 0, _, _, _, _, _ => none
  | k + 1, x0, x1, x2, x17, x18 => if x18 < 16 then (garderoberef01_Two.l2 k x0 x1 x2 x17 x18 1 0) else (some (IntKind.u16.wrap (x17), 0, 0))
def garderoberef01_Two.l2 : Nat → Int → Int → Int → Int → Int → Int → Int → Option (Int × Int × Int)
  | 0, _, _, _, _, _, _, _ => none
  | k + 1, x0, x1, x2, x17, x18, x19, x20 => if x20 < x18 then (garderoberef01_Two.l2 k x0 x1 x2 x17 x18 (wrap64 (x19 * 2)) (wrap64 (x20 + 1))) else (if x19 = 0 then (none) else (if x0 = 9 then (if (wrap64 ((Int.tmod (wrap64 (Int.tdiv (wrap64 (x1)) x19)) 2) + (Int.tmod (wrap64 (Int.tdiv (wrap64 (x2)) x19)) 2))) = 2 then (garderoberef01_Two.l1 k x0 x1 x2 (wrap64 (x17 + x19)) (wrap64 (x18 + 1))) else (if x0 = 10 then (if (wrap64 ((Int.tmod (wrap64 (Int.tdiv (wrap64 (x1)) x19)) 2) + (Int.tmod (wrap64 (Int.tdiv (wrap64 (x2)) x19)) 2))) > 0 then (garderoberef01_Two.l1 k x0 x1 x2 (wrap64 (x17 + x19)) (wrap64 (x18 + 1))) else (if x0 = 11 then (if (wrap64 ((Int.tmod (wrap64 (Int.tdiv (wrap64 (x1)) x19)) 2) + (Int.tmod (wrap64 (Int.tdiv (wrap64 (x2)) x19)) 2))) = 1 then (garderoberef01_Two.l1 k x0 x1 x2 (wrap64 (x17 + x19)) (wrap64 (x18 + 1))) else (garderoberef01_Two.l1 k x0 x1 x2 x17 (wrap64 (x18 + 1)))) else (garderoberef01_Two.l1 k x0 x1 x2 x17 (wrap64 (x18 + 1))))) else (if x0 = 11 then (if (wrap64 ((Int.tmod (wrap64 (Int.tdiv (wrap64 (x1)) x19)) 2) + (Int.tmod (wrap64 (Int.tdiv (wrap64 (x2)) x19)) 2))) = 1 then (garderoberef01_Two.l1 k x0 x1 x2 (wrap64 (x17 + x19)) (wrap64 (x18 + 1))) else (garderoberef01_Two.l1 k x0 x1 x2 x17 (wrap64 (x18 + 1)))) else (garderoberef01_Two.l1 k x0 x1 x2 x17 (wrap64 (x18 + 1)))))) else (if x0 = 10 then (if (wrap64 ((Int.tmod (wrap64 (Int.tdiv (wrap64 (x1)) x19)) 2) + (Int.tmod (wrap64 (Int.tdiv (wrap64 (x2)) x19)) 2))) > 0 then (garderoberef01_Two.l1 k x0 x1 x2 (wrap64 (x17 + x19)) (wrap64 (x18 + 1))) else (if x0 = 11 then (if (wrap64 ((Int.tmod (wrap64 (Int.tdiv (wrap64 (x1)) x19)) 2) + (Int.tmod (wrap64 (Int.tdiv (wrap64 (x2)) x19)) 2))) = 1 then (garderoberef01_Two.l1 k x0 x1 x2 (wrap64 (x17 + x19)) (wrap64 (x18 + 1))) else (garderoberef01_Two.l1 k x0 x1 x2 x17 (wrap64 (x18 + 1)))) else (garderoberef01_Two.l1 k x0 x1 x2 x17 (wrap64 (x18 + 1))))) else (if x0 = 11 then (if (wrap64 ((Int.tmod (wrap64 (Int.tdiv (wrap64 (x1)) x19)) 2) + (Int.tmod (wrap64 (Int.tdiv (wrap64 (x2)) x19)) 2))) = 1 then (garderoberef01_Two.l1 k x0 x1 x2 (wrap64 (x17 + x19)) (wrap64 (x18 + 1))) else (garderoberef01_Two.l1 k x0 x1 x2 x17 (wrap64 (x18 + 1)))) else (garderoberef01_Two.l1 k x0 x1 x2 x17 (wrap64 (x18 + 1)))))))
end
def garderoberef01_Two.f (k : Nat) (a0 : Int) (a1 : Int) (a2 : Int) : Option (Int × Int × Int) := (garderoberef01_Worth.f a1).bind fun t103 => ((garderoberef01_Worth.f a2).bind fun t104 => (garderoberef01_Two.l0 k a0 a1 a2 t103 t104 (wrap64 (Int.tmod a2 32)) 1 0))
theorem garderoberef01_Two.mono_l : ∀ k, (∀ y0 y1 y2 y3 y4 y5 y6 y7, LeO (garderoberef01_Two.l0 k y0 y1 y2 y3 y4 y5 y6 y7) (garderoberef01_Two.l0 (k + 1) y0 y1 y2 y3 y4 y5 y6 y7)) ∧ (∀ y0 y1 y2 y3 y4 y5 y6, LeO (garderoberef01_Two.j1 k y0 y1 y2 y3 y4 y5 y6) (garderoberef01_Two.j1 (k + 1) y0 y1 y2 y3 y4 y5 y6)) ∧ (∀ y0 y1 y2 y3 y4 y5 y6 y7 y8, LeO (garderoberef01_Two.j2 k y0 y1 y2 y3 y4 y5 y6 y7 y8) (garderoberef01_Two.j2 (k + 1) y0 y1 y2 y3 y4 y5 y6 y7 y8)) ∧ (∀ y0 y1 y2 y3, LeO (garderoberef01_Two.j3 k y0 y1 y2 y3) (garderoberef01_Two.j3 (k + 1) y0 y1 y2 y3)) ∧ (∀ y0 y1 y2 y3 y4, LeO (garderoberef01_Two.l1 k y0 y1 y2 y3 y4) (garderoberef01_Two.l1 (k + 1) y0 y1 y2 y3 y4)) ∧ (∀ y0 y1 y2 y3 y4 y5 y6, LeO (garderoberef01_Two.l2 k y0 y1 y2 y3 y4 y5 y6) (garderoberef01_Two.l2 (k + 1) y0 y1 y2 y3 y4 y5 y6))
  | 0 => ⟨fun _ _ _ _ _ _ _ _ r h => by simp [garderoberef01_Two.l0] at h, fun _ _ _ _ _ _ _ r h => by simp [garderoberef01_Two.j1] at h, fun _ _ _ _ _ _ _ _ _ r h => by simp [garderoberef01_Two.j2] at h, fun _ _ _ _ r h => by simp [garderoberef01_Two.j3] at h, fun _ _ _ _ _ r h => by simp [garderoberef01_Two.l1] at h, fun _ _ _ _ _ _ _ r h => by simp [garderoberef01_Two.l2] at h⟩
  | k + 1 => by
    obtain ⟨ih0, ih1, ih2, ih3, ih4, ih5⟩ := garderoberef01_Two.mono_l k
    refine ⟨?_, ?_, ?_, ?_, ?_, ?_⟩
    · intro y0 y1 y2 y3 y4 y5 y6 y7
      unfold garderoberef01_Two.l0
      repeat' first
      | (with_reducible exact ih0 _ _ _ _ _ _ _ _)
      | (with_reducible exact ih1 _ _ _ _ _ _ _)
      | (with_reducible exact ih2 _ _ _ _ _ _ _ _ _)
      | (with_reducible exact ih3 _ _ _ _)
      | (with_reducible exact ih4 _ _ _ _ _)
      | (with_reducible exact ih5 _ _ _ _ _ _ _)
      | (with_reducible exact LeO.refl _)
      | (with_reducible exact LeO.none _)
      | (with_reducible refine LeO.ite ?_ ?_)
      | (with_reducible refine LeO.bind ?_ (fun _ => ?_))
      | exact ih0 _ _ _ _ _ _ _ _
      | exact ih1 _ _ _ _ _ _ _
      | exact ih2 _ _ _ _ _ _ _ _ _
      | exact ih3 _ _ _ _
      | exact ih4 _ _ _ _ _
      | exact ih5 _ _ _ _ _ _ _
      | exact LeO.none _
      | refine LeO.ite ?_ ?_
      | refine LeO.bind ?_ (fun _ => ?_)
    · intro y0 y1 y2 y3 y4 y5 y6
      unfold garderoberef01_Two.j1
      repeat' first
      | (with_reducible exact ih0 _ _ _ _ _ _ _ _)
      | (with_reducible exact ih1 _ _ _ _ _ _ _)
      | (with_reducible exact ih2 _ _ _ _ _ _ _ _ _)
      | (with_reducible exact ih3 _ _ _ _)
      | (with_reducible exact ih4 _ _ _ _ _)
      | (with_reducible exact ih5 _ _ _ _ _ _ _)
      | (with_reducible exact LeO.refl _)
      | (with_reducible exact LeO.none _)
      | (with_reducible refine LeO.ite ?_ ?_)
      | (with_reducible refine LeO.bind ?_ (fun _ => ?_))
      | exact ih0 _ _ _ _ _ _ _ _
      | exact ih1 _ _ _ _ _ _ _
      | exact ih2 _ _ _ _ _ _ _ _ _
      | exact ih3 _ _ _ _
      | exact ih4 _ _ _ _ _
      | exact ih5 _ _ _ _ _ _ _
      | exact LeO.none _
      | refine LeO.ite ?_ ?_
      | refine LeO.bind ?_ (fun _ => ?_)
    · intro y0 y1 y2 y3 y4 y5 y6 y7 y8
      unfold garderoberef01_Two.j2
      repeat' first
      | (with_reducible exact ih0 _ _ _ _ _ _ _ _)
      | (with_reducible exact ih1 _ _ _ _ _ _ _)
      | (with_reducible exact ih2 _ _ _ _ _ _ _ _ _)
      | (with_reducible exact ih3 _ _ _ _)
      | (with_reducible exact ih4 _ _ _ _ _)
      | (with_reducible exact ih5 _ _ _ _ _ _ _)
      | (with_reducible exact LeO.refl _)
      | (with_reducible exact LeO.none _)
      | (with_reducible refine LeO.ite ?_ ?_)
      | (with_reducible refine LeO.bind ?_ (fun _ => ?_))
      | exact ih0 _ _ _ _ _ _ _ _
      | exact ih1 _ _ _ _ _ _ _
      | exact ih2 _ _ _ _ _ _ _ _ _
      | exact ih3 _ _ _ _
      | exact ih4 _ _ _ _ _
      | exact ih5 _ _ _ _ _ _ _
      | exact LeO.none _
      | refine LeO.ite ?_ ?_
      | refine LeO.bind ?_ (fun _ => ?_)
    · intro y0 y1 y2 y3
      unfold garderoberef01_Two.j3
      repeat' first
      | (with_reducible exact ih0 _ _ _ _ _ _ _ _)
      | (with_reducible exact ih1 _ _ _ _ _ _ _)
      | (with_reducible exact ih2 _ _ _ _ _ _ _ _ _)
      | (with_reducible exact ih3 _ _ _ _)
      | (with_reducible exact ih4 _ _ _ _ _)
      | (with_reducible exact ih5 _ _ _ _ _ _ _)
      | (with_reducible exact LeO.refl _)
      | (with_reducible exact LeO.none _)
      | (with_reducible refine LeO.ite ?_ ?_)
      | (with_reducible refine LeO.bind ?_ (fun _ => ?_))
      | exact ih0 _ _ _ _ _ _ _ _
      | exact ih1 _ _ _ _ _ _ _
      | exact ih2 _ _ _ _ _ _ _ _ _
      | exact ih3 _ _ _ _
      | exact ih4 _ _ _ _ _
      | exact ih5 _ _ _ _ _ _ _
      | exact LeO.none _
      | refine LeO.ite ?_ ?_
      | refine LeO.bind ?_ (fun _ => ?_)
    · intro y0 y1 y2 y3 y4
      unfold garderoberef01_Two.l1
      repeat' first
      | (with_reducible exact ih0 _ _ _ _ _ _ _ _)
      | (with_reducible exact ih1 _ _ _ _ _ _ _)
      | (with_reducible exact ih2 _ _ _ _ _ _ _ _ _)
      | (with_reducible exact ih3 _ _ _ _)
      | (with_reducible exact ih4 _ _ _ _ _)
      | (with_reducible exact ih5 _ _ _ _ _ _ _)
      | (with_reducible exact LeO.refl _)
      | (with_reducible exact LeO.none _)
      | (with_reducible refine LeO.ite ?_ ?_)
      | (with_reducible refine LeO.bind ?_ (fun _ => ?_))
      | exact ih0 _ _ _ _ _ _ _ _
      | exact ih1 _ _ _ _ _ _ _
      | exact ih2 _ _ _ _ _ _ _ _ _
      | exact ih3 _ _ _ _
      | exact ih4 _ _ _ _ _
      | exact ih5 _ _ _ _ _ _ _
      | exact LeO.none _
      | refine LeO.ite ?_ ?_
      | refine LeO.bind ?_ (fun _ => ?_)
    · intro y0 y1 y2 y3 y4 y5 y6
      unfold garderoberef01_Two.l2
      repeat' first
      | (with_reducible exact ih0 _ _ _ _ _ _ _ _)
      | (with_reducible exact ih1 _ _ _ _ _ _ _)
      | (with_reducible exact ih2 _ _ _ _ _ _ _ _ _)
      | (with_reducible exact ih3 _ _ _ _)
      | (with_reducible exact ih4 _ _ _ _ _)
      | (with_reducible exact ih5 _ _ _ _ _ _ _)
      | (with_reducible exact LeO.refl _)
      | (with_reducible exact LeO.none _)
      | (with_reducible refine LeO.ite ?_ ?_)
      | (with_reducible refine LeO.bind ?_ (fun _ => ?_))
      | exact ih0 _ _ _ _ _ _ _ _
      | exact ih1 _ _ _ _ _ _ _
      | exact ih2 _ _ _ _ _ _ _ _ _
      | exact ih3 _ _ _ _
      | exact ih4 _ _ _ _ _
      | exact ih5 _ _ _ _ _ _ _
      | exact LeO.none _
      | refine LeO.ite ?_ ?_
      | refine LeO.bind ?_ (fun _ => ?_)
theorem garderoberef01_Two.mono : ∀ a0 a1 a2 k, LeO (garderoberef01_Two.f k a0 a1 a2) (garderoberef01_Two.f (k + 1) a0 a1 a2) := by
  intro a0 a1 a2 k
  obtain ⟨ih0, ih1, ih2, ih3, ih4, ih5⟩ := garderoberef01_Two.mono_l k
  unfold garderoberef01_Two.f
  repeat' first
      | (with_reducible exact ih0 _ _ _ _ _ _ _ _)
      | (with_reducible exact ih1 _ _ _ _ _ _ _)
      | (with_reducible exact ih2 _ _ _ _ _ _ _ _ _)
      | (with_reducible exact ih3 _ _ _ _)
      | (with_reducible exact ih4 _ _ _ _ _)
      | (with_reducible exact ih5 _ _ _ _ _ _ _)
      | (with_reducible exact LeO.refl _)
      | (with_reducible exact LeO.none _)
      | (with_reducible refine LeO.ite ?_ ?_)
      | (with_reducible refine LeO.bind ?_ (fun _ => ?_))
      | exact ih0 _ _ _ _ _ _ _ _
      | exact ih1 _ _ _ _ _ _ _
      | exact ih2 _ _ _ _ _ _ _ _ _
      | exact ih3 _ _ _ _
      | exact ih4 _ _ _ _ _
      | exact ih5 _ _ _ _ _ _ _
      | exact LeO.none _
      | refine LeO.ite ?_ ?_
      | refine LeO.bind ?_ (fun _ => ?_)
set_option maxHeartbeats 8000000 in
set_option maxRecDepth 100000 in
theorem garderoberef01_Two.calls (k : Nat) (a0 : Int) (a1 : Int) (a2 : Int) (r1 : Int) (r2 : Int) (r3 : Int) (w : World) (h : garderoberef01_Two.f k a0 a1 a2 = some (r1, r2, r3)) :
    Calls Try.prog 11 #[.int .u8 a0, .int .u16 a1, .int .u16 a2] w fun e w' => e = .returned (.tuple #[.int .u16 r1, .int .u8 r2, .int .i64 r3]) ∧ Drawn0 w w' := by
  have H : ((garderoberef01_Worth.f a1).bind fun t103 => ((garderoberef01_Worth.f a2).bind fun t104 => (garderoberef01_Two.l0 k a0 a1 a2 t103 t104 (wrap64 (Int.tmod a2 32)) 1 0))) = some (r1, r2, r3) := h
  clear h
  replace H := Option.bind_eq_some_iff.mp H
  obtain ⟨t103, A40, H⟩ := H
  replace H : ((garderoberef01_Worth.f a2).bind fun t104 => (garderoberef01_Two.l0 k a0 a1 a2 t103 t104 (wrap64 (Int.tmod a2 32)) 1 0)) = some (r1, r2, r3) := H
  have A4 := Aside0.mk A40
  clear A40
  replace H := Option.bind_eq_some_iff.mp H
  obtain ⟨t104, A50, H⟩ := H
  replace H : (garderoberef01_Two.l0 k a0 a1 a2 t103 t104 (wrap64 (Int.tmod a2 32)) 1 0) = some (r1, r2, r3) := H
  have A5 := Aside0.mk A50
  clear A50
  have H' := Aside0.mk H
  clear H
  go_enter Try.func11, Try.ntmps11
  go_wp2_with (first | (go_at_call 14; (with_reducible refine (garderoberef01_Worth.calls a1 t103 _ A4.out).mono ?_); rintro e w' ⟨rfl, ⟨nd, rfl⟩⟩; (try first | exact ⟨rfl, _, World.drewN_drewN _ _ _⟩ | exact ⟨rfl, _, Eq.trans (World.drewN_drewN _ _ _) (congrArg (World.drewN _) (Nat.add_assoc _ _ _))⟩)) | (go_at_call 14; (with_reducible refine (garderoberef01_Worth.calls a2 t104 _ A5.out).mono ?_); rintro e w' ⟨rfl, ⟨nd, rfl⟩⟩; (try first | exact ⟨rfl, _, World.drewN_drewN _ _ _⟩ | exact ⟨rfl, _, Eq.trans (World.drewN_drewN _ _ _) (congrArg (World.drewN _) (Nat.add_assoc _ _ _))⟩)))
  repeat (go_quiet (first | (go_at_call 14; (with_reducible refine (garderoberef01_Worth.calls a1 t103 _ A4.out).mono ?_); rintro e w' ⟨rfl, ⟨nd, rfl⟩⟩; (try first | exact ⟨rfl, _, World.drewN_drewN _ _ _⟩ | exact ⟨rfl, _, Eq.trans (World.drewN_drewN _ _ _) (congrArg (World.drewN _) (Nat.add_assoc _ _ _))⟩)) | (go_at_call 14; (with_reducible refine (garderoberef01_Worth.calls a2 t104 _ A5.out).mono ?_); rintro e w' ⟨rfl, ⟨nd, rfl⟩⟩; (try first | exact ⟨rfl, _, World.drewN_drewN _ _ _⟩ | exact ⟨rfl, _, Eq.trans (World.drewN_drewN _ _ _) (congrArg (World.drewN _) (Nat.add_assoc _ _ _))⟩))); try go_wp2_with (first | (go_at_call 14; (with_reducible refine (garderoberef01_Worth.calls a1 t103 _ A4.out).mono ?_); rintro e w' ⟨rfl, ⟨nd, rfl⟩⟩; (try first | exact ⟨rfl, _, World.drewN_drewN _ _ _⟩ | exact ⟨rfl, _, Eq.trans (World.drewN_drewN _ _ _) (congrArg (World.drewN _) (Nat.add_assoc _ _ _))⟩)) | (go_at_call 14; (with_reducible refine (garderoberef01_Worth.calls a2 t104 _ A5.out).mono ?_); rintro e w' ⟨rfl, ⟨nd, rfl⟩⟩; (try first | exact ⟨rfl, _, World.drewN_drewN _ _ _⟩ | exact ⟨rfl, _, Eq.trans (World.drewN_drewN _ _ _) (congrArg (World.drewN _) (Nat.add_assoc _ _ _))⟩))))
  go_loopg [12, 13] k (fun kq v12 v13 w' => ∃ (x12_1 : Int) (x13_1 : Int), v12 = .int .i64 x12_1 ∧ v13 = .int .i64 x13_1 ∧ Aside0 (garderoberef01_Two.l0 kq a0 a1 a2 t103 t104 (wrap64 (Int.tmod a2 32)) x12_1 x13_1 = some (r1, r2, r3)) ∧ Aside0 (kq ≤ k) ∧ Drawn0 w w')
  case atStart => exact ⟨(1), (0), (by first | rfl | (simp; done) | (simp [*]; done)), (by first | rfl | (simp; done) | (simp [*]; done)), H', ⟨Nat.le_refl _⟩, by repeat (first | exact Drawn0.refl _ | apply Drawn0.step)⟩
  case round =>
    clear H'
    try clear c1
    try clear p2
    obtain ⟨x12_1, x13_1, rfl, rfl, HA, HK1, ⟨m1, rfl⟩⟩ := hrel
    cases gk with
    | zero => exact absurd HA.out (by simp [garderoberef01_Two.l0])
    | succ k1 =>
      have H := HA.out
      clear HA
      simp only [garderoberef01_Two.l0] at H
      by_cases c6 : x13_1 < (wrap64 (Int.tmod a2 32))
      · rw [if_pos c6] at H
        have c6b0 : decide (x13_1 < (wrap64 (Int.tmod a2 32))) = true := decide_eq_true c6
        clear c6
        have H' := Aside0.mk H
        clear H
        go_wp2
        repeat (go_quiet (fail); try go_wp2)
        go_roundg k1
        case measure => have := HK1.out; omega
        case rel => exact ⟨(wrap64 (x12_1 * 2)), (wrap64 (x13_1 + 1)), (by first | rfl | (simp; done) | (simp [*]; done)), (by first | rfl | (simp; done) | (simp [*]; done)), H', ⟨by have := HK1.out; omega⟩, by repeat (first | exact Drawn0.refl _ | apply Drawn0.step)⟩
      · rw [if_neg c6] at H
        have c6b0 : decide (x13_1 < (wrap64 (Int.tmod a2 32))) = false := decide_eq_false c6
        clear c6
        have HC7 := Aside0.mk H
        clear H
        go_upto_if 39 with (fail)
        repeat (go_quiet (fail); go_upto_if 39 with (fail))
        go_cut [14] (fun v14 wc => ∃ (kq : Nat) (x14_6 : Int), v14 = .int .i64 x14_6 ∧ Aside0 (garderoberef01_Two.j1 kq a0 a1 a2 t103 t104 x12_1 x14_6 = some (r1, r2, r3)) ∧ Aside0 (kq ≤ k1) ∧ Drawn0 w wc)
        case first =>
          have H := HC7.out
          clear HC7
          by_cases c8 : t103 < 0
          · rw [if_pos c8] at H
            have c8b0 : decide (t103 < 0) = true := decide_eq_true c8
            clear c8
            (first | rw [c8b0] | (simp only [i64_w, i32_w]; rw [c8b0]) | skip)
            have H' := Aside0.mk H
            clear H
            go_wp2
            repeat (go_quiet (fail); try go_wp2)
            go_meet
            case rel => exact ⟨_, (wrap64 (t103 + 4294967296)), (by first | rfl | (simp; done) | (simp [*]; done)), H', ⟨by have := HK1.out; first | omega | exact Nat.le_refl _⟩, by repeat (first | exact Drawn0.refl _ | apply Drawn0.step)⟩
          · rw [if_neg c8] at H
            have c8b0 : decide (t103 < 0) = false := decide_eq_false c8
            clear c8
            (first | rw [c8b0] | (simp only [i64_w, i32_w]; rw [c8b0]) | skip)
            have H' := Aside0.mk H
            clear H
            go_wp2
            repeat (go_quiet (fail); try go_wp2)
            go_meet
            case rel => exact ⟨_, (t103), (by first | rfl | (simp; done) | (simp [*]; done)), H', ⟨by have := HK1.out; first | omega | exact Nat.le_refl _⟩, by repeat (first | exact Drawn0.refl _ | apply Drawn0.step)⟩
        case rest =>
          clear HC7
          try clear c1
          try clear p2
          try clear c6
          try clear c6b0
          try clear p6
          try clear c8
          try clear c8b0
          try clear p2
          obtain ⟨kq, x14_6, rfl, HA, HJ6, ⟨mc6, rfl⟩⟩ := hcut
          cases kq with
          | zero => exact absurd HA.out (by simp [garderoberef01_Two.j1])
          | succ kj6 =>
            have H := HA.out
            clear HA
            simp only [garderoberef01_Two.j1] at H
            by_cases c9 : a0 = 1
            · rw [if_pos c9] at H
              have c9b0 : (a0 == 1) = true := beq_iff_eq.mpr c9
              have c9b1 : (a0 != 1) = false := bne_eq_false_iff_eq.mpr c9
              clear c9
              replace H := Option.bind_eq_some_iff.mp H
              obtain ⟨t105, A100, H⟩ := H
              replace H : (some (t105, 0, 0)) = some (r1, r2, r3) := H
              have A10 := Aside0.mk A100
              clear A100
              simp only [Option.some.injEq, Prod.mk.injEq] at H
              obtain ⟨rfl, rfl, rfl⟩ := H
              go_wp2_with (first | (go_at_call 16; (with_reducible refine (garderoberef01_Word.calls (wrap64 (t103 + t104)) t105 _ A10.out).mono ?_); rintro e w' ⟨rfl, ⟨nd, rfl⟩⟩; (try first | exact ⟨rfl, _, World.drewN_drewN _ _ _⟩ | exact ⟨rfl, _, Eq.trans (World.drewN_drewN _ _ _) (congrArg (World.drewN _) (Nat.add_assoc _ _ _))⟩)))
              repeat (go_quiet (first | (go_at_call 16; (with_reducible refine (garderoberef01_Word.calls (wrap64 (t103 + t104)) t105 _ A10.out).mono ?_); rintro e w' ⟨rfl, ⟨nd, rfl⟩⟩; (try first | exact ⟨rfl, _, World.drewN_drewN _ _ _⟩ | exact ⟨rfl, _, Eq.trans (World.drewN_drewN _ _ _) (congrArg (World.drewN _) (Nat.add_assoc _ _ _))⟩))); try go_wp2_with (first | (go_at_call 16; (with_reducible refine (garderoberef01_Word.calls (wrap64 (t103 + t104)) t105 _ A10.out).mono ?_); rintro e w' ⟨rfl, ⟨nd, rfl⟩⟩; (try first | exact ⟨rfl, _, World.drewN_drewN _ _ _⟩ | exact ⟨rfl, _, Eq.trans (World.drewN_drewN _ _ _) (congrArg (World.drewN _) (Nat.add_assoc _ _ _))⟩))))
              go_ret3
              exact ⟨by first | rfl | (simp; done) | (simp [*]; done), by repeat (first | exact Drawn0.refl _ | apply Drawn0.step)⟩
            · rw [if_neg c9] at H
              have c9b0 : (a0 == 1) = false := beq_eq_false_iff_ne.mpr c9
              have c9b1 : (a0 != 1) = true := bne_iff_ne.mpr c9
              by_cases c11 : a0 = 2
              · rw [if_pos c11] at H
                have c11b0 : (a0 == 2) = true := beq_iff_eq.mpr c11
                have c11b1 : (a0 != 2) = false := bne_eq_false_iff_eq.mpr c11
                clear c11
                replace H := Option.bind_eq_some_iff.mp H
                obtain ⟨t106, A120, H⟩ := H
                replace H : (some (t106, 0, 0)) = some (r1, r2, r3) := H
                have A12 := Aside0.mk A120
                clear A120
                simp only [Option.some.injEq, Prod.mk.injEq] at H
                obtain ⟨rfl, rfl, rfl⟩ := H
                go_wp2_with (first | (go_at_call 16; (with_reducible refine (garderoberef01_Word.calls (wrap64 (t103 - t104)) t106 _ A12.out).mono ?_); rintro e w' ⟨rfl, ⟨nd, rfl⟩⟩; (try first | exact ⟨rfl, _, World.drewN_drewN _ _ _⟩ | exact ⟨rfl, _, Eq.trans (World.drewN_drewN _ _ _) (congrArg (World.drewN _) (Nat.add_assoc _ _ _))⟩)))
                repeat (go_quiet (first | (go_at_call 16; (with_reducible refine (garderoberef01_Word.calls (wrap64 (t103 - t104)) t106 _ A12.out).mono ?_); rintro e w' ⟨rfl, ⟨nd, rfl⟩⟩; (try first | exact ⟨rfl, _, World.drewN_drewN _ _ _⟩ | exact ⟨rfl, _, Eq.trans (World.drewN_drewN _ _ _) (congrArg (World.drewN _) (Nat.add_assoc _ _ _))⟩))); try go_wp2_with (first | (go_at_call 16; (with_reducible refine (garderoberef01_Word.calls (wrap64 (t103 - t104)) t106 _ A12.out).mono ?_); rintro e w' ⟨rfl, ⟨nd, rfl⟩⟩; (try first | exact ⟨rfl, _, World.drewN_drewN _ _ _⟩ | exact ⟨rfl, _, Eq.trans (World.drewN_drewN _ _ _) (congrArg (World.drewN _) (Nat.add_assoc _ _ _))⟩))))
                go_ret3
                exact ⟨by first | rfl | (simp; done) | (simp [*]; done), by repeat (first | exact Drawn0.refl _ | apply Drawn0.step)⟩
              · rw [if_neg c11] at H
                have c11b0 : (a0 == 2) = false := beq_eq_false_iff_ne.mpr c11
                have c11b1 : (a0 != 2) = true := bne_iff_ne.mpr c11
                by_cases c13 : a0 = 3
                · rw [if_pos c13] at H
                  have c13b0 : (a0 == 3) = true := beq_iff_eq.mpr c13
                  have c13b1 : (a0 != 3) = false := bne_eq_false_iff_eq.mpr c13
                  clear c13
                  replace H := Option.bind_eq_some_iff.mp H
                  obtain ⟨t107, A140, H⟩ := H
                  replace H : (some (t107, 0, 0)) = some (r1, r2, r3) := H
                  have A14 := Aside0.mk A140
                  clear A140
                  simp only [Option.some.injEq, Prod.mk.injEq] at H
                  obtain ⟨rfl, rfl, rfl⟩ := H
                  go_wp2_with (first | (go_at_call 16; (with_reducible refine (garderoberef01_Word.calls (wrap64 (t103 * t104)) t107 _ A14.out).mono ?_); rintro e w' ⟨rfl, ⟨nd, rfl⟩⟩; (try first | exact ⟨rfl, _, World.drewN_drewN _ _ _⟩ | exact ⟨rfl, _, Eq.trans (World.drewN_drewN _ _ _) (congrArg (World.drewN _) (Nat.add_assoc _ _ _))⟩)))
                  repeat (go_quiet (first | (go_at_call 16; (with_reducible refine (garderoberef01_Word.calls (wrap64 (t103 * t104)) t107 _ A14.out).mono ?_); rintro e w' ⟨rfl, ⟨nd, rfl⟩⟩; (try first | exact ⟨rfl, _, World.drewN_drewN _ _ _⟩ | exact ⟨rfl, _, Eq.trans (World.drewN_drewN _ _ _) (congrArg (World.drewN _) (Nat.add_assoc _ _ _))⟩))); try go_wp2_with (first | (go_at_call 16; (with_reducible refine (garderoberef01_Word.calls (wrap64 (t103 * t104)) t107 _ A14.out).mono ?_); rintro e w' ⟨rfl, ⟨nd, rfl⟩⟩; (try first | exact ⟨rfl, _, World.drewN_drewN _ _ _⟩ | exact ⟨rfl, _, Eq.trans (World.drewN_drewN _ _ _) (congrArg (World.drewN _) (Nat.add_assoc _ _ _))⟩))))
                  go_ret3
                  exact ⟨by first | rfl | (simp; done) | (simp [*]; done), by repeat (first | exact Drawn0.refl _ | apply Drawn0.step)⟩
                · rw [if_neg c13] at H
                  have c13b0 : (a0 == 3) = false := beq_eq_false_iff_ne.mpr c13
                  have c13b1 : (a0 != 3) = true := bne_iff_ne.mpr c13
                  have HC15 := Aside0.mk H
                  clear H
                  go_upto_if 61 with (fail)
                  repeat (go_quiet (fail); go_upto_if 61 with (fail))
                  go_cut [61] (fun v61 wc => ∃ (kq : Nat) (x61_14 : Bool), v61 = .bool x61_14 ∧ Aside0 (garderoberef01_Two.j2 kq a0 a1 a2 t103 t104 x12_1 x14_6 a0 x61_14 = some (r1, r2, r3)) ∧ Aside0 (kq ≤ kj6) ∧ Drawn0 w wc)
                  case first =>
                    have H := HC15.out
                    clear HC15
                    by_cases c16 : a0 = 4
                    · rw [if_pos c16] at H
                      have c16b0 : (a0 == 4) = true := beq_iff_eq.mpr c16
                      have c16b1 : (a0 != 4) = false := bne_eq_false_iff_eq.mpr c16
                      clear c16
                      (first | rw [c16b0] | (simp only [i64_w, i32_w]; rw [c16b0]) | skip)
                      have H' := Aside0.mk H
                      clear H
                      go_wp2
                      repeat (go_quiet (fail); try go_wp2)
                      go_meet
                      case rel => exact ⟨_, ((a0 == 4)), (by first | rfl | (simp; done) | (simp [*]; done)), H', ⟨by have := HK1.out; have := HJ6.out; first | omega | exact Nat.le_refl _⟩, by repeat (first | exact Drawn0.refl _ | apply Drawn0.step)⟩
                    · rw [if_neg c16] at H
                      have c16b0 : (a0 == 4) = false := beq_eq_false_iff_ne.mpr c16
                      have c16b1 : (a0 != 4) = true := bne_iff_ne.mpr c16
                      (first | rw [c16b0] | (simp only [i64_w, i32_w]; rw [c16b0]) | skip)
                      have H' := Aside0.mk H
                      clear H
                      go_wp2
                      repeat (go_quiet (fail); try go_wp2)
                      go_meet
                      case rel => exact ⟨_, ((a0 == 5)), (by first | rfl | (simp; done) | (simp [*]; done)), H', ⟨by have := HK1.out; have := HJ6.out; first | omega | exact Nat.le_refl _⟩, by repeat (first | exact Drawn0.refl _ | apply Drawn0.step)⟩
                  case rest =>
                    clear HC15
                    try clear c1
                    try clear p2
                    try clear c6
                    try clear c6b0
                    try clear p6
                    try clear c8
                    try clear c8b0
                    try clear c9
                    try clear c9b0
                    try clear c9b1
                    try clear c11
                    try clear c11b0
                    try clear c11b1
                    try clear c13
                    try clear c13b0
                    try clear c13b1
                    try clear c16
                    try clear c16b0
                    try clear c16b1
                    try clear p2
                    try clear p6
                    obtain ⟨kq, x61_14, rfl, HA, HJ14, ⟨mc14, rfl⟩⟩ := hcut
                    cases kq with
                    | zero => exact absurd HA.out (by simp [garderoberef01_Two.j2])
                    | succ kj14 =>
                      have H := HA.out
                      clear HA
                      simp only [garderoberef01_Two.j2] at H
                      by_cases c17 : x61_14 = true
                      · subst c17
                        have H1 : (if t104 = 0 then (some (0, 1, 0)) else (if a0 = 4 then ((garderoberef01_Word.f (wrap64 (Int.tdiv t103 t104))).bind fun t108 => (some (t108, 0, 0))) else ((garderoberef01_Word.f (wrap64 (t103 - (wrap64 ((wrap64 (Int.tdiv t103 t104)) * t104))))).bind fun t109 => (some (t109, 0, 0))))) = some (r1, r2, r3) := by rw [if_pos rfl] at H; exact H
                        clear H
                        have H := H1
                        clear H1
                        by_cases c18 : t104 = 0
                        · rw [if_pos c18] at H
                          have c18b0 : (t104 == 0) = true := beq_iff_eq.mpr c18
                          have c18b1 : (t104 != 0) = false := bne_eq_false_iff_eq.mpr c18
                          clear c18
                          simp only [Option.some.injEq, Prod.mk.injEq] at H
                          obtain ⟨rfl, rfl, rfl⟩ := H
                          go_wp2
                          repeat (go_quiet (fail); try go_wp2)
                          go_ret3
                          exact ⟨by first | rfl | (simp; done) | (simp [*]; done), by repeat (first | exact Drawn0.refl _ | apply Drawn0.step)⟩
                        · rw [if_neg c18] at H
                          have c18b0 : (t104 == 0) = false := beq_eq_false_iff_ne.mpr c18
                          have c18b1 : (t104 != 0) = true := bne_iff_ne.mpr c18
                          by_cases c19 : a0 = 4
                          · rw [if_pos c19] at H
                            have c19b0 : (a0 == 4) = true := beq_iff_eq.mpr c19
                            have c19b1 : (a0 != 4) = false := bne_eq_false_iff_eq.mpr c19
                            clear c19
                            replace H := Option.bind_eq_some_iff.mp H
                            obtain ⟨t108, A200, H⟩ := H
                            replace H : (some (t108, 0, 0)) = some (r1, r2, r3) := H
                            have A20 := Aside0.mk A200
                            clear A200
                            simp only [Option.some.injEq, Prod.mk.injEq] at H
                            obtain ⟨rfl, rfl, rfl⟩ := H
                            go_wp2_with (first | (go_at_call 16; (with_reducible refine (garderoberef01_Word.calls (wrap64 (Int.tdiv t103 t104)) t108 _ A20.out).mono ?_); rintro e w' ⟨rfl, ⟨nd, rfl⟩⟩; (try first | exact ⟨rfl, _, World.drewN_drewN _ _ _⟩ | exact ⟨rfl, _, Eq.trans (World.drewN_drewN _ _ _) (congrArg (World.drewN _) (Nat.add_assoc _ _ _))⟩)))
                            repeat (go_quiet (first | (go_at_call 16; (with_reducible refine (garderoberef01_Word.calls (wrap64 (Int.tdiv t103 t104)) t108 _ A20.out).mono ?_); rintro e w' ⟨rfl, ⟨nd, rfl⟩⟩; (try first | exact ⟨rfl, _, World.drewN_drewN _ _ _⟩ | exact ⟨rfl, _, Eq.trans (World.drewN_drewN _ _ _) (congrArg (World.drewN _) (Nat.add_assoc _ _ _))⟩))); try go_wp2_with (first | (go_at_call 16; (with_reducible refine (garderoberef01_Word.calls (wrap64 (Int.tdiv t103 t104)) t108 _ A20.out).mono ?_); rintro e w' ⟨rfl, ⟨nd, rfl⟩⟩; (try first | exact ⟨rfl, _, World.drewN_drewN _ _ _⟩ | exact ⟨rfl, _, Eq.trans (World.drewN_drewN _ _ _) (congrArg (World.drewN _) (Nat.add_assoc _ _ _))⟩))))
                            go_ret3
                            exact ⟨by first | rfl | (simp; done) | (simp [*]; done), by repeat (first | exact Drawn0.refl _ | apply Drawn0.step)⟩
                          · rw [if_neg c19] at H
                            have c19b0 : (a0 == 4) = false := beq_eq_false_iff_ne.mpr c19
                            have c19b1 : (a0 != 4) = true := bne_iff_ne.mpr c19
                            replace H := Option.bind_eq_some_iff.mp H
                            obtain ⟨t109, A210, H⟩ := H
                            replace H : (some (t109, 0, 0)) = some (r1, r2, r3) := H
                            have A21 := Aside0.mk A210
                            clear A210
                            simp only [Option.some.injEq, Prod.mk.injEq] at H
                            obtain ⟨rfl, rfl, rfl⟩ := H
                            go_wp2_with (first | (go_at_call 16; (with_reducible refine (garderoberef01_Word.calls (wrap64 (t103 - (wrap64 ((wrap64 (Int.tdiv t103 t104)) * t104)))) t109 _ A21.out).mono ?_); rintro e w' ⟨rfl, ⟨nd, rfl⟩⟩; (try first | exact ⟨rfl, _, World.drewN_drewN _ _ _⟩ | exact ⟨rfl, _, Eq.trans (World.drewN_drewN _ _ _) (congrArg (World.drewN _) (Nat.add_assoc _ _ _))⟩)))
                            repeat (go_quiet (first | (go_at_call 16; (with_reducible refine (garderoberef01_Word.calls (wrap64 (t103 - (wrap64 ((wrap64 (Int.tdiv t103 t104)) * t104)))) t109 _ A21.out).mono ?_); rintro e w' ⟨rfl, ⟨nd, rfl⟩⟩; (try first | exact ⟨rfl, _, World.drewN_drewN _ _ _⟩ | exact ⟨rfl, _, Eq.trans (World.drewN_drewN _ _ _) (congrArg (World.drewN _) (Nat.add_assoc _ _ _))⟩))); try go_wp2_with (first | (go_at_call 16; (with_reducible refine (garderoberef01_Word.calls (wrap64 (t103 - (wrap64 ((wrap64 (Int.tdiv t103 t104)) * t104)))) t109 _ A21.out).mono ?_); rintro e w' ⟨rfl, ⟨nd, rfl⟩⟩; (try first | exact ⟨rfl, _, World.drewN_drewN _ _ _⟩ | exact ⟨rfl, _, Eq.trans (World.drewN_drewN _ _ _) (congrArg (World.drewN _) (Nat.add_assoc _ _ _))⟩))))
                            go_ret3
                            exact ⟨by first | rfl | (simp; done) | (simp [*]; done), by repeat (first | exact Drawn0.refl _ | apply Drawn0.step)⟩
                      · replace c17 := Bool.eq_false_iff.mpr c17
                        subst c17
                        have H1 : (if a0 = 6 then ((garderoberef01_Word.f (wrap64 ((Int.tmod t103 65536) * (Int.tmod x12_1 65536)))).bind fun t110 => (some (t110, 0, 0))) else (if a0 = 7 then (if x12_1 = 0 then (none) else (if t103 < 0 then (if (wrap64 ((wrap64 (Int.tdiv t103 x12_1)) * x12_1)) = t103 then ((garderoberef01_Word.f (wrap64 (Int.tdiv t103 x12_1))).bind fun t111 => (some (t111, 0, 0))) else ((garderoberef01_Word.f (wrap64 ((wrap64 (Int.tdiv t103 x12_1)) - 1))).bind fun t112 => (some (t112, 0, 0)))) else ((garderoberef01_Word.f (wrap64 (Int.tdiv t103 x12_1))).bind fun t113 => (some (t113, 0, 0))))) else (if a0 = 8 then (if x12_1 = 0 then (none) else ((garderoberef01_Word.f (wrap64 (Int.tdiv x14_6 x12_1))).bind fun t114 => (some (t114, 0, 0)))) else (if a0 = 9 then (garderoberef01_Two.j3 kj14 a0 a1 a2 (a0 == 9)) else (if a0 = 10 then (garderoberef01_Two.j3 kj14 a0 a1 a2 (a0 == 10)) else (garderoberef01_Two.j3 kj14 a0 a1 a2 (a0 == 11))))))) = some (r1, r2, r3) := by rw [if_neg (show ¬ (false = true) by decide)] at H; exact H
                        clear H
                        have H := H1
                        clear H1
                        by_cases c22 : a0 = 6
                        · rw [if_pos c22] at H
                          have c22b0 : (a0 == 6) = true := beq_iff_eq.mpr c22
                          have c22b1 : (a0 != 6) = false := bne_eq_false_iff_eq.mpr c22
                          clear c22
                          replace H := Option.bind_eq_some_iff.mp H
                          obtain ⟨t110, A230, H⟩ := H
                          replace H : (some (t110, 0, 0)) = some (r1, r2, r3) := H
                          have A23 := Aside0.mk A230
                          clear A230
                          simp only [Option.some.injEq, Prod.mk.injEq] at H
                          obtain ⟨rfl, rfl, rfl⟩ := H
                          go_wp2_with (first | (go_at_call 16; (with_reducible refine (garderoberef01_Word.calls (wrap64 ((Int.tmod t103 65536) * (Int.tmod x12_1 65536))) t110 _ A23.out).mono ?_); rintro e w' ⟨rfl, ⟨nd, rfl⟩⟩; (try first | exact ⟨rfl, _, World.drewN_drewN _ _ _⟩ | exact ⟨rfl, _, Eq.trans (World.drewN_drewN _ _ _) (congrArg (World.drewN _) (Nat.add_assoc _ _ _))⟩)))
                          repeat (go_quiet (first | (go_at_call 16; (with_reducible refine (garderoberef01_Word.calls (wrap64 ((Int.tmod t103 65536) * (Int.tmod x12_1 65536))) t110 _ A23.out).mono ?_); rintro e w' ⟨rfl, ⟨nd, rfl⟩⟩; (try first | exact ⟨rfl, _, World.drewN_drewN _ _ _⟩ | exact ⟨rfl, _, Eq.trans (World.drewN_drewN _ _ _) (congrArg (World.drewN _) (Nat.add_assoc _ _ _))⟩))); try go_wp2_with (first | (go_at_call 16; (with_reducible refine (garderoberef01_Word.calls (wrap64 ((Int.tmod t103 65536) * (Int.tmod x12_1 65536))) t110 _ A23.out).mono ?_); rintro e w' ⟨rfl, ⟨nd, rfl⟩⟩; (try first | exact ⟨rfl, _, World.drewN_drewN _ _ _⟩ | exact ⟨rfl, _, Eq.trans (World.drewN_drewN _ _ _) (congrArg (World.drewN _) (Nat.add_assoc _ _ _))⟩))))
                          go_ret3
                          exact ⟨by first | rfl | (simp; done) | (simp [*]; done), by repeat (first | exact Drawn0.refl _ | apply Drawn0.step)⟩
                        · rw [if_neg c22] at H
                          have c22b0 : (a0 == 6) = false := beq_eq_false_iff_ne.mpr c22
                          have c22b1 : (a0 != 6) = true := bne_iff_ne.mpr c22
                          by_cases c24 : a0 = 7
                          · rw [if_pos c24] at H
                            have c24b0 : (a0 == 7) = true := beq_iff_eq.mpr c24
                            have c24b1 : (a0 != 7) = false := bne_eq_false_iff_eq.mpr c24
                            clear c24
                            by_cases c25 : x12_1 = 0
                            · rw [if_pos c25] at H
                              exact absurd H (by simp)
                            · rw [if_neg c25] at H
                              have c25b0 : (x12_1 == 0) = false := beq_eq_false_iff_ne.mpr c25
                              have c25b1 : (x12_1 != 0) = true := bne_iff_ne.mpr c25
                              by_cases c26 : t103 < 0
                              · rw [if_pos c26] at H
                                have c26b0 : decide (t103 < 0) = true := decide_eq_true c26
                                clear c26
                                by_cases c27 : (wrap64 ((wrap64 (Int.tdiv t103 x12_1)) * x12_1)) = t103
                                · rw [if_pos c27] at H
                                  have c27b0 : ((wrap64 ((wrap64 (Int.tdiv t103 x12_1)) * x12_1)) == t103) = true := beq_iff_eq.mpr c27
                                  have c27b1 : ((wrap64 ((wrap64 (Int.tdiv t103 x12_1)) * x12_1)) != t103) = false := bne_eq_false_iff_eq.mpr c27
                                  clear c27
                                  replace H := Option.bind_eq_some_iff.mp H
                                  obtain ⟨t111, A280, H⟩ := H
                                  replace H : (some (t111, 0, 0)) = some (r1, r2, r3) := H
                                  have A28 := Aside0.mk A280
                                  clear A280
                                  simp only [Option.some.injEq, Prod.mk.injEq] at H
                                  obtain ⟨rfl, rfl, rfl⟩ := H
                                  go_wp2_with (first | (go_at_call 16; (with_reducible refine (garderoberef01_Word.calls (wrap64 (Int.tdiv t103 x12_1)) t111 _ A28.out).mono ?_); rintro e w' ⟨rfl, ⟨nd, rfl⟩⟩; (try first | exact ⟨rfl, _, World.drewN_drewN _ _ _⟩ | exact ⟨rfl, _, Eq.trans (World.drewN_drewN _ _ _) (congrArg (World.drewN _) (Nat.add_assoc _ _ _))⟩)))
                                  repeat (go_quiet (first | (go_at_call 16; (with_reducible refine (garderoberef01_Word.calls (wrap64 (Int.tdiv t103 x12_1)) t111 _ A28.out).mono ?_); rintro e w' ⟨rfl, ⟨nd, rfl⟩⟩; (try first | exact ⟨rfl, _, World.drewN_drewN _ _ _⟩ | exact ⟨rfl, _, Eq.trans (World.drewN_drewN _ _ _) (congrArg (World.drewN _) (Nat.add_assoc _ _ _))⟩))); try go_wp2_with (first | (go_at_call 16; (with_reducible refine (garderoberef01_Word.calls (wrap64 (Int.tdiv t103 x12_1)) t111 _ A28.out).mono ?_); rintro e w' ⟨rfl, ⟨nd, rfl⟩⟩; (try first | exact ⟨rfl, _, World.drewN_drewN _ _ _⟩ | exact ⟨rfl, _, Eq.trans (World.drewN_drewN _ _ _) (congrArg (World.drewN _) (Nat.add_assoc _ _ _))⟩))))
                                  go_ret3
                                  exact ⟨by first | rfl | (simp; done) | (simp [*]; done), by repeat (first | exact Drawn0.refl _ | apply Drawn0.step)⟩
                                · rw [if_neg c27] at H
                                  have c27b0 : ((wrap64 ((wrap64 (Int.tdiv t103 x12_1)) * x12_1)) == t103) = false := beq_eq_false_iff_ne.mpr c27
                                  have c27b1 : ((wrap64 ((wrap64 (Int.tdiv t103 x12_1)) * x12_1)) != t103) = true := bne_iff_ne.mpr c27
                                  replace H := Option.bind_eq_some_iff.mp H
                                  obtain ⟨t112, A290, H⟩ := H
                                  replace H : (some (t112, 0, 0)) = some (r1, r2, r3) := H
                                  have A29 := Aside0.mk A290
                                  clear A290
                                  simp only [Option.some.injEq, Prod.mk.injEq] at H
                                  obtain ⟨rfl, rfl, rfl⟩ := H
                                  go_wp2_with (first | (go_at_call 16; (with_reducible refine (garderoberef01_Word.calls (wrap64 ((wrap64 (Int.tdiv t103 x12_1)) - 1)) t112 _ A29.out).mono ?_); rintro e w' ⟨rfl, ⟨nd, rfl⟩⟩; (try first | exact ⟨rfl, _, World.drewN_drewN _ _ _⟩ | exact ⟨rfl, _, Eq.trans (World.drewN_drewN _ _ _) (congrArg (World.drewN _) (Nat.add_assoc _ _ _))⟩)))
                                  repeat (go_quiet (first | (go_at_call 16; (with_reducible refine (garderoberef01_Word.calls (wrap64 ((wrap64 (Int.tdiv t103 x12_1)) - 1)) t112 _ A29.out).mono ?_); rintro e w' ⟨rfl, ⟨nd, rfl⟩⟩; (try first | exact ⟨rfl, _, World.drewN_drewN _ _ _⟩ | exact ⟨rfl, _, Eq.trans (World.drewN_drewN _ _ _) (congrArg (World.drewN _) (Nat.add_assoc _ _ _))⟩))); try go_wp2_with (first | (go_at_call 16; (with_reducible refine (garderoberef01_Word.calls (wrap64 ((wrap64 (Int.tdiv t103 x12_1)) - 1)) t112 _ A29.out).mono ?_); rintro e w' ⟨rfl, ⟨nd, rfl⟩⟩; (try first | exact ⟨rfl, _, World.drewN_drewN _ _ _⟩ | exact ⟨rfl, _, Eq.trans (World.drewN_drewN _ _ _) (congrArg (World.drewN _) (Nat.add_assoc _ _ _))⟩))))
                                  go_ret3
                                  exact ⟨by first | rfl | (simp; done) | (simp [*]; done), by repeat (first | exact Drawn0.refl _ | apply Drawn0.step)⟩
                              · rw [if_neg c26] at H
                                have c26b0 : decide (t103 < 0) = false := decide_eq_false c26
                                clear c26
                                replace H := Option.bind_eq_some_iff.mp H
                                obtain ⟨t113, A300, H⟩ := H
                                replace H : (some (t113, 0, 0)) = some (r1, r2, r3) := H
                                have A30 := Aside0.mk A300
                                clear A300
                                simp only [Option.some.injEq, Prod.mk.injEq] at H
                                obtain ⟨rfl, rfl, rfl⟩ := H
                                go_wp2_with (first | (go_at_call 16; (with_reducible refine (garderoberef01_Word.calls (wrap64 (Int.tdiv t103 x12_1)) t113 _ A30.out).mono ?_); rintro e w' ⟨rfl, ⟨nd, rfl⟩⟩; (try first | exact ⟨rfl, _, World.drewN_drewN _ _ _⟩ | exact ⟨rfl, _, Eq.trans (World.drewN_drewN _ _ _) (congrArg (World.drewN _) (Nat.add_assoc _ _ _))⟩)))
                                repeat (go_quiet (first | (go_at_call 16; (with_reducible refine (garderoberef01_Word.calls (wrap64 (Int.tdiv t103 x12_1)) t113 _ A30.out).mono ?_); rintro e w' ⟨rfl, ⟨nd, rfl⟩⟩; (try first | exact ⟨rfl, _, World.drewN_drewN _ _ _⟩ | exact ⟨rfl, _, Eq.trans (World.drewN_drewN _ _ _) (congrArg (World.drewN _) (Nat.add_assoc _ _ _))⟩))); try go_wp2_with (first | (go_at_call 16; (with_reducible refine (garderoberef01_Word.calls (wrap64 (Int.tdiv t103 x12_1)) t113 _ A30.out).mono ?_); rintro e w' ⟨rfl, ⟨nd, rfl⟩⟩; (try first | exact ⟨rfl, _, World.drewN_drewN _ _ _⟩ | exact ⟨rfl, _, Eq.trans (World.drewN_drewN _ _ _) (congrArg (World.drewN _) (Nat.add_assoc _ _ _))⟩))))
                                go_ret3
                                exact ⟨by first | rfl | (simp; done) | (simp [*]; done), by repeat (first | exact Drawn0.refl _ | apply Drawn0.step)⟩
                          · rw [if_neg c24] at H
                            have c24b0 : (a0 == 7) = false := beq_eq_false_iff_ne.mpr c24
                            have c24b1 : (a0 != 7) = true := bne_iff_ne.mpr c24
                            by_cases c31 : a0 = 8
                            · rw [if_pos c31] at H
                              have c31b0 : (a0 == 8) = true := beq_iff_eq.mpr c31
                              have c31b1 : (a0 != 8) = false := bne_eq_false_iff_eq.mpr c31
                              clear c31
                              by_cases c32 : x12_1 = 0
                              · rw [if_pos c32] at H
                                exact absurd H (by simp)
                              · rw [if_neg c32] at H
                                have c32b0 : (x12_1 == 0) = false := beq_eq_false_iff_ne.mpr c32
                                have c32b1 : (x12_1 != 0) = true := bne_iff_ne.mpr c32
                                replace H := Option.bind_eq_some_iff.mp H
                                obtain ⟨t114, A330, H⟩ := H
                                replace H : (some (t114, 0, 0)) = some (r1, r2, r3) := H
                                have A33 := Aside0.mk A330
                                clear A330
                                simp only [Option.some.injEq, Prod.mk.injEq] at H
                                obtain ⟨rfl, rfl, rfl⟩ := H
                                go_wp2_with (first | (go_at_call 16; (with_reducible refine (garderoberef01_Word.calls (wrap64 (Int.tdiv x14_6 x12_1)) t114 _ A33.out).mono ?_); rintro e w' ⟨rfl, ⟨nd, rfl⟩⟩; (try first | exact ⟨rfl, _, World.drewN_drewN _ _ _⟩ | exact ⟨rfl, _, Eq.trans (World.drewN_drewN _ _ _) (congrArg (World.drewN _) (Nat.add_assoc _ _ _))⟩)))
                                repeat (go_quiet (first | (go_at_call 16; (with_reducible refine (garderoberef01_Word.calls (wrap64 (Int.tdiv x14_6 x12_1)) t114 _ A33.out).mono ?_); rintro e w' ⟨rfl, ⟨nd, rfl⟩⟩; (try first | exact ⟨rfl, _, World.drewN_drewN _ _ _⟩ | exact ⟨rfl, _, Eq.trans (World.drewN_drewN _ _ _) (congrArg (World.drewN _) (Nat.add_assoc _ _ _))⟩))); try go_wp2_with (first | (go_at_call 16; (with_reducible refine (garderoberef01_Word.calls (wrap64 (Int.tdiv x14_6 x12_1)) t114 _ A33.out).mono ?_); rintro e w' ⟨rfl, ⟨nd, rfl⟩⟩; (try first | exact ⟨rfl, _, World.drewN_drewN _ _ _⟩ | exact ⟨rfl, _, Eq.trans (World.drewN_drewN _ _ _) (congrArg (World.drewN _) (Nat.add_assoc _ _ _))⟩))))
                                go_ret3
                                exact ⟨by first | rfl | (simp; done) | (simp [*]; done), by repeat (first | exact Drawn0.refl _ | apply Drawn0.step)⟩
                            · rw [if_neg c31] at H
                              have c31b0 : (a0 == 8) = false := beq_eq_false_iff_ne.mpr c31
                              have c31b1 : (a0 != 8) = true := bne_iff_ne.mpr c31
                              have HC34 := Aside0.mk H
                              clear H
                              go_upto_if 111 with (fail)
                              repeat (go_quiet (fail); go_upto_if 111 with (fail))
                              go_cut [111] (fun v111 wc => ∃ (kq : Nat) (x111_33 : Bool), v111 = .bool x111_33 ∧ Aside0 (garderoberef01_Two.j3 kq a0 a1 a2 x111_33 = some (r1, r2, r3)) ∧ Aside0 (kq ≤ kj14) ∧ Drawn0 w wc)
                              case first =>
                                have H := HC34.out
                                clear HC34
                                by_cases c35 : a0 = 9
                                · rw [if_pos c35] at H
                                  have c35b0 : (a0 == 9) = true := beq_iff_eq.mpr c35
                                  have c35b1 : (a0 != 9) = false := bne_eq_false_iff_eq.mpr c35
                                  clear c35
                                  (first | rw [c35b0] | (simp only [i64_w, i32_w]; rw [c35b0]) | skip)
                                  have H' := Aside0.mk H
                                  clear H
                                  go_wp2
                                  repeat (go_quiet (fail); try go_wp2)
                                  go_meet
                                  case rel => exact ⟨_, ((a0 == 9)), (by first | rfl | (simp; done) | (simp [*]; done)), H', ⟨by have := HK1.out; have := HJ6.out; have := HJ14.out; first | omega | exact Nat.le_refl _⟩, by repeat (first | exact Drawn0.refl _ | apply Drawn0.step)⟩
                                · rw [if_neg c35] at H
                                  have c35b0 : (a0 == 9) = false := beq_eq_false_iff_ne.mpr c35
                                  have c35b1 : (a0 != 9) = true := bne_iff_ne.mpr c35
                                  (first | rw [c35b0] | (simp only [i64_w, i32_w]; rw [c35b0]) | skip)
                                  by_cases c36 : a0 = 10
                                  · rw [if_pos c36] at H
                                    have c36b0 : (a0 == 10) = true := beq_iff_eq.mpr c36
                                    have c36b1 : (a0 != 10) = false := bne_eq_false_iff_eq.mpr c36
                                    clear c36
                                    have H' := Aside0.mk H
                                    clear H
                                    go_wp2
                                    repeat (go_quiet (fail); try go_wp2)
                                    go_meet
                                    case rel => exact ⟨_, ((a0 == 10)), (by first | rfl | (simp; done) | (simp [*]; done)), H', ⟨by have := HK1.out; have := HJ6.out; have := HJ14.out; first | omega | exact Nat.le_refl _⟩, by repeat (first | exact Drawn0.refl _ | apply Drawn0.step)⟩
                                  · rw [if_neg c36] at H
                                    have c36b0 : (a0 == 10) = false := beq_eq_false_iff_ne.mpr c36
                                    have c36b1 : (a0 != 10) = true := bne_iff_ne.mpr c36
                                    have H' := Aside0.mk H
                                    clear H
                                    go_wp2
                                    repeat (go_quiet (fail); try go_wp2)
                                    go_meet
                                    case rel => exact ⟨_, ((a0 == 11)), (by first | rfl | (simp; done) | (simp [*]; done)), H', ⟨by have := HK1.out; have := HJ6.out; have := HJ14.out; first | omega | exact Nat.le_refl _⟩, by repeat (first | exact Drawn0.refl _ | apply Drawn0.step)⟩
                              case rest =>
                                clear HC34
                                try clear c1
                                try clear c2
                                try clear p2
                                try clear c3
                                try clear c6
                                try clear c6b0
                                try clear p6
                                try clear c8
                                try clear c8b0
                                try clear c9
                                try clear c9b0
                                try clear c9b1
                                try clear c11
                                try clear c11b0
                                try clear c11b1
                                try clear c13
                                try clear c13b0
                                try clear c13b1
                                try clear c14
                                try clear c16
                                try clear c16b0
                                try clear c16b1
                                try clear c17
                                try clear c18
                                try clear c18b0
                                try clear c18b1
                                try clear c19
                                try clear c19b0
                                try clear c19b1
                                try clear c22
                                try clear c22b0
                                try clear c22b1
                                try clear c24
                                try clear c24b0
                                try clear c24b1
                                try clear c25
                                try clear c25b0
                                try clear c25b1
                                try clear c26
                                try clear c26b0
                                try clear c27
                                try clear c27b0
                                try clear c27b1
                                try clear c31
                                try clear c31b0
                                try clear c31b1
                                try clear c32
                                try clear c32b0
                                try clear c32b1
                                try clear c35
                                try clear c35b0
                                try clear c35b1
                                try clear c36
                                try clear c36b0
                                try clear c36b1
                                try clear p2
                                try clear p6
                                obtain ⟨kq, x111_33, rfl, HA, HJ33, ⟨mc33, rfl⟩⟩ := hcut
                                cases kq with
                                | zero => exact absurd HA.out (by simp [garderoberef01_Two.j3])
                                | succ kj33 =>
                                  have H := HA.out
                                  clear HA
                                  simp only [garderoberef01_Two.j3] at H
                                  by_cases c37 : x111_33 = true
                                  · subst c37
                                    have H1 : (garderoberef01_Two.l1 kj33 a0 a1 a2 0 0) = some (r1, r2, r3) := by rw [if_pos rfl] at H; exact H
                                    clear H
                                    have H := H1
                                    clear H1
                                    have H' := Aside0.mk H
                                    clear H
                                    go_wp2
                                    repeat (go_quiet (fail); try go_wp2)
                                    go_loopg [17, 18] kj33 (fun kq v17 v18 w' => ∃ (x17_5 : Int) (x18_5 : Int), v17 = .int .i64 x17_5 ∧ v18 = .int .i64 x18_5 ∧ Aside0 (garderoberef01_Two.l1 kq a0 a1 a2 x17_5 x18_5 = some (r1, r2, r3)) ∧ Aside0 (kq ≤ kj33) ∧ Drawn0 w w')
                                    case atStart => exact ⟨(0), (0), (by first | rfl | (simp; done) | (simp [*]; done)), (by first | rfl | (simp; done) | (simp [*]; done)), H', ⟨Nat.le_refl _⟩, by repeat (first | exact Drawn0.refl _ | apply Drawn0.step)⟩
                                    case round =>
                                      clear H'
                                      try clear c1
                                      try clear c2
                                      try clear p2
                                      try clear c3
                                      try clear c6
                                      try clear c6b0
                                      try clear p6
                                      try clear c8
                                      try clear c8b0
                                      try clear c9
                                      try clear c9b0
                                      try clear c9b1
                                      try clear c11
                                      try clear c11b0
                                      try clear c11b1
                                      try clear c13
                                      try clear c13b0
                                      try clear c13b1
                                      try clear c14
                                      try clear c16
                                      try clear c16b0
                                      try clear c16b1
                                      try clear c17
                                      try clear c18
                                      try clear c18b0
                                      try clear c18b1
                                      try clear c19
                                      try clear c19b0
                                      try clear c19b1
                                      try clear c22
                                      try clear c22b0
                                      try clear c22b1
                                      try clear c24
                                      try clear c24b0
                                      try clear c24b1
                                      try clear c25
                                      try clear c25b0
                                      try clear c25b1
                                      try clear c26
                                      try clear c26b0
                                      try clear c27
                                      try clear c27b0
                                      try clear c27b1
                                      try clear c31
                                      try clear c31b0
                                      try clear c31b1
                                      try clear c32
                                      try clear c32b0
                                      try clear c32b1
                                      try clear c33
                                      try clear c35
                                      try clear c35b0
                                      try clear c35b1
                                      try clear c36
                                      try clear c36b0
                                      try clear c36b1
                                      try clear c37
                                      try clear p2
                                      try clear p6
                                      obtain ⟨x17_5, x18_5, rfl, rfl, HA, HK5, ⟨m5, rfl⟩⟩ := hrel
                                      cases gk with
                                      | zero => exact absurd HA.out (by simp [garderoberef01_Two.l1])
                                      | succ k5 =>
                                        have H := HA.out
                                        clear HA
                                        simp only [garderoberef01_Two.l1] at H
                                        by_cases c38 : x18_5 < 16
                                        · rw [if_pos c38] at H
                                          have c38b0 : decide (x18_5 < 16) = true := decide_eq_true c38
                                          clear c38
                                          have H' := Aside0.mk H
                                          clear H
                                          go_wp2
                                          repeat (go_quiet (fail); try go_wp2)
                                          go_loopg [19, 20] k5 (fun kq v19 v20 w' => ∃ (x19_6 : Int) (x20_6 : Int), v19 = .int .i64 x19_6 ∧ v20 = .int .i64 x20_6 ∧ Aside0 (garderoberef01_Two.l2 kq a0 a1 a2 x17_5 x18_5 x19_6 x20_6 = some (r1, r2, r3)) ∧ Aside0 (kq ≤ k5) ∧ Drawn0 w w')
                                          case atStart => exact ⟨(1), (0), (by first | rfl | (simp; done) | (simp [*]; done)), (by first | rfl | (simp; done) | (simp [*]; done)), H', ⟨Nat.le_refl _⟩, by repeat (first | exact Drawn0.refl _ | apply Drawn0.step)⟩
                                          case round =>
                                            clear H'
                                            try clear c1
                                            try clear c2
                                            try clear p2
                                            try clear c3
                                            try clear c6
                                            try clear c6b0
                                            try clear p6
                                            try clear c8
                                            try clear c8b0
                                            try clear c9
                                            try clear c9b0
                                            try clear c9b1
                                            try clear c11
                                            try clear c11b0
                                            try clear c11b1
                                            try clear c13
                                            try clear c13b0
                                            try clear c13b1
                                            try clear c14
                                            try clear c16
                                            try clear c16b0
                                            try clear c16b1
                                            try clear c17
                                            try clear c18
                                            try clear c18b0
                                            try clear c18b1
                                            try clear c19
                                            try clear c19b0
                                            try clear c19b1
                                            try clear c22
                                            try clear c22b0
                                            try clear c22b1
                                            try clear c24
                                            try clear c24b0
                                            try clear c24b1
                                            try clear c25
                                            try clear c25b0
                                            try clear c25b1
                                            try clear c26
                                            try clear c26b0
                                            try clear c27
                                            try clear c27b0
                                            try clear c27b1
                                            try clear c31
                                            try clear c31b0
                                            try clear c31b1
                                            try clear c32
                                            try clear c32b0
                                            try clear c32b1
                                            try clear c33
                                            try clear c35
                                            try clear c35b0
                                            try clear c35b1
                                            try clear c36
                                            try clear c36b0
                                            try clear c36b1
                                            try clear c37
                                            try clear c38
                                            try clear c38b0
                                            try clear p2
                                            try clear p6
                                            obtain ⟨x19_6, x20_6, rfl, rfl, HA, HK6, ⟨m6, rfl⟩⟩ := hrel
                                            cases gk with
                                            | zero => exact absurd HA.out (by simp [garderoberef01_Two.l2])
                                            | succ k6 =>
                                              have H := HA.out
                                              clear HA
                                              simp only [garderoberef01_Two.l2] at H
                                              by_cases c39 : x20_6 < x18_5
                                              · rw [if_pos c39] at H
                                                have c39b0 : decide (x20_6 < x18_5) = true := decide_eq_true c39
                                                clear c39
                                                have H' := Aside0.mk H
                                                clear H
                                                go_wp2
                                                repeat (go_quiet (fail); try go_wp2)
                                                go_roundg k6
                                                case measure => have := HK1.out; have := HJ6.out; have := HJ14.out; have := HJ33.out; have := HK5.out; have := HK6.out; omega
                                                case rel => exact ⟨(wrap64 (x19_6 * 2)), (wrap64 (x20_6 + 1)), (by first | rfl | (simp; done) | (simp [*]; done)), (by first | rfl | (simp; done) | (simp [*]; done)), H', ⟨by have := HK1.out; have := HJ6.out; have := HJ14.out; have := HJ33.out; have := HK5.out; have := HK6.out; omega⟩, by repeat (first | exact Drawn0.refl _ | apply Drawn0.step)⟩
                                              · rw [if_neg c39] at H
                                                have c39b0 : decide (x20_6 < x18_5) = false := decide_eq_false c39
                                                clear c39
                                                by_cases c40 : x19_6 = 0
                                                · rw [if_pos c40] at H
                                                  exact absurd H (by simp)
                                                · rw [if_neg c40] at H
                                                  have c40b0 : (x19_6 == 0) = false := beq_eq_false_iff_ne.mpr c40
                                                  have c40b1 : (x19_6 != 0) = true := bne_iff_ne.mpr c40
                                                  by_cases c41 : a0 = 9
                                                  · rw [if_pos c41] at H
                                                    have c41b0 : (a0 == 9) = true := beq_iff_eq.mpr c41
                                                    have c41b1 : (a0 != 9) = false := bne_eq_false_iff_eq.mpr c41
                                                    clear c41
                                                    by_cases c42 : (wrap64 ((Int.tmod (wrap64 (Int.tdiv (wrap64 (a1)) x19_6)) 2) + (Int.tmod (wrap64 (Int.tdiv (wrap64 (a2)) x19_6)) 2))) = 2
                                                    · rw [if_pos c42] at H
                                                      have c42b0 : ((wrap64 ((Int.tmod (wrap64 (Int.tdiv (wrap64 (a1)) x19_6)) 2) + (Int.tmod (wrap64 (Int.tdiv (wrap64 (a2)) x19_6)) 2))) == 2) = true := beq_iff_eq.mpr c42
                                                      have c42b1 : ((wrap64 ((Int.tmod (wrap64 (Int.tdiv (wrap64 (a1)) x19_6)) 2) + (Int.tmod (wrap64 (Int.tdiv (wrap64 (a2)) x19_6)) 2))) != 2) = false := bne_eq_false_iff_eq.mpr c42
                                                      clear c42
                                                      have H' := Aside0.mk H
                                                      clear H
                                                      go_wp2
                                                      repeat (go_quiet (fail); try go_wp2)
                                                      go_roundg k6
                                                      case measure => have := HK1.out; have := HJ6.out; have := HJ14.out; have := HJ33.out; have := HK5.out; have := HK6.out; omega
                                                      case rel => exact ⟨(wrap64 (x17_5 + x19_6)), (wrap64 (x18_5 + 1)), (by first | rfl | (simp; done) | (simp [*]; done)), (by first | rfl | (simp; done) | (simp [*]; done)), H', ⟨by have := HK1.out; have := HJ6.out; have := HJ14.out; have := HJ33.out; have := HK5.out; have := HK6.out; omega⟩, by repeat (first | exact Drawn0.refl _ | apply Drawn0.step)⟩
                                                    · rw [if_neg c42] at H
                                                      have c42b0 : ((wrap64 ((Int.tmod (wrap64 (Int.tdiv (wrap64 (a1)) x19_6)) 2) + (Int.tmod (wrap64 (Int.tdiv (wrap64 (a2)) x19_6)) 2))) == 2) = false := beq_eq_false_iff_ne.mpr c42
                                                      have c42b1 : ((wrap64 ((Int.tmod (wrap64 (Int.tdiv (wrap64 (a1)) x19_6)) 2) + (Int.tmod (wrap64 (Int.tdiv (wrap64 (a2)) x19_6)) 2))) != 2) = true := bne_iff_ne.mpr c42
                                                      by_cases c43 : a0 = 10
                                                      · rw [if_pos c43] at H
                                                        have c43b0 : (a0 == 10) = true := beq_iff_eq.mpr c43
                                                        have c43b1 : (a0 != 10) = false := bne_eq_false_iff_eq.mpr c43
                                                        clear c43
                                                        by_cases c44 : (wrap64 ((Int.tmod (wrap64 (Int.tdiv (wrap64 (a1)) x19_6)) 2) + (Int.tmod (wrap64 (Int.tdiv (wrap64 (a2)) x19_6)) 2))) > 0
                                                        · rw [if_pos c44] at H
                                                          have c44b0 : decide (0 < (wrap64 ((Int.tmod (wrap64 (Int.tdiv (wrap64 (a1)) x19_6)) 2) + (Int.tmod (wrap64 (Int.tdiv (wrap64 (a2)) x19_6)) 2)))) = true := decide_eq_true c44
                                                          clear c44
                                                          have H' := Aside0.mk H
                                                          clear H
                                                          go_wp2
                                                          repeat (go_quiet (fail); try go_wp2)
                                                          go_roundg k6
                                                          case measure => have := HK1.out; have := HJ6.out; have := HJ14.out; have := HJ33.out; have := HK5.out; have := HK6.out; omega
                                                          case rel => exact ⟨(wrap64 (x17_5 + x19_6)), (wrap64 (x18_5 + 1)), (by first | rfl | (simp; done) | (simp [*]; done)), (by first | rfl | (simp; done) | (simp [*]; done)), H', ⟨by have := HK1.out; have := HJ6.out; have := HJ14.out; have := HJ33.out; have := HK5.out; have := HK6.out; omega⟩, by repeat (first | exact Drawn0.refl _ | apply Drawn0.step)⟩
                                                        · rw [if_neg c44] at H
                                                          have c44b0 : decide (0 < (wrap64 ((Int.tmod (wrap64 (Int.tdiv (wrap64 (a1)) x19_6)) 2) + (Int.tmod (wrap64 (Int.tdiv (wrap64 (a2)) x19_6)) 2)))) = false := decide_eq_false c44
                                                          clear c44
                                                          by_cases c45 : a0 = 11
                                                          · rw [if_pos c45] at H
                                                            have c45b0 : (a0 == 11) = true := beq_iff_eq.mpr c45
                                                            have c45b1 : (a0 != 11) = false := bne_eq_false_iff_eq.mpr c45
                                                            clear c45
                                                            by_cases c46 : (wrap64 ((Int.tmod (wrap64 (Int.tdiv (wrap64 (a1)) x19_6)) 2) + (Int.tmod (wrap64 (Int.tdiv (wrap64 (a2)) x19_6)) 2))) = 1
                                                            · rw [if_pos c46] at H
                                                              have c46b0 : ((wrap64 ((Int.tmod (wrap64 (Int.tdiv (wrap64 (a1)) x19_6)) 2) + (Int.tmod (wrap64 (Int.tdiv (wrap64 (a2)) x19_6)) 2))) == 1) = true := beq_iff_eq.mpr c46
                                                              have c46b1 : ((wrap64 ((Int.tmod (wrap64 (Int.tdiv (wrap64 (a1)) x19_6)) 2) + (Int.tmod (wrap64 (Int.tdiv (wrap64 (a2)) x19_6)) 2))) != 1) = false := bne_eq_false_iff_eq.mpr c46
                                                              clear c46
                                                              have H' := Aside0.mk H
                                                              clear H
                                                              go_wp2
                                                              repeat (go_quiet (fail); try go_wp2)
                                                              go_roundg k6
                                                              case measure => have := HK1.out; have := HJ6.out; have := HJ14.out; have := HJ33.out; have := HK5.out; have := HK6.out; omega
                                                              case rel => exact ⟨(wrap64 (x17_5 + x19_6)), (wrap64 (x18_5 + 1)), (by first | rfl | (simp; done) | (simp [*]; done)), (by first | rfl | (simp; done) | (simp [*]; done)), H', ⟨by have := HK1.out; have := HJ6.out; have := HJ14.out; have := HJ33.out; have := HK5.out; have := HK6.out; omega⟩, by repeat (first | exact Drawn0.refl _ | apply Drawn0.step)⟩
                                                            · rw [if_neg c46] at H
                                                              have c46b0 : ((wrap64 ((Int.tmod (wrap64 (Int.tdiv (wrap64 (a1)) x19_6)) 2) + (Int.tmod (wrap64 (Int.tdiv (wrap64 (a2)) x19_6)) 2))) == 1) = false := beq_eq_false_iff_ne.mpr c46
                                                              have c46b1 : ((wrap64 ((Int.tmod (wrap64 (Int.tdiv (wrap64 (a1)) x19_6)) 2) + (Int.tmod (wrap64 (Int.tdiv (wrap64 (a2)) x19_6)) 2))) != 1) = true := bne_iff_ne.mpr c46
                                                              have H' := Aside0.mk H
                                                              clear H
                                                              go_wp2
                                                              repeat (go_quiet (fail); try go_wp2)
                                                              go_roundg k6
                                                              case measure => have := HK1.out; have := HJ6.out; have := HJ14.out; have := HJ33.out; have := HK5.out; have := HK6.out; omega
                                                              case rel => exact ⟨(x17_5), (wrap64 (x18_5 + 1)), (by first | rfl | (simp; done) | (simp [*]; done)), (by first | rfl | (simp; done) | (simp [*]; done)), H', ⟨by have := HK1.out; have := HJ6.out; have := HJ14.out; have := HJ33.out; have := HK5.out; have := HK6.out; omega⟩, by repeat (first | exact Drawn0.refl _ | apply Drawn0.step)⟩
                                                          · rw [if_neg c45] at H
                                                            have c45b0 : (a0 == 11) = false := beq_eq_false_iff_ne.mpr c45
                                                            have c45b1 : (a0 != 11) = true := bne_iff_ne.mpr c45
                                                            have H' := Aside0.mk H
                                                            clear H
                                                            go_wp2
                                                            repeat (go_quiet (fail); try go_wp2)
                                                            go_roundg k6
                                                            case measure => have := HK1.out; have := HJ6.out; have := HJ14.out; have := HJ33.out; have := HK5.out; have := HK6.out; omega
                                                            case rel => exact ⟨(x17_5), (wrap64 (x18_5 + 1)), (by first | rfl | (simp; done) | (simp [*]; done)), (by first | rfl | (simp; done) | (simp [*]; done)), H', ⟨by have := HK1.out; have := HJ6.out; have := HJ14.out; have := HJ33.out; have := HK5.out; have := HK6.out; omega⟩, by repeat (first | exact Drawn0.refl _ | apply Drawn0.step)⟩
                                                      · rw [if_neg c43] at H
                                                        have c43b0 : (a0 == 10) = false := beq_eq_false_iff_ne.mpr c43
                                                        have c43b1 : (a0 != 10) = true := bne_iff_ne.mpr c43
                                                        by_cases c47 : a0 = 11
                                                        · rw [if_pos c47] at H
                                                          have c47b0 : (a0 == 11) = true := beq_iff_eq.mpr c47
                                                          have c47b1 : (a0 != 11) = false := bne_eq_false_iff_eq.mpr c47
                                                          clear c47
                                                          by_cases c48 : (wrap64 ((Int.tmod (wrap64 (Int.tdiv (wrap64 (a1)) x19_6)) 2) + (Int.tmod (wrap64 (Int.tdiv (wrap64 (a2)) x19_6)) 2))) = 1
                                                          · rw [if_pos c48] at H
                                                            have c48b0 : ((wrap64 ((Int.tmod (wrap64 (Int.tdiv (wrap64 (a1)) x19_6)) 2) + (Int.tmod (wrap64 (Int.tdiv (wrap64 (a2)) x19_6)) 2))) == 1) = true := beq_iff_eq.mpr c48
                                                            have c48b1 : ((wrap64 ((Int.tmod (wrap64 (Int.tdiv (wrap64 (a1)) x19_6)) 2) + (Int.tmod (wrap64 (Int.tdiv (wrap64 (a2)) x19_6)) 2))) != 1) = false := bne_eq_false_iff_eq.mpr c48
                                                            clear c48
                                                            have H' := Aside0.mk H
                                                            clear H
                                                            go_wp2
                                                            repeat (go_quiet (fail); try go_wp2)
                                                            go_roundg k6
                                                            case measure => have := HK1.out; have := HJ6.out; have := HJ14.out; have := HJ33.out; have := HK5.out; have := HK6.out; omega
                                                            case rel => exact ⟨(wrap64 (x17_5 + x19_6)), (wrap64 (x18_5 + 1)), (by first | rfl | (simp; done) | (simp [*]; done)), (by first | rfl | (simp; done) | (simp [*]; done)), H', ⟨by have := HK1.out; have := HJ6.out; have := HJ14.out; have := HJ33.out; have := HK5.out; have := HK6.out; omega⟩, by repeat (first | exact Drawn0.refl _ | apply Drawn0.step)⟩
                                                          · rw [if_neg c48] at H
                                                            have c48b0 : ((wrap64 ((Int.tmod (wrap64 (Int.tdiv (wrap64 (a1)) x19_6)) 2) + (Int.tmod (wrap64 (Int.tdiv (wrap64 (a2)) x19_6)) 2))) == 1) = false := beq_eq_false_iff_ne.mpr c48
                                                            have c48b1 : ((wrap64 ((Int.tmod (wrap64 (Int.tdiv (wrap64 (a1)) x19_6)) 2) + (Int.tmod (wrap64 (Int.tdiv (wrap64 (a2)) x19_6)) 2))) != 1) = true := bne_iff_ne.mpr c48
                                                            have H' := Aside0.mk H
                                                            clear H
                                                            go_wp2
                                                            repeat (go_quiet (fail); try go_wp2)
                                                            go_roundg k6
                                                            case measure => have := HK1.out; have := HJ6.out; have := HJ14.out; have := HJ33.out; have := HK5.out; have := HK6.out; omega
                                                            case rel => exact ⟨(x17_5), (wrap64 (x18_5 + 1)), (by first | rfl | (simp; done) | (simp [*]; done)), (by first | rfl | (simp; done) | (simp [*]; done)), H', ⟨by have := HK1.out; have := HJ6.out; have := HJ14.out; have := HJ33.out; have := HK5.out; have := HK6.out; omega⟩, by repeat (first | exact Drawn0.refl _ | apply Drawn0.step)⟩
                                                        · rw [if_neg c47] at H
                                                          have c47b0 : (a0 == 11) = false := beq_eq_false_iff_ne.mpr c47
                                                          have c47b1 : (a0 != 11) = true := bne_iff_ne.mpr c47
                                                          have H' := Aside0.mk H
                                                          clear H
                                                          go_wp2
                                                          repeat (go_quiet (fail); try go_wp2)
                                                          go_roundg k6
                                                          case measure => have := HK1.out; have := HJ6.out; have := HJ14.out; have := HJ33.out; have := HK5.out; have := HK6.out; omega
                                                          case rel => exact ⟨(x17_5), (wrap64 (x18_5 + 1)), (by first | rfl | (simp; done) | (simp [*]; done)), (by first | rfl | (simp; done) | (simp [*]; done)), H', ⟨by have := HK1.out; have := HJ6.out; have := HJ14.out; have := HJ33.out; have := HK5.out; have := HK6.out; omega⟩, by repeat (first | exact Drawn0.refl _ | apply Drawn0.step)⟩
                                                  · rw [if_neg c41] at H
                                                    have c41b0 : (a0 == 9) = false := beq_eq_false_iff_ne.mpr c41
                                                    have c41b1 : (a0 != 9) = true := bne_iff_ne.mpr c41
                                                    by_cases c49 : a0 = 10
                                                    · rw [if_pos c49] at H
                                                      have c49b0 : (a0 == 10) = true := beq_iff_eq.mpr c49
                                                      have c49b1 : (a0 != 10) = false := bne_eq_false_iff_eq.mpr c49
                                                      clear c49
                                                      by_cases c50 : (wrap64 ((Int.tmod (wrap64 (Int.tdiv (wrap64 (a1)) x19_6)) 2) + (Int.tmod (wrap64 (Int.tdiv (wrap64 (a2)) x19_6)) 2))) > 0
                                                      · rw [if_pos c50] at H
                                                        have c50b0 : decide (0 < (wrap64 ((Int.tmod (wrap64 (Int.tdiv (wrap64 (a1)) x19_6)) 2) + (Int.tmod (wrap64 (Int.tdiv (wrap64 (a2)) x19_6)) 2)))) = true := decide_eq_true c50
                                                        clear c50
                                                        have H' := Aside0.mk H
                                                        clear H
                                                        go_wp2
                                                        repeat (go_quiet (fail); try go_wp2)
                                                        go_roundg k6
                                                        case measure => have := HK1.out; have := HJ6.out; have := HJ14.out; have := HJ33.out; have := HK5.out; have := HK6.out; omega
                                                        case rel => exact ⟨(wrap64 (x17_5 + x19_6)), (wrap64 (x18_5 + 1)), (by first | rfl | (simp; done) | (simp [*]; done)), (by first | rfl | (simp; done) | (simp [*]; done)), H', ⟨by have := HK1.out; have := HJ6.out; have := HJ14.out; have := HJ33.out; have := HK5.out; have := HK6.out; omega⟩, by repeat (first | exact Drawn0.refl _ | apply Drawn0.step)⟩
                                                      · rw [if_neg c50] at H
                                                        have c50b0 : decide (0 < (wrap64 ((Int.tmod (wrap64 (Int.tdiv (wrap64 (a1)) x19_6)) 2) + (Int.tmod (wrap64 (Int.tdiv (wrap64 (a2)) x19_6)) 2)))) = false := decide_eq_false c50
                                                        clear c50
                                                        by_cases c51 : a0 = 11
                                                        · rw [if_pos c51] at H
                                                          have c51b0 : (a0 == 11) = true := beq_iff_eq.mpr c51
                                                          have c51b1 : (a0 != 11) = false := bne_eq_false_iff_eq.mpr c51
                                                          clear c51
                                                          by_cases c52 : (wrap64 ((Int.tmod (wrap64 (Int.tdiv (wrap64 (a1)) x19_6)) 2) + (Int.tmod (wrap64 (Int.tdiv (wrap64 (a2)) x19_6)) 2))) = 1
                                                          · rw [if_pos c52] at H
                                                            have c52b0 : ((wrap64 ((Int.tmod (wrap64 (Int.tdiv (wrap64 (a1)) x19_6)) 2) + (Int.tmod (wrap64 (Int.tdiv (wrap64 (a2)) x19_6)) 2))) == 1) = true := beq_iff_eq.mpr c52
                                                            have c52b1 : ((wrap64 ((Int.tmod (wrap64 (Int.tdiv (wrap64 (a1)) x19_6)) 2) + (Int.tmod (wrap64 (Int.tdiv (wrap64 (a2)) x19_6)) 2))) != 1) = false := bne_eq_false_iff_eq.mpr c52
                                                            clear c52
                                                            have H' := Aside0.mk H
                                                            clear H
                                                            go_wp2
                                                            repeat (go_quiet (fail); try go_wp2)
                                                            go_roundg k6
                                                            case measure => have := HK1.out; have := HJ6.out; have := HJ14.out; have := HJ33.out; have := HK5.out; have := HK6.out; omega
                                                            case rel => exact ⟨(wrap64 (x17_5 + x19_6)), (wrap64 (x18_5 + 1)), (by first | rfl | (simp; done) | (simp [*]; done)), (by first | rfl | (simp; done) | (simp [*]; done)), H', ⟨by have := HK1.out; have := HJ6.out; have := HJ14.out; have := HJ33.out; have := HK5.out; have := HK6.out; omega⟩, by repeat (first | exact Drawn0.refl _ | apply Drawn0.step)⟩
                                                          · rw [if_neg c52] at H
                                                            have c52b0 : ((wrap64 ((Int.tmod (wrap64 (Int.tdiv (wrap64 (a1)) x19_6)) 2) + (Int.tmod (wrap64 (Int.tdiv (wrap64 (a2)) x19_6)) 2))) == 1) = false := beq_eq_false_iff_ne.mpr c52
                                                            have c52b1 : ((wrap64 ((Int.tmod (wrap64 (Int.tdiv (wrap64 (a1)) x19_6)) 2) + (Int.tmod (wrap64 (Int.tdiv (wrap64 (a2)) x19_6)) 2))) != 1) = true := bne_iff_ne.mpr c52
                                                            have H' := Aside0.mk H
                                                            clear H
                                                            go_wp2
                                                            repeat (go_quiet (fail); try go_wp2)
                                                            go_roundg k6
                                                            case measure => have := HK1.out; have := HJ6.out; have := HJ14.out; have := HJ33.out; have := HK5.out; have := HK6.out; omega
                                                            case rel => exact ⟨(x17_5), (wrap64 (x18_5 + 1)), (by first | rfl | (simp; done) | (simp [*]; done)), (by first | rfl | (simp; done) | (simp [*]; done)), H', ⟨by have := HK1.out; have := HJ6.out; have := HJ14.out; have := HJ33.out; have := HK5.out; have := HK6.out; omega⟩, by repeat (first | exact Drawn0.refl _ | apply Drawn0.step)⟩
                                                        · rw [if_neg c51] at H
                                                          have c51b0 : (a0 == 11) = false := beq_eq_false_iff_ne.mpr c51
                                                          have c51b1 : (a0 != 11) = true := bne_iff_ne.mpr c51
                                                          have H' := Aside0.mk H
                                                          clear H
                                                          go_wp2
                                                          repeat (go_quiet (fail); try go_wp2)
                                                          go_roundg k6
                                                          case measure => have := HK1.out; have := HJ6.out; have := HJ14.out; have := HJ33.out; have := HK5.out; have := HK6.out; omega
                                                          case rel => exact ⟨(x17_5), (wrap64 (x18_5 + 1)), (by first | rfl | (simp; done) | (simp [*]; done)), (by first | rfl | (simp; done) | (simp [*]; done)), H', ⟨by have := HK1.out; have := HJ6.out; have := HJ14.out; have := HJ33.out; have := HK5.out; have := HK6.out; omega⟩, by repeat (first | exact Drawn0.refl _ | apply Drawn0.step)⟩
                                                    · rw [if_neg c49] at H
                                                      have c49b0 : (a0 == 10) = false := beq_eq_false_iff_ne.mpr c49
                                                      have c49b1 : (a0 != 10) = true := bne_iff_ne.mpr c49
                                                      by_cases c53 : a0 = 11
                                                      · rw [if_pos c53] at H
                                                        have c53b0 : (a0 == 11) = true := beq_iff_eq.mpr c53
                                                        have c53b1 : (a0 != 11) = false := bne_eq_false_iff_eq.mpr c53
                                                        clear c53
                                                        by_cases c54 : (wrap64 ((Int.tmod (wrap64 (Int.tdiv (wrap64 (a1)) x19_6)) 2) + (Int.tmod (wrap64 (Int.tdiv (wrap64 (a2)) x19_6)) 2))) = 1
                                                        · rw [if_pos c54] at H
                                                          have c54b0 : ((wrap64 ((Int.tmod (wrap64 (Int.tdiv (wrap64 (a1)) x19_6)) 2) + (Int.tmod (wrap64 (Int.tdiv (wrap64 (a2)) x19_6)) 2))) == 1) = true := beq_iff_eq.mpr c54
                                                          have c54b1 : ((wrap64 ((Int.tmod (wrap64 (Int.tdiv (wrap64 (a1)) x19_6)) 2) + (Int.tmod (wrap64 (Int.tdiv (wrap64 (a2)) x19_6)) 2))) != 1) = false := bne_eq_false_iff_eq.mpr c54
                                                          clear c54
                                                          have H' := Aside0.mk H
                                                          clear H
                                                          go_wp2
                                                          repeat (go_quiet (fail); try go_wp2)
                                                          go_roundg k6
                                                          case measure => have := HK1.out; have := HJ6.out; have := HJ14.out; have := HJ33.out; have := HK5.out; have := HK6.out; omega
                                                          case rel => exact ⟨(wrap64 (x17_5 + x19_6)), (wrap64 (x18_5 + 1)), (by first | rfl | (simp; done) | (simp [*]; done)), (by first | rfl | (simp; done) | (simp [*]; done)), H', ⟨by have := HK1.out; have := HJ6.out; have := HJ14.out; have := HJ33.out; have := HK5.out; have := HK6.out; omega⟩, by repeat (first | exact Drawn0.refl _ | apply Drawn0.step)⟩
                                                        · rw [if_neg c54] at H
                                                          have c54b0 : ((wrap64 ((Int.tmod (wrap64 (Int.tdiv (wrap64 (a1)) x19_6)) 2) + (Int.tmod (wrap64 (Int.tdiv (wrap64 (a2)) x19_6)) 2))) == 1) = false := beq_eq_false_iff_ne.mpr c54
                                                          have c54b1 : ((wrap64 ((Int.tmod (wrap64 (Int.tdiv (wrap64 (a1)) x19_6)) 2) + (Int.tmod (wrap64 (Int.tdiv (wrap64 (a2)) x19_6)) 2))) != 1) = true := bne_iff_ne.mpr c54
                                                          have H' := Aside0.mk H
                                                          clear H
                                                          go_wp2
                                                          repeat (go_quiet (fail); try go_wp2)
                                                          go_roundg k6
                                                          case measure => have := HK1.out; have := HJ6.out; have := HJ14.out; have := HJ33.out; have := HK5.out; have := HK6.out; omega
                                                          case rel => exact ⟨(x17_5), (wrap64 (x18_5 + 1)), (by first | rfl | (simp; done) | (simp [*]; done)), (by first | rfl | (simp; done) | (simp [*]; done)), H', ⟨by have := HK1.out; have := HJ6.out; have := HJ14.out; have := HJ33.out; have := HK5.out; have := HK6.out; omega⟩, by repeat (first | exact Drawn0.refl _ | apply Drawn0.step)⟩
                                                      · rw [if_neg c53] at H
                                                        have c53b0 : (a0 == 11) = false := beq_eq_false_iff_ne.mpr c53
                                                        have c53b1 : (a0 != 11) = true := bne_iff_ne.mpr c53
                                                        have H' := Aside0.mk H
                                                        clear H
                                                        go_wp2
                                                        repeat (go_quiet (fail); try go_wp2)
                                                        go_roundg k6
                                                        case measure => have := HK1.out; have := HJ6.out; have := HJ14.out; have := HJ33.out; have := HK5.out; have := HK6.out; omega
                                                        case rel => exact ⟨(x17_5), (wrap64 (x18_5 + 1)), (by first | rfl | (simp; done) | (simp [*]; done)), (by first | rfl | (simp; done) | (simp [*]; done)), H', ⟨by have := HK1.out; have := HJ6.out; have := HJ14.out; have := HJ33.out; have := HK5.out; have := HK6.out; omega⟩, by repeat (first | exact Drawn0.refl _ | apply Drawn0.step)⟩
                                        · rw [if_neg c38] at H
                                          have c38b0 : decide (x18_5 < 16) = false := decide_eq_false c38
                                          clear c38
                                          simp only [Option.some.injEq, Prod.mk.injEq] at H
                                          obtain ⟨rfl, rfl, rfl⟩ := H
                                          go_wp2
                                          repeat (go_quiet (fail); try go_wp2)
                                          go_ret3
                                          exact ⟨by first | rfl | (simp; done) | (simp [*]; done), by repeat (first | exact Drawn0.refl _ | apply Drawn0.step)⟩
                                  · replace c37 := Bool.eq_false_iff.mpr c37
                                    subst c37
                                    have H1 : (some (0, 0, 2)) = some (r1, r2, r3) := by rw [if_neg (show ¬ (false = true) by decide)] at H; exact H
                                    clear H
                                    have H := H1
                                    clear H1
                                    simp only [Option.some.injEq, Prod.mk.injEq] at H
                                    obtain ⟨rfl, rfl, rfl⟩ := H
                                    go_wp2
                                    repeat (go_quiet (fail); try go_wp2)
                                    go_ret3
                                    exact ⟨by first | rfl | (simp; done) | (simp [*]; done), by repeat (first | exact Drawn0.refl _ | apply Drawn0.step)⟩

end Go.Proofs.Ythlneoocmkknkaa.PWordsTwo
