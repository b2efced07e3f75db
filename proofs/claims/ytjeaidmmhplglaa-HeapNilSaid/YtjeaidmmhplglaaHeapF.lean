/- The walks of heap: heads, slots. -/
import Derived.Test.YtjeaidmmhplglaaHeapE
set_option linter.unusedVariables false
set_option linter.unusedSimpArgs false
namespace Go.Proofs.Ytjeaidmmhplglaa.Nvm
open Go.RowKit Go.Proofs.Ytjeaidmmhplglaa.Base
set_option maxHeartbeats 400000 in
set_option maxRecDepth 100000 in
theorem htxn_any (w : World) (H T : Nat) (c0 : w.cell? ⟨H, 0, none⟩ = some (.pointer (some ⟨T, 0, none⟩))) :
    Calls Try.prog 16 #[.pointer (some ⟨H, 0, none⟩)] w fun e w' => e = .returned (.pointer (some ⟨T, 0, none⟩)) ∧ w = w' := by
  go_enter Try.func16, Try.ntmps16
  go_wp2_with (go_at_call 24; refine (hoff_some _ _ _ c0).mono ?_; rintro e w' ⟨rfl, rfl⟩)
  go_ret
  exact ⟨rfl, rfl⟩
set_option maxHeartbeats 400000 in
set_option maxRecDepth 100000 in
theorem hram_any (w : World) (H T R : Nat) (c0 : w.cell? ⟨H, 0, none⟩ = some (.pointer (some ⟨T, 0, none⟩))) (c1 : w.cell? ⟨H, 1, none⟩ = some (.pointer (some ⟨R, 0, none⟩))) :
    Calls Try.prog 17 #[.pointer (some ⟨H, 0, none⟩)] w fun e w' => e = .returned (.pointer (some ⟨R, 0, none⟩)) ∧ w = w' := by
  go_enter Try.func17, Try.ntmps17
  go_wp2_with (go_at_call 24; refine (hoff_some _ _ _ c0).mono ?_; rintro e w' ⟨rfl, rfl⟩)
  go_ret
  exact ⟨rfl, rfl⟩
/-- How many bytes a type's entry has. -/
def tsz (k : Int) : Int := if k = 5 ∨ k = 6 then 1 else if k = 7 ∨ k = 8 then 2 else 0
set_option maxHeartbeats 800000 in
set_option maxRecDepth 100000 in
theorem tsize_any (w : World) (k c : Int) :
    Calls Try.prog 56 #[.agg #[.int .u8 k, .int .u16 c]] w fun e w' => e = .returned (.int .i64 (tsz k)) ∧ Ch (fun _ => False) w w' := by
  by_cases h : k = 5 ∨ k = 6 ∨ k = 7 ∨ k = 8
  · rcases h with rfl | rfl | rfl | rfl <;>
    · go_enter Try.func56, Try.ntmps56
      go_wp2
      go_ret
      exact ⟨rfl, (Ch.refl _ w).alloc _⟩
  · have b5 : (k == 5) = false := beq_eq_false_iff_ne.2 (by omega)
    have b6 : (k == 6) = false := beq_eq_false_iff_ne.2 (by omega)
    have b7 : (k == 7) = false := beq_eq_false_iff_ne.2 (by omega)
    have b8 : (k == 8) = false := beq_eq_false_iff_ne.2 (by omega)
    have e : tsz k = 0 := by unfold tsz; rw [if_neg (by omega), if_neg (by omega)]
    rw [e]
    clear h
    go_enter Try.func56, Try.ntmps56
    go_wp2
    go_ret
    exact ⟨rfl, (Ch.refl _ w).alloc _⟩
set_option maxHeartbeats 1600000 in
set_option maxRecDepth 100000 in
theorem hhd_core (w : World) (H : Nat) (at_ : Int) (x : Hd) (p e : Int) (r : Bool)
    (ha : Hid (∀ w1, Ch (fun _ => False) w w1 → Calls Try.prog 32 #[.pointer (some ⟨H, 0, none⟩), .int .i64 at_] w1 fun e2 w' => e2 = .returned (fdv ⟨x, p, r, e⟩) ∧ Ch (fun _ => False) w1 w')) :
    Calls Try.prog 9 #[.pointer (some ⟨H, 0, none⟩), .int .i64 at_] w fun e2 w' => e2 = .returned (.tuple #[enc x, .int .i64 e]) ∧ Ch (fun _ => False) w w' := by
  obtain ⟨kd, cl, el, ow, fl, cn⟩ := x
  simp only [fdv, enc] at ha ⊢
  go_enter Try.func9, Try.ntmps9
  go_wp2_with (go_at_call 32; refine (ha.out _ ((Ch.refl _ w).alloc _)).mono ?_; rintro e2 w' ⟨rfl, c1⟩; have Z := (Blk.new w #[.int .u8 0, .int .i64 0, .int .i64 0, .int .i64 0, .int .u8 0, .int .i64 0] 46).ch c1 (fun h => h); have z0 : ∀ o, (w'.alloc o).cell? ⟨w.heap.size, 0, none⟩ = some (.int .u8 0) := fun o => (Z.alloc o).cell 0; have y0 : ∀ o, (w'.alloc o).frozen? ⟨w.heap.size, 0, none⟩ = false := fun o => (Z.alloc o).free 0; have z1 : ∀ o, (w'.alloc o).cell? ⟨w.heap.size, 1, none⟩ = some (.int .i64 0) := fun o => (Z.alloc o).cell 1; have y1 : ∀ o, (w'.alloc o).frozen? ⟨w.heap.size, 1, none⟩ = false := fun o => (Z.alloc o).free 1; have z2 : ∀ o, (w'.alloc o).cell? ⟨w.heap.size, 2, none⟩ = some (.int .i64 0) := fun o => (Z.alloc o).cell 2; have y2 : ∀ o, (w'.alloc o).frozen? ⟨w.heap.size, 2, none⟩ = false := fun o => (Z.alloc o).free 2; have z3 : ∀ o, (w'.alloc o).cell? ⟨w.heap.size, 3, none⟩ = some (.int .i64 0) := fun o => (Z.alloc o).cell 3; have y3 : ∀ o, (w'.alloc o).frozen? ⟨w.heap.size, 3, none⟩ = false := fun o => (Z.alloc o).free 3; have z4 : ∀ o, (w'.alloc o).cell? ⟨w.heap.size, 4, none⟩ = some (.int .u8 0) := fun o => (Z.alloc o).cell 4; have y4 : ∀ o, (w'.alloc o).frozen? ⟨w.heap.size, 4, none⟩ = false := fun o => (Z.alloc o).free 4; have z5 : ∀ o, (w'.alloc o).cell? ⟨w.heap.size, 5, none⟩ = some (.int .i64 0) := fun o => (Z.alloc o).cell 5; have y5 : ∀ o, (w'.alloc o).frozen? ⟨w.heap.size, 5, none⟩ = false := fun o => (Z.alloc o).free 5)
  refine bodyPost_ret (v := .tuple #[.agg #[.int .u8 kd, .int .i64 cl, .int .i64 el, .int .i64 ow, .int .u8 fl, .int .i64 cn], .int .i64 e]) (by simp [results, Try.results9, go_sem, *]) rfl ⟨rfl, ?_⟩
  repeat refine Ch.setCell ?_ (Or.inr (Nat.le_refl _)) _
  exact (((Ch.refl _ w).alloc _).then c1).alloc _
theorem hhd_any {w : World} {F : Nat → Prop} {H T N R L : Nat} {s : St} {m : List Int} (h : Hx w F H T N R L s m) (at_ : Int) :
    Calls Try.prog 9 #[.pointer (some ⟨H, 0, none⟩), .int .i64 at_] w fun e2 w' => e2 = .returned (.tuple #[enc (hfind s at_).x, .int .i64 (hfind s at_).e]) ∧ Ch (fun _ => False) w w' :=
  hhd_core w H at_ _ _ _ _ (fun w1 c => hfind_any (h.gr c) at_)
structure Fd.B (f : Fd) : Prop where
  x : f.x.B
  p0 : 0 ≤ f.p
  p1 : f.p ≤ 70000
  e0 : 0 ≤ f.e
  e1 : f.e ≤ 13
theorem hfind_b {s : St} (h : Ok s) (at_ : Int) : (hfind s at_).B := by
  have hz : Hd.zero.B := by constructor <;> simp [Hd.zero]
  unfold hfind
  split
  · exact ⟨hz, by simp, by simp, by simp, by simp⟩
  · cases hc : crd at_ with
    | some q =>
      obtain ⟨x, p⟩ := q
      simp only []
      unfold crd at hc
      split at hc
      · injection hc with hc; injection hc with h1 h2; subst h1; subst h2
        exact ⟨by constructor <;> simp, by simp, by simp, by simp, by simp⟩
      · split at hc
        · injection hc with hc; injection hc with h1 h2; subst h1; subst h2
          exact ⟨by constructor <;> simp, by simp, by simp, by simp, by simp⟩
        · split at hc
          · injection hc with hc; injection hc with h1 h2; subst h1; subst h2
            exact ⟨by constructor <;> dsimp only <;> omega, by dsimp only; omega, by dsimp only; omega, by simp, by simp⟩
          · cases hc
    | none =>
      simp only []
      split
      · rename_i hm
        have hb := places_b h hm
        have hp := hpl_b h at_
        split
        · exact ⟨hd_b h at_, hp.1, by dsimp only; omega, by simp, by simp⟩
        · exact ⟨hd_b h at_, by dsimp only; omega, by dsimp only; omega, by simp, by simp⟩
      · exact ⟨hz, by simp, by simp, by simp, by simp⟩
/-- What is told of a slot. -/
def slv (x : Sl) : Value := .tuple #[.int .i64 x.p, .int .i64 x.z, .bool x.ram, .int .i64 x.e]
def slotf (f : Fd) (i : Int) : Sl := if f.e ≠ 0 then ⟨0, 0, false, f.e⟩ else if i < 0 ∨ f.x.count ≤ i then ⟨0, 0, false, 2⟩ else ⟨f.p + ksz f.x.kind * i, ksz f.x.kind, f.ram, 0⟩
theorem hslot_eq (s : St) (at_ i : Int) : hslot s at_ i = slotf (hfind s at_) i := rfl
set_option maxHeartbeats 4000000 in
set_option maxRecDepth 100000 in
theorem hslot_core (w : World) (H : Nat) (at_ i : Int) (f : Fd) (hb : f.B)
    (ha : Hid (Calls Try.prog 32 #[.pointer (some ⟨H, 0, none⟩), .int .i64 at_] w fun e2 w' => e2 = .returned (fdv f) ∧ Ch (fun _ => False) w w')) :
    Calls Try.prog 33 #[.pointer (some ⟨H, 0, none⟩), .int .i64 at_, .int .i64 i] w fun e2 w' => e2 = .returned (slv (slotf f i)) ∧ Ch (fun _ => False) w w' := by
  have hk := fun w1 => hkind_any w1 f.x
  have ht := fun w1 => tsize_any w1 f.x.kind 0
  have kt : ksz f.x.kind = 1 ∧ tsz f.x.kind = 1 ∨ ksz f.x.kind = 2 ∧ (tsz f.x.kind == 1) = false := by
    unfold ksz tsz
    split
    · exact Or.inl ⟨rfl, rfl⟩
    · split <;> exact Or.inr ⟨rfl, rfl⟩
  have hbx := hb.x
  have p0 := hb.p0
  have p1 := hb.p1
  unfold slotf
  obtain ⟨⟨kd, cl, el, ow, fl, cn⟩, p, r, e⟩ := f
  simp only [fdv, enc] at ha hk ht ⊢
  dsimp only at kt p0 p1 ⊢
  have n0 : 0 ≤ cn := hbx.n0
  have n1 : cn ≤ 65535 := hbx.n1
  have HK := Lib.hid hk
  have HT := Lib.hid ht
  clear hk ht hbx hb
  generalize ksz kd = K at *
  generalize tsz kd = J at *
  by_cases he : e = 0
  · subst he
    by_cases hi : i < 0 ∨ cn ≤ i
    · rw [if_neg (by simp), if_pos hi]
      by_cases h0 : i < 0
      · clear hi
        go_enter Try.func33, Try.ntmps33
        go_wp2_with (first | (go_at_call 32; refine ha.out.mono ?_; rintro e2 w' ⟨rfl, c1⟩; have Z := Blk.new w' #[.int .u8 kd, .int .i64 cl, .int .i64 el, .int .i64 ow, .int .u8 fl, .int .i64 cn] 46) | (go_at_call 28; refine (HK.out _).mono ?_; rintro e3 w3 ⟨rfl, c3⟩; replace Z := Z.ch c3 (fun h => h); have z0 := Z.cell 0; have z1 := Z.cell 1; have z2 := Z.cell 2; have z3 := Z.cell 3; have z4 := Z.cell 4; have z5 := Z.cell 5) | (go_at_call 56; refine (HT.out _).mono ?_; rintro e4 w4 ⟨rfl, c4⟩))
        refine bodyPost_ret (v := slv ⟨0, 0, false, 2⟩) (by simp [results, Try.results33, go_sem, slv]) rfl ⟨rfl, ?_⟩
        exact c1.alloc _
      · have h1 : cn ≤ i := by omega
        clear hi
        go_enter Try.func33, Try.ntmps33
        go_wp2_with (first | (go_at_call 32; refine ha.out.mono ?_; rintro e2 w' ⟨rfl, c1⟩; have Z := Blk.new w' #[.int .u8 kd, .int .i64 cl, .int .i64 el, .int .i64 ow, .int .u8 fl, .int .i64 cn] 46) | (go_at_call 28; refine (HK.out _).mono ?_; rintro e3 w3 ⟨rfl, c3⟩; replace Z := Z.ch c3 (fun h => h); have z0 := Z.cell 0; have z1 := Z.cell 1; have z2 := Z.cell 2; have z3 := Z.cell 3; have z4 := Z.cell 4; have z5 := Z.cell 5) | (go_at_call 56; refine (HT.out _).mono ?_; rintro e4 w4 ⟨rfl, c4⟩))
        refine bodyPost_ret (v := slv ⟨0, 0, false, 2⟩) (by simp [results, Try.results33, go_sem, slv]) rfl ⟨rfl, ?_⟩
        exact c1.alloc _
    · rw [if_neg (by simp), if_neg hi]
      have h0 : ¬ i < 0 := by omega
      have h1 : ¬ cn ≤ i := by omega
      rcases kt with ⟨rfl, rfl⟩ | ⟨rfl, hj⟩
      · clear hi
        rw [Int.one_mul]
        go_enter Try.func33, Try.ntmps33
        go_wp2_with (first | (go_at_call 32; refine ha.out.mono ?_; rintro e2 w' ⟨rfl, c1⟩; have Z := Blk.new w' #[.int .u8 kd, .int .i64 cl, .int .i64 el, .int .i64 ow, .int .u8 fl, .int .i64 cn] 46) | (go_at_call 28; refine (HK.out _).mono ?_; rintro e3 w3 ⟨rfl, c3⟩; replace Z := Z.ch c3 (fun h => h); have z0 := Z.cell 0; have z1 := Z.cell 1; have z2 := Z.cell 2; have z3 := Z.cell 3; have z4 := Z.cell 4; have z5 := Z.cell 5) | (go_at_call 56; refine (HT.out _).mono ?_; rintro e4 w4 ⟨rfl, c4⟩))
        refine bodyPost_ret (v := slv ⟨p + i, 1, r, 0⟩) (by simp [results, Try.results33, go_sem, slv]) rfl ⟨rfl, ?_⟩
        exact ((c1.alloc _).then c3).then c4
      · clear hi
        go_enter Try.func33, Try.ntmps33
        go_wp2_with (first | (go_at_call 32; refine ha.out.mono ?_; rintro e2 w' ⟨rfl, c1⟩; have Z := Blk.new w' #[.int .u8 kd, .int .i64 cl, .int .i64 el, .int .i64 ow, .int .u8 fl, .int .i64 cn] 46) | (go_at_call 28; refine (HK.out _).mono ?_; rintro e3 w3 ⟨rfl, c3⟩; replace Z := Z.ch c3 (fun h => h); have z0 := Z.cell 0; have z1 := Z.cell 1; have z2 := Z.cell 2; have z3 := Z.cell 3; have z4 := Z.cell 4; have z5 := Z.cell 5) | (go_at_call 56; refine (HT.out _).mono ?_; rintro e4 w4 ⟨rfl, c4⟩))
        refine bodyPost_ret (v := slv ⟨p + 2 * i, 2, r, 0⟩) (by simp [results, Try.results33, go_sem, slv]) rfl ⟨rfl, ?_⟩
        exact ((c1.alloc _).then c3).then c4
  · rw [if_pos he]
    have hb : (e == 0) = false := beq_eq_false_iff_ne.2 he
    have hb2 : (e != 0) = true := by rw [bne, hb]; rfl
    go_enter Try.func33, Try.ntmps33
    go_wp2_with (first | (go_at_call 32; refine ha.out.mono ?_; rintro e2 w' ⟨rfl, c1⟩; have Z := Blk.new w' #[.int .u8 kd, .int .i64 cl, .int .i64 el, .int .i64 ow, .int .u8 fl, .int .i64 cn] 46) | (go_at_call 28; refine (HK.out _).mono ?_; rintro e3 w3 ⟨rfl, c3⟩; replace Z := Z.ch c3 (fun h => h); have z0 := Z.cell 0; have z1 := Z.cell 1; have z2 := Z.cell 2; have z3 := Z.cell 3; have z4 := Z.cell 4; have z5 := Z.cell 5) | (go_at_call 56; refine (HT.out _).mono ?_; rintro e4 w4 ⟨rfl, c4⟩))
    refine bodyPost_ret (v := slv ⟨0, 0, false, e⟩) (by simp [results, Try.results33, go_sem, slv]) rfl ⟨rfl, ?_⟩
    exact c1.alloc _
theorem hslot_any {w : World} {F : Nat → Prop} {H T N R L : Nat} {s : St} {m : List Int} (h : Hx w F H T N R L s m) (at_ i : Int) :
    Calls Try.prog 33 #[.pointer (some ⟨H, 0, none⟩), .int .i64 at_, .int .i64 i] w fun e2 w' => e2 = .returned (slv (hslot s at_ i)) ∧ Ch (fun _ => False) w w' :=
  hslot_core w H at_ i _ (hfind_b h.ok at_) (hfind_any h at_)
end Go.Proofs.Ytjeaidmmhplglaa.Nvm
