/- The steps of txn: words and entries. -/
import Derived.Test.YtjeaidmmhplglaaTxnSteps
set_option linter.unusedVariables false
set_option linter.unusedSimpArgs false
namespace Go.Proofs.Ytjeaidmmhplglaa.Nvm
open Go.RowKit Go.Proofs.Ytjeaidmmhplglaa.Base
theorem enters69 (C : Array Value) (w : World) : (callFunc 69 C).run Try.prog w = .ok (.enter 69 C) w := by simp [callFunc, Try.func69, go_sem, Try.f69]
theorem enters70 (C : Array Value) (w : World) : (callFunc 70 C).run Try.prog w = .ok (.enter 70 C) w := by simp [callFunc, Try.func70, go_sem, Try.f70]
set_option maxHeartbeats 400000 in
set_option maxRecDepth 100000 in
theorem word_core (w : World) (T : Nat) (at_ v : Int) :
    Calls Try.prog 50 #[.pointer (some ⟨T, 0, none⟩), .int .i64 at_, .int .u16 v] w fun e w' => e = .returned (.func (.func 69) #[] #[.pointer (some ⟨w.heap.size, 0, none⟩), .pointer (some ⟨w.heap.size + 1, 0, none⟩), .pointer (some ⟨w.heap.size + 2, 0, none⟩)]) ∧
      w' = ((w.alloc (.cells #[.pointer (some ⟨T, 0, none⟩)] 23)).alloc (.cells #[.int .i64 at_] 3)).alloc (.cells #[.int .u16 v] 22) := by
  have hmf := hmf
  go_enter Try.func50, Try.ntmps50
  go_wp2
  go_ret
  exact ⟨rfl, rfl⟩
theorem words_any {w : World} {F : Nat → Prop} {T N L : Nat} {s : St} (hx : Tx w F T N L s) (at_ v : Int) (a0 : 0 ≤ at_) (a1 : at_ ≤ 100000) (v0 : 0 ≤ v) (v1 : v ≤ 65535) :
    Calls Try.prog 50 #[.pointer (some ⟨T, 0, none⟩), .int .i64 at_, .int .u16 v] w (GivesStp w F T N L (fword at_ v)) := by
  refine (word_core w T at_ v).mono ?_
  rintro e w' ⟨rfl, rfl⟩
  have g : ∀ k, w.heap.size ≤ k → ¬ F k := fun k hk => lt_of_F hx hk
  have p0 := ((Blk.new w #[.pointer (some ⟨T, 0, none⟩)] 23).alloc (.cells #[.int .i64 at_] 3)).alloc (.cells #[.int .u16 v] 22)
  have p1 := (Blk.new (w.alloc (.cells #[.pointer (some ⟨T, 0, none⟩)] 23)) #[.int .i64 at_] 3).alloc (.cells #[.int .u16 v] 22)
  have p2 := Blk.new ((w.alloc (.cells #[.pointer (some ⟨T, 0, none⟩)] 23)).alloc (.cells #[.int .i64 at_] 3)) #[.int .u16 v] 22
  rw [show (w.alloc (.cells #[.pointer (some ⟨T, 0, none⟩)] 23)).heap.size = w.heap.size + 1 from by simp] at p1
  rw [show ((w.alloc (.cells #[.pointer (some ⟨T, 0, none⟩)] 23)).alloc (.cells #[.int .i64 at_] 3)).heap.size = w.heap.size + 2 from by simp] at p2
  refine GivesStp.mk hx ((((Ch.refl _ _).alloc _).alloc _).alloc _) (enters69 _) (fun k h0 h1 => ?_) (fun w1 s1 c1 t1 => ?_)
  · rcases (by simp at h1; omega : k = w.heap.size ∨ k = w.heap.size + 1 ∨ k = w.heap.size + 2) with rfl | rfl | rfl
    · exact Blk.not_steps p0 (by decide)
    · exact Blk.not_steps p1 (by decide)
    · exact Blk.not_steps p2 (by decide)
  exact wordc_any t1 a0 a1 v0 v1 ⟨(c1 _ (by omega) (by simp <;> omega)).trans p0.heap⟩ ⟨(c1 _ (by omega) (by simp <;> omega)).trans p1.heap⟩ ⟨(c1 _ (by omega) (by simp <;> omega)).trans p2.heap⟩ (g _ (by omega)) (g _ (by omega)) (g _ (by omega))
set_option maxHeartbeats 400000 in
set_option maxRecDepth 100000 in
theorem entry_core (w : World) (T : Nat) (i at_ : Int) :
    Calls Try.prog 51 #[.pointer (some ⟨T, 0, none⟩), .int .i64 i, .int .i64 at_] w fun e w' => e = .returned (.func (.func 70) #[] #[.pointer (some ⟨w.heap.size + 1, 0, none⟩), .pointer (some ⟨w.heap.size, 0, none⟩), .pointer (some ⟨w.heap.size + 2, 0, none⟩)]) ∧
      w' = ((w.alloc (.cells #[.pointer (some ⟨T, 0, none⟩)] 23)).alloc (.cells #[.int .i64 i] 3)).alloc (.cells #[.int .i64 at_] 3) := by
  have hmf := hmf
  go_enter Try.func51, Try.ntmps51
  go_wp2
  go_ret
  exact ⟨rfl, rfl⟩
/-- Five steps in a literal. -/
theorem do_five {w : World} {F : Nat → Prop} {T N L : Nat} {s : St} {f1 f2 f3 f4 f5 : St → St × Int} {v1 v2 v3 v4 v5 : Value} (hx : Tx w F T N L s) (h1 : Stp w F T N L f1 v1) (h2 : Stp w F T N L f2 v2) (h3 : Stp w F T N L f3 v3) (h4 : Stp w F T N L f4 v4) (h5 : Stp w F T N L f5 v5) :
    Calls Try.prog 47 #[.slice (some ⟨w.heap.size, 0, none⟩) 5 5] (w.alloc (.cells #[v1, v2, v3, v4, v5] 99)) fun e w' => e = .returned (.int .i64 (runs [f1, f2, f3, f4, f5] s).2) ∧ Tx w' F T N L (runs [f1, f2, f3, f4, f5] s).1 ∧ Ch F w w' := by
  have c : Ch (fun _ => False) w (w.alloc (.cells #[v1, v2, v3, v4, v5] 99)) := (Ch.refl _ _).alloc _
  have hB := Blk.new w #[v1, v2, v3, v4, v5] 99
  refine (do_any _ F T N L s w.heap.size 0 5 5 [f1, f2, f3, f4, f5] rfl (by omega) (hx.gr c) hB.lt (lt_of_F hx (Nat.le_refl _)) (fun j hj => ?_)).mono ?_
  · rcases (by omega : j = 0 ∨ j = 1 ∨ j = 2 ∨ j = 3 ∨ j = 4) with rfl | rfl | rfl | rfl | rfl
    · exact ⟨v1, hB.cell 0, h1.ch c.gr⟩
    · exact ⟨v2, hB.cell 1, h2.ch c.gr⟩
    · exact ⟨v3, hB.cell 2, h3.ch c.gr⟩
    · exact ⟨v4, hB.cell 3, h4.ch c.gr⟩
    · exact ⟨v5, hB.cell 4, h5.ch c.gr⟩
  · rintro e w' ⟨rfl, h, k⟩
    exact ⟨rfl, h, c.gr.then k⟩
/-- The puts of an entry of a word that was v. -/
def fent (i at_ v : Int) : List (St → St × Int) := [fput (2 + 4 * i) (at_ / 256 % 256), fput (2 + 4 * i + 1) (at_ % 256), fput (2 + 4 * i + 2) (v / 256), fput (2 + 4 * i + 3) (v % 256), fput 0 ((i + 1) % 256)]
def fentry (i at_ : Int) : St → St × Int := fun s => runs (fent i at_ (pr s.l (2 * at_).toNat)) s
set_option maxHeartbeats 1600000 in
set_option maxRecDepth 100000 in
theorem entryc_any {w : World} {F : Nat → Prop} {T N L B C D : Nat} {s : St} {i at_ : Int} (hx : Tx w F T N L s) (i0 : 0 ≤ i) (i1 : i ≤ 100) (a0 : 0 ≤ at_) (a1 : 2 * at_ + 1 < L)
    (p0 : Blk w B #[.int .i64 i] 3) (p1 : Blk w C #[.pointer (some ⟨T, 0, none⟩)] 23) (p2 : Blk w D #[.int .i64 at_] 3) (n0 : ¬ F B) (n1 : ¬ F C) (n2 : ¬ F D) :
    Calls Try.prog 70 #[.pointer (some ⟨B, 0, none⟩), .pointer (some ⟨C, 0, none⟩), .pointer (some ⟨D, 0, none⟩)] w fun e w' => e = .returned (.int .i64 (fentry i at_ s).2) ∧ Tx w' F T N L (fentry i at_ s).1 ∧ Ch F w w' := by
  have hL : L ≤ 65536 := by have := hx.ok.len1; have := hx.len; omega
  have q0 : w.cell? ⟨B, 0, none⟩ = some (.int .i64 i) := p0.cell 0
  have q1 : w.cell? ⟨C, 0, none⟩ = some (.pointer (some ⟨T, 0, none⟩)) := p1.cell 0
  have q2 : w.cell? ⟨D, 0, none⟩ = some (.int .i64 at_) := p2.cell 0
  have hk := Lib.hid (fun (wy : World) (d : Ch F w wy) => show wy.cell? ⟨B, 0, none⟩ = some (.int .i64 i) ∧ wy.cell? ⟨C, 0, none⟩ = some (.pointer (some ⟨T, 0, none⟩)) ∧ wy.cell? ⟨D, 0, none⟩ = some (.int .i64 at_) from
    ⟨(d.cell p0.lt n0).trans (p0.cell 0), (d.cell p1.lt n1).trans (p1.cell 0), (d.cell p2.lt n2).trans (p2.cell 0)⟩)
  have hw : ∀ wx : World, Tx wx F T N L s → Calls Try.prog 45 #[.pointer (some ⟨T, 0, none⟩), .int .i64 at_] wx fun e w' => e = .returned (.int .u16 (pr s.l (2 * at_).toNat)) ∧ Ch (fun _ => False) wx w' := fun wx h => by
    have h1 := was_any h at_.toNat (by omega)
    rw [show ((at_.toNat : Nat) : Int) = at_ from by omega, show 2 * at_.toNat = (2 * at_).toNat from by omega] at h1
    exact h1
  have HW := Lib.hid hw
  clear hw
  have hv := pr_by hx.ok.by_ (2 * at_).toNat
  have hr : fentry i at_ s = runs (fent i at_ (pr s.l (2 * at_).toNat)) s := rfl
  generalize pr s.l (2 * at_).toNat = v at *
  clear p0 p1 p2 n0 n1 n2
  have hE := Lib.hid (show runs [fput (IntKind.i64.wrap (2 + IntKind.i64.wrap (4 * i))) (IntKind.u8.wrap (at_ / 256)), fput (IntKind.i64.wrap (IntKind.i64.wrap (2 + IntKind.i64.wrap (4 * i)) + 1)) (IntKind.u8.wrap at_),
      fput (IntKind.i64.wrap (IntKind.i64.wrap (2 + IntKind.i64.wrap (4 * i)) + 2)) (IntKind.u8.wrap (v / 256)), fput (IntKind.i64.wrap (IntKind.i64.wrap (2 + IntKind.i64.wrap (4 * i)) + 3)) (IntKind.u8.wrap v), fput 0 (IntKind.u8.wrap (IntKind.i64.wrap (i + 1)))] s = fentry i at_ s from by
    rw [hr, fent, wr64 (x := 4 * i) (by omega) (by omega), wr64 (x := 2 + 4 * i) (by omega) (by omega), wr64 (x := 2 + 4 * i + 1) (by omega) (by omega), wr64 (x := 2 + 4 * i + 2) (by omega) (by omega), wr64 (x := 2 + 4 * i + 3) (by omega) (by omega), wr64 (x := i + 1) (by omega) (by omega), wr8 (x := v / 256) (by omega) (by omega), wr8', wr8', wr8', wr8'])
  clear hr
  generalize fentry i at_ s = R at *
  go_enter Try.func70, Try.ntmps70
  go_wp2_with (fail)
  go_region_held3 (fun w' => w'.cell? ⟨B, 0, none⟩ = some (.int .i64 i) ∧ w'.cell? ⟨C, 0, none⟩ = some (.pointer (some ⟨T, 0, none⟩)) ∧ w'.cell? ⟨D, 0, none⟩ = some (.int .i64 at_)) (first | exact ⟨q0, q1, q2⟩ | exact hk.out _ d1.gr | exact hk.out _ d1.gr.drew) (first | (go_at_call 45; refine (HW.out _ (by first | exact hx | exact hx.drew | exact hx.drewN _)).mono ?_; rintro e w1 ⟨rfl, c1⟩; have d1 : Ch (fun _ => False) w w1 := (by first | exact c1 | exact c1.undrew | exact c1.undrewN)))
  all_goals (go_wp2_with (fail))
  all_goals (go_region_held3 (fun w' => w'.cell? ⟨B, 0, none⟩ = some (.int .i64 i) ∧ w'.cell? ⟨C, 0, none⟩ = some (.pointer (some ⟨T, 0, none⟩)) ∧ w'.cell? ⟨D, 0, none⟩ = some (.int .i64 at_)) (first | exact hk.out _ d7 | exact hk.out _ d6.gr | exact hk.out _ d6.gr.drew | exact hk.out _ (d6.gr.alloc _) | exact hk.out _ (d6.gr.drew.alloc _) | exact hk.out _ d5.gr | exact hk.out _ d5.gr.drew | exact hk.out _ (d5.gr.alloc _) | exact hk.out _ (d5.gr.drew.alloc _) | exact hk.out _ d4.gr | exact hk.out _ d4.gr.drew | exact hk.out _ (d4.gr.alloc _) | exact hk.out _ (d4.gr.drew.alloc _) | exact hk.out _ d3.gr | exact hk.out _ d3.gr.drew | exact hk.out _ (d3.gr.alloc _) | exact hk.out _ (d3.gr.drew.alloc _) | exact hk.out _ d2.gr | exact hk.out _ d2.gr.drew | exact hk.out _ (d2.gr.alloc _) | exact hk.out _ (d2.gr.drew.alloc _) | exact hk.out _ d1.gr | exact hk.out _ d1.gr.drew | exact hk.out _ (d1.gr.alloc _) | exact hk.out _ (d1.gr.drew.alloc _)) (first | (go_at_call 47; have hd := do_five (hx.gr d6) (s2.ch (((j3.then j4).then j5).then j6).gr) (s3.ch ((j4.then j5).then j6).gr) (s4.ch (j5.then j6).gr) (s5.ch j6.gr) s6; rw [hE.out] at hd; refine hd.mono ?_; rintro e w7 ⟨rfl, t7, c7⟩; have d7 := (d6.gr (S := F)).then c7) | (go_at_call 52; refine (puts_any (by first | exact hx.gr d5 | exact (hx.gr d5).drew) _ _ (wr8b _).1 (wr8b _).2).mono ?_; rintro e w6 ⟨g6, k6, rfl, s6', c6⟩; have s6 := s6'; have j6 : Ch (fun _ => False) w5 w6 := (by first | exact c6 | exact c6.undrew | exact c6.undrewN); have d6 := d5.then j6) | (go_at_call 52; refine (puts_any (by first | exact hx.gr d4 | exact (hx.gr d4).drew) _ _ (wr8b _).1 (wr8b _).2).mono ?_; rintro e w5 ⟨g5, k5, rfl, s5', c5⟩; have s5 := s5'; have j5 : Ch (fun _ => False) w4 w5 := (by first | exact c5 | exact c5.undrew | exact c5.undrewN); have d5 := d4.then j5) | (go_at_call 52; refine (puts_any (by first | exact hx.gr d3 | exact (hx.gr d3).drew) _ _ (wr8b _).1 (wr8b _).2).mono ?_; rintro e w4 ⟨g4, k4, rfl, s4', c4⟩; have s4 := s4'; have j4 : Ch (fun _ => False) w3 w4 := (by first | exact c4 | exact c4.undrew | exact c4.undrewN); have d4 := d3.then j4) | (go_at_call 52; refine (puts_any (by first | exact hx.gr d2 | exact (hx.gr d2).drew) _ _ (wr8b _).1 (wr8b _).2).mono ?_; rintro e w3 ⟨g3, k3, rfl, s3', c3⟩; have s3 := s3'; have j3 : Ch (fun _ => False) w2 w3 := (by first | exact c3 | exact c3.undrew | exact c3.undrewN); have d3 := d2.then j3) | (go_at_call 52; refine (puts_any (by first | exact hx.gr d1 | exact (hx.gr d1).drew) _ _ (wr8b _).1 (wr8b _).2).mono ?_; rintro e w2 ⟨g2, k2, rfl, s2', c2⟩; have s2 := s2'; have j2 : Ch (fun _ => False) w1 w2 := (by first | exact c2 | exact c2.undrew | exact c2.undrewN); have d2 := d1.then j2)))
  all_goals (go_wp2; go_ret; exact ⟨rfl, by first | exact t7 | exact t7.drewN _, by first | exact d7 | exact d7.drewN _⟩)
theorem entries_any {w : World} {F : Nat → Prop} {T N L : Nat} {s : St} (hx : Tx w F T N L s) (i at_ : Int) (i0 : 0 ≤ i) (i1 : i ≤ 100) (a0 : 0 ≤ at_) (a1 : 2 * at_ + 1 < L) :
    Calls Try.prog 51 #[.pointer (some ⟨T, 0, none⟩), .int .i64 i, .int .i64 at_] w (GivesStp w F T N L (fentry i at_)) := by
  refine (entry_core w T i at_).mono ?_
  rintro e w' ⟨rfl, rfl⟩
  have g : ∀ k, w.heap.size ≤ k → ¬ F k := fun k hk => lt_of_F hx hk
  have p0 := ((Blk.new w #[.pointer (some ⟨T, 0, none⟩)] 23).alloc (.cells #[.int .i64 i] 3)).alloc (.cells #[.int .i64 at_] 3)
  have p1 := (Blk.new (w.alloc (.cells #[.pointer (some ⟨T, 0, none⟩)] 23)) #[.int .i64 i] 3).alloc (.cells #[.int .i64 at_] 3)
  have p2 := Blk.new ((w.alloc (.cells #[.pointer (some ⟨T, 0, none⟩)] 23)).alloc (.cells #[.int .i64 i] 3)) #[.int .i64 at_] 3
  rw [show (w.alloc (.cells #[.pointer (some ⟨T, 0, none⟩)] 23)).heap.size = w.heap.size + 1 from by simp] at p1
  rw [show ((w.alloc (.cells #[.pointer (some ⟨T, 0, none⟩)] 23)).alloc (.cells #[.int .i64 i] 3)).heap.size = w.heap.size + 2 from by simp] at p2
  refine GivesStp.mk hx ((((Ch.refl _ _).alloc _).alloc _).alloc _) (enters70 _) (fun k h0 h1 => ?_) (fun w1 s1 c1 t1 => ?_)
  · rcases (by simp at h1; omega : k = w.heap.size ∨ k = w.heap.size + 1 ∨ k = w.heap.size + 2) with rfl | rfl | rfl
    · exact Blk.not_steps p0 (by decide)
    · exact Blk.not_steps p1 (by decide)
    · exact Blk.not_steps p2 (by decide)
  exact entryc_any t1 i0 i1 a0 a1 ⟨(c1 _ (by omega) (by simp <;> omega)).trans p1.heap⟩ ⟨(c1 _ (by omega) (by simp <;> omega)).trans p0.heap⟩ ⟨(c1 _ (by omega) (by simp <;> omega)).trans p2.heap⟩ (g _ (by omega)) (g _ (by omega)) (g _ (by omega))
end Go.Proofs.Ytjeaidmmhplglaa.Nvm
