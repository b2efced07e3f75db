/- The acts that cut the power, and that bring it back. -/
import Derived.Test.YtfnlpmakhlpgcaaTxnAct2
namespace Go.Proofs.Ytfnlpmakhlpgcaa.Nvm
open Go.RowKit Go.Proofs.Ytfnlpmakhlpgcaa.Base
theorem cut_tx {w : World} {F : Nat → Prop} {T N L : Nat} {s : St} (h : Tx w F T N L s) (x : Int) (hx : x ≤ 9223372036854775807) :
    Calls Try.prog 25 #[.pointer (some ⟨N, 0, none⟩), .int .i64 x] w fun e w' => e = .returned (.int .i64 (s.cut x).2) ∧ Tx w' (Grow F w w') T N L (s.cut x).1 ∧ Ch F w w' := by
  refine (cut_any h.n x hx).mono ?_
  rintro e w' ⟨rfl, h1, c⟩
  refine ⟨rfl, ⟨h.t.ch c h.ft, h1, fun hf => ?_, ?_⟩, c⟩
  · rcases hf with hf | hf
    · exact h.ft hf
    · have := h.t.lt; omega
  · rw [← h.len]; unfold St.cut; split <;> rfl
theorem rcut_rx {w : World} {F : Nat → Prop} {T N L : Nat} {s : St} (h : Rx w F T N L s) (x : Int) (hx : x ≤ 9223372036854775807) :
    Calls Try.prog 70 #[.pointer (some ⟨N, 0, none⟩), .int .i64 x] w (Rds w F T N L (s.cut x)) := by
  refine (rcut_any h.n x hx).mono ?_
  rintro e w' ⟨rfl, h1, c⟩
  refine ⟨rfl, ⟨h.t.ch c h.ft, h1, h.ft, ?_⟩, c⟩
  rw [← h.len]; unfold St.cut; split <;> rfl
theorem on_tx {w : World} {F : Nat → Prop} {T N L : Nat} {s : St} (h : Tx w F T N L s) :
    Calls Try.prog 26 #[.pointer (some ⟨N, 0, none⟩)] w fun e w' => e = .returned (.int .i64 0) ∧ Tx w' F T N L s.on ∧ Ch F w w' := by
  refine (on_any h.n).mono ?_
  rintro e w' ⟨rfl, h1, c⟩
  exact ⟨rfl, ⟨h.t.ch c h.ft, h1, h.ft, h.len⟩, c⟩
theorem ron_rx {w : World} {F : Nat → Prop} {T N L : Nat} {s : St} (h : Rx w F T N L s) :
    Calls Try.prog 50 #[.pointer (some ⟨N, 0, none⟩)] w fun e w' => e = .returned (.tuple #[]) ∧ Rx w' F T N L s.on ∧ Ch F w w' := by
  refine (ron_any h.n).mono ?_
  rintro e w' ⟨rfl, h1, c⟩
  exact ⟨rfl, ⟨h.t.ch c h.ft, h1, h.ft, h.len⟩, c⟩
set_option maxHeartbeats 4000000 in
set_option maxRecDepth 100000 in
theorem act_cut {w w0 : World} {F G : Nat → Prop} {P T Q N M : Nat} {s : St} (h : Tw w F G P T Q N M s w0) (at_ v r : Int) (R1 : St) (v0 : 0 ≤ v) (v1 : v ≤ 65535)
    (h1 : Hid (∀ wx : World, Tx wx F T N 4096 s → Calls Try.prog 25 #[.pointer (some ⟨N, 0, none⟩), .int .i64 (IntKind.i64.wrap (v.tmod 40))] wx fun e w' => e = .returned (.int .i64 r) ∧ Tx w' (Grow F wx w') T N 4096 R1 ∧ Ch F wx w'))
    (h2 : Hid (∀ wx : World, Rx wx G Q M 4096 s → Calls Try.prog 70 #[.pointer (some ⟨M, 0, none⟩), .int .i64 (IntKind.i64.wrap (v.tmod 40))] wx fun e w' => e = .returned (.int .i64 r) ∧ Rx w' G Q M 4096 R1 ∧ Ch G wx w')) :
    Calls Try.prog 48 #[.pointer (some ⟨P, 0, none⟩), .agg #[.int .i64 9, .int .i64 at_, .int .u16 v]] w0 fun e w' => ∃ F', e = .returned (.bool true) ∧ Tw w F' G P T Q N M R1 w' := by
  have c0 : Ch (fun _ => False) w0 (w0.alloc (.cells #[.int .i64 9, .int .i64 at_, .int .u16 v] 74)) := (Ch.refl _ _).alloc _
  have hB := Blk.new w0 #[.int .i64 9, .int .i64 at_, .int .u16 v] 74
  have hT := h.gr c0
  have bf : ¬ F w0.heap.size := fun hf => by have := h.t.n.fb _ hf; omega
  have bg : ¬ G w0.heap.size := fun hf => by have := h.r.n.fb _ hf; omega
  have hk := Lib.hid (fun (wy : World) (c : Ch (fun k => F k ∨ G k) (w0.alloc (.cells #[.int .i64 9, .int .i64 at_, .int .u16 v] 74)) wy) => show wy.cell? ⟨P, 0, none⟩ = some (.pointer (some ⟨T, 0, none⟩)) ∧ wy.cell? ⟨P, 1, none⟩ = some (.pointer (some ⟨Q, 0, none⟩)) ∧ wy.cell? ⟨Q, 0, none⟩ = some (.pointer (some ⟨M, 0, none⟩)) ∧ wy.cell? ⟨w0.heap.size, 2, none⟩ = some (.int .u16 v) from
    have k := hT.keeps hB bf bg c
    ⟨k.1, k.2.1, k.2.2.1, k.2.2.2 2⟩)
  have q0 : (w0.alloc (.cells #[.int .i64 9, .int .i64 at_, .int .u16 v] 74)).cell? ⟨w0.heap.size, 0, none⟩ = some (.int .i64 9) := hB.cell 0
  obtain ⟨y0, y1, y2, y3⟩ := hk.out _ (Ch.refl _ _)
  clear hB bf bg
  go_enter Try.func48, Try.ntmps48
  go_wp2_with (fail)
  go_region_held3 (fun w' => w'.cell? ⟨P, 0, none⟩ = some (.pointer (some ⟨T, 0, none⟩)) ∧ w'.cell? ⟨P, 1, none⟩ = some (.pointer (some ⟨Q, 0, none⟩)) ∧ w'.cell? ⟨Q, 0, none⟩ = some (.pointer (some ⟨M, 0, none⟩)) ∧ w'.cell? ⟨w0.heap.size, 2, none⟩ = some (.int .u16 v)) (first | exact ⟨y0, y1, y2, y3⟩ | exact hk.out _ d2 | exact hk.out _ (d1.mono (fun _ h => Or.inl h)) | exact hk.out _ (d1.mono (fun _ h => Or.inl h)).drew) (first | (go_at_call 19; refine (nvm_core _ T N (by first | exact hT.t.c0 | exact hT.t.drew.c0 | exact (hT.t.drewN _).c0)).mono ?_; rintro e wn ⟨rfl, rfl⟩) | (go_at_call 70; refine (h2.out _ (by first | exact hT.mid d1 | exact (hT.mid d1).drew)).mono ?_; rintro e w2 ⟨rfl, t2, c2⟩; have j2 : Ch G w1 w2 := (by first | exact c2 | exact c2.undrew | exact c2.undrewN); have d2 := (d1.mono (T := fun k => F k ∨ G k) (fun _ h => Or.inl h)).then (j2.mono (fun _ h => Or.inr h))) | (go_at_call 25; refine (h1.out _ (by first | exact hT.t | exact hT.t.drew | exact hT.t.drewN _)).mono ?_; rintro e w1 ⟨rfl, t1, c1⟩; have d1 := (by first | exact c1 | exact c1.undrew | exact c1.undrewN : Ch F (w0.alloc (.cells #[.int .i64 9, .int .i64 at_, .int .u16 v] 74)) w1)))
  all_goals (go_wp2; go_ret; exact ⟨_, rfl, by first | exact hT.step t1 d1 t2 j2 (fun k hk => hk.imp id (fun h => h.1)) | exact (hT.step t1 d1 t2 j2 (fun k hk => hk.imp id (fun h => h.1))).gr ((Ch.refl _ _).drewN _)⟩)
set_option maxHeartbeats 4000000 in
set_option maxRecDepth 100000 in
theorem act_on {w w0 : World} {F G : Nat → Prop} {P T Q N M : Nat} {s : St} (h : Tw w F G P T Q N M s w0) (at_ v r : Int) (s1 R1 : St)
    (g1 : Hid (∀ wx : World, Tx wx F T N 4096 s → Calls Try.prog 26 #[.pointer (some ⟨N, 0, none⟩)] wx fun e w' => e = .returned (.int .i64 0) ∧ Tx w' F T N 4096 s1 ∧ Ch F wx w'))
    (g2 : Hid (∀ wx : World, Rx wx G Q M 4096 s → Calls Try.prog 50 #[.pointer (some ⟨M, 0, none⟩)] wx fun e w' => e = .returned (.tuple #[]) ∧ Rx w' G Q M 4096 s1 ∧ Ch G wx w'))
    (h1 : Hid (∀ wx : World, Tx wx F T N 4096 s1 → Calls Try.prog 16 #[.pointer (some ⟨T, 0, none⟩)] wx fun e w' => e = .returned (.int .i64 r) ∧ Tx w' F T N 4096 R1 ∧ Ch F wx w'))
    (h2 : Hid (∀ wx : World, Rx wx G Q M 4096 s1 → Calls Try.prog 51 #[.pointer (some ⟨Q, 0, none⟩)] wx fun e w' => e = .returned (.int .i64 r) ∧ Rx w' G Q M 4096 R1 ∧ Ch G wx w')) :
    Calls Try.prog 48 #[.pointer (some ⟨P, 0, none⟩), .agg #[.int .i64 10, .int .i64 at_, .int .u16 v]] w0 fun e w' => e = .returned (.bool true) ∧ Tw w F G P T Q N M R1 w' := by
  have c0 : Ch (fun _ => False) w0 (w0.alloc (.cells #[.int .i64 10, .int .i64 at_, .int .u16 v] 74)) := (Ch.refl _ _).alloc _
  have hB := Blk.new w0 #[.int .i64 10, .int .i64 at_, .int .u16 v] 74
  have hT := h.gr c0
  have bf : ¬ F w0.heap.size := fun hf => by have := h.t.n.fb _ hf; omega
  have bg : ¬ G w0.heap.size := fun hf => by have := h.r.n.fb _ hf; omega
  have hk := Lib.hid (fun (wy : World) (c : Ch (fun k => F k ∨ G k) (w0.alloc (.cells #[.int .i64 10, .int .i64 at_, .int .u16 v] 74)) wy) => show wy.cell? ⟨P, 0, none⟩ = some (.pointer (some ⟨T, 0, none⟩)) ∧ wy.cell? ⟨P, 1, none⟩ = some (.pointer (some ⟨Q, 0, none⟩)) ∧ wy.cell? ⟨Q, 0, none⟩ = some (.pointer (some ⟨M, 0, none⟩)) from
    have k := hT.keeps hB bf bg c
    ⟨k.1, k.2.1, k.2.2.1⟩)
  have q0 : (w0.alloc (.cells #[.int .i64 10, .int .i64 at_, .int .u16 v] 74)).cell? ⟨w0.heap.size, 0, none⟩ = some (.int .i64 10) := hB.cell 0
  obtain ⟨y0, y1, y2⟩ := hk.out _ (Ch.refl _ _)
  clear hB bf bg
  go_enter Try.func48, Try.ntmps48
  go_wp2_with (fail)
  refine (nvm_core _ T N hT.t.c0).mono ?_
  rintro e wn ⟨rfl, rfl⟩
  go_wp2_with (fail)
  refine (g1.out _ hT.t).mono ?_
  rintro e wa ⟨rfl, ta, ca⟩
  have da := ca.mono (T := fun k => F k ∨ G k) (fun _ h => Or.inl h)
  obtain ⟨a0, a1, a2⟩ := hk.out _ da
  clear q0 y0 y1 y2
  go_wp2_with (fail)
  refine (g2.out _ (hT.mid ca)).mono ?_
  rintro e wb ⟨rfl, tb, cb⟩
  have hT2 := hT.step ta ca tb cb (fun _ h => Or.inl h)
  have db := da.then (cb.mono (T := fun k => F k ∨ G k) (fun _ h => Or.inr h))
  obtain ⟨b0, b1, b2⟩ := hk.out _ db
  clear a0 a1 a2
  go_wp2_with (fail)
  go_region_held3 (fun w' => w'.cell? ⟨P, 0, none⟩ = some (.pointer (some ⟨T, 0, none⟩)) ∧ w'.cell? ⟨P, 1, none⟩ = some (.pointer (some ⟨Q, 0, none⟩)) ∧ w'.cell? ⟨Q, 0, none⟩ = some (.pointer (some ⟨M, 0, none⟩))) (first | exact ⟨b0, b1, b2⟩ | exact hk.out _ (db.then d2) | exact hk.out _ (db.then (d1.mono (fun _ h => Or.inl h))) | exact hk.out _ (db.then (d1.mono (fun _ h => Or.inl h))).drew) (first | (go_at_call 51; refine (h2.out _ (by first | exact hT2.mid d1 | exact (hT2.mid d1).drew)).mono ?_; rintro e w2 ⟨rfl, t2, c2⟩; have j2 : Ch G w1 w2 := (by first | exact c2 | exact c2.undrew | exact c2.undrewN); have d2 := (d1.mono (T := fun k => F k ∨ G k) (fun _ h => Or.inl h)).then (j2.mono (fun _ h => Or.inr h))) | (go_at_call 16; refine (h1.out _ (by first | exact hT2.t | exact hT2.t.drew | exact hT2.t.drewN _)).mono ?_; rintro e w1 ⟨rfl, t1, c1⟩; have d1 := (by first | exact c1 | exact c1.undrew | exact c1.undrewN : Ch F wb w1)))
  all_goals (go_wp2; go_ret; exact ⟨rfl, by first | exact hT2.step t1 d1 t2 j2 (fun _ h => Or.inl h) | exact (hT2.step t1 d1 t2 j2 (fun _ h => Or.inl h)).gr ((Ch.refl _ _).drewN _)⟩)
set_option maxHeartbeats 4000000 in
set_option maxRecDepth 100000 in
theorem act_none {w w0 : World} {F G : Nat → Prop} {P T Q N M : Nat} {s : St} (h : Tw w F G P T Q N M s w0) (d at_ v : Int) (n0 : (d == 0) = false) (n1 : (d == 1) = false) (n2 : (d == 2) = false) (n3 : (d == 3) = false) (n4 : (d == 4) = false) (n5 : (d == 5) = false) (n6 : (d == 6) = false) (n7 : (d == 7) = false) (n8 : (d == 8) = false) (n9 : (d == 9) = false) (n10 : (d == 10) = false) :
    Calls Try.prog 48 #[.pointer (some ⟨P, 0, none⟩), .agg #[.int .i64 d, .int .i64 at_, .int .u16 v]] w0 fun e w' => e = .returned (.bool true) ∧ Tw w F G P T Q N M s w' := by
  have c0 : Ch (fun _ => False) w0 (w0.alloc (.cells #[.int .i64 d, .int .i64 at_, .int .u16 v] 74)) := (Ch.refl _ _).alloc _
  have hB := Blk.new w0 #[.int .i64 d, .int .i64 at_, .int .u16 v] 74
  have hT := h.gr c0
  have q0 : (w0.alloc (.cells #[.int .i64 d, .int .i64 at_, .int .u16 v] 74)).cell? ⟨w0.heap.size, 0, none⟩ = some (.int .i64 d) := hB.cell 0
  clear hB
  go_enter Try.func48, Try.ntmps48
  go_wp2_with (fail)
  go_ret
  exact ⟨rfl, hT⟩
end Go.Proofs.Ytfnlpmakhlpgcaa.Nvm
