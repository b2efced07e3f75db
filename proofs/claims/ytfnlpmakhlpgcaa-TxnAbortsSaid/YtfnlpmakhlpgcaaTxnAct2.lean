/- The acts that read. -/
import Derived.Test.YtfnlpmakhlpgcaaTxnAct
namespace Go.Proofs.Ytfnlpmakhlpgcaa.Nvm
open Go.RowKit Go.Proofs.Ytfnlpmakhlpgcaa.Base
set_option maxHeartbeats 4000000 in
set_option maxRecDepth 100000 in
theorem act_word {w w0 : World} {F G : Nat → Prop} {P T Q N M : Nat} {s : St} (h : Tw w F G P T Q N M s w0) (at_ v x r : Int)
    (h1 : Hid (∀ wx : World, Tx wx F T N 4096 s → Calls Try.prog 8 #[.pointer (some ⟨T, 0, none⟩), .int .i64 at_] wx fun e w' => e = .returned (.tuple #[.int .u16 x, .int .i64 r]) ∧ Ch (fun _ => False) wx w'))
    (h2 : Hid (∀ wx : World, Rx wx G Q M 4096 s → Calls Try.prog 65 #[.pointer (some ⟨Q, 0, none⟩), .int .i64 at_] wx fun e w' => e = .returned (.tuple #[.int .u16 x, .int .i64 r]) ∧ Ch (fun _ => False) wx w')) :
    Calls Try.prog 48 #[.pointer (some ⟨P, 0, none⟩), .agg #[.int .i64 3, .int .i64 at_, .int .u16 v]] w0 fun e w' => e = .returned (.bool true) ∧ Tw w F G P T Q N M s w' := by
  have c0 : Ch (fun _ => False) w0 (w0.alloc (.cells #[.int .i64 3, .int .i64 at_, .int .u16 v] 74)) := (Ch.refl _ _).alloc _
  have hB := Blk.new w0 #[.int .i64 3, .int .i64 at_, .int .u16 v] 74
  have hT := h.gr c0
  have bf : ¬ F w0.heap.size := fun hf => by have := h.t.n.fb _ hf; omega
  have bg : ¬ G w0.heap.size := fun hf => by have := h.r.n.fb _ hf; omega
  have hk := Lib.hid (fun (wy : World) (c : Ch (fun _ => False) (w0.alloc (.cells #[.int .i64 3, .int .i64 at_, .int .u16 v] 74)) wy) => show wy.cell? ⟨P, 0, none⟩ = some (.pointer (some ⟨T, 0, none⟩)) ∧ wy.cell? ⟨P, 1, none⟩ = some (.pointer (some ⟨Q, 0, none⟩)) ∧ wy.cell? ⟨w0.heap.size, 1, none⟩ = some (.int .i64 at_) from
    have k := hT.keeps hB bf bg c.gr
    ⟨k.1, k.2.1, k.2.2.2 1⟩)
  have q0 : (w0.alloc (.cells #[.int .i64 3, .int .i64 at_, .int .u16 v] 74)).cell? ⟨w0.heap.size, 0, none⟩ = some (.int .i64 3) := hB.cell 0
  obtain ⟨y0, y1, y3⟩ := hk.out _ (Ch.refl _ _)
  clear hB bf bg
  go_enter Try.func48, Try.ntmps48
  go_wp2_with (fail)
  go_region_held3 (fun w' => w'.cell? ⟨P, 0, none⟩ = some (.pointer (some ⟨T, 0, none⟩)) ∧ w'.cell? ⟨P, 1, none⟩ = some (.pointer (some ⟨Q, 0, none⟩)) ∧ w'.cell? ⟨w0.heap.size, 1, none⟩ = some (.int .i64 at_)) (first | exact ⟨y0, y1, y3⟩ | exact hk.out _ d1 | exact hk.out _ d1.drew) (first | (go_at_call 8; refine (h1.out _ (by first | exact hT.t | exact hT.t.drew | exact hT.t.drewN _)).mono ?_; rintro e w1 ⟨rfl, c1⟩; have d1 := (by first | exact c1 | exact c1.undrew | exact c1.undrewN : Ch (fun _ => False) (w0.alloc (.cells #[.int .i64 3, .int .i64 at_, .int .u16 v] 74)) w1)))
  all_goals
    obtain ⟨z0, z1, z3⟩ := hk.out _ d1
    clear y0 y1 y3 q0
    go_wp2_with (fail)
    go_region_held3 (fun w' => w'.cell? ⟨P, 0, none⟩ = some (.pointer (some ⟨T, 0, none⟩)) ∧ w'.cell? ⟨P, 1, none⟩ = some (.pointer (some ⟨Q, 0, none⟩)) ∧ w'.cell? ⟨w0.heap.size, 1, none⟩ = some (.int .i64 at_)) (first | exact ⟨z0, z1, z3⟩ | exact hk.out _ d1 | exact hk.out _ (d1.drewN _) | exact hk.out _ d2 | exact hk.out _ d2.drew) (first | (go_at_call 65; refine (h2.out _ (by first | exact hT.r.gr d1 | exact (hT.r.gr d1).drew | exact (hT.r.gr d1).drewN _ | exact ((hT.r.gr d1).drewN _).drew)).mono ?_; rintro e w2 ⟨rfl, c2⟩; have d2 := d1.then (by first | exact c2 | exact c2.undrew | exact c2.undrewN | exact c2.undrew.undrewN)))
    all_goals (go_wp2; go_ret; exact ⟨rfl, by first | exact hT.gr d2 | exact hT.gr (d2.drewN _)⟩)
set_option maxHeartbeats 4000000 in
set_option maxRecDepth 100000 in
theorem act_byte {w w0 : World} {F G : Nat → Prop} {P T Q N M : Nat} {s : St} (h : Tw w F G P T Q N M s w0) (at_ v x r : Int)
    (h1 : Hid (∀ wx : World, Tx wx F T N 4096 s → Calls Try.prog 9 #[.pointer (some ⟨T, 0, none⟩), .int .i64 at_] wx fun e w' => e = .returned (.tuple #[.int .u8 x, .int .i64 r]) ∧ Ch (fun _ => False) wx w'))
    (h2 : Hid (∀ wx : World, Rx wx G Q M 4096 s → Calls Try.prog 66 #[.pointer (some ⟨Q, 0, none⟩), .int .i64 at_] wx fun e w' => e = .returned (.tuple #[.int .u8 x, .int .i64 r]) ∧ Ch (fun _ => False) wx w')) :
    Calls Try.prog 48 #[.pointer (some ⟨P, 0, none⟩), .agg #[.int .i64 4, .int .i64 at_, .int .u16 v]] w0 fun e w' => e = .returned (.bool true) ∧ Tw w F G P T Q N M s w' := by
  have c0 : Ch (fun _ => False) w0 (w0.alloc (.cells #[.int .i64 4, .int .i64 at_, .int .u16 v] 74)) := (Ch.refl _ _).alloc _
  have hB := Blk.new w0 #[.int .i64 4, .int .i64 at_, .int .u16 v] 74
  have hT := h.gr c0
  have bf : ¬ F w0.heap.size := fun hf => by have := h.t.n.fb _ hf; omega
  have bg : ¬ G w0.heap.size := fun hf => by have := h.r.n.fb _ hf; omega
  have hk := Lib.hid (fun (wy : World) (c : Ch (fun _ => False) (w0.alloc (.cells #[.int .i64 4, .int .i64 at_, .int .u16 v] 74)) wy) => show wy.cell? ⟨P, 0, none⟩ = some (.pointer (some ⟨T, 0, none⟩)) ∧ wy.cell? ⟨P, 1, none⟩ = some (.pointer (some ⟨Q, 0, none⟩)) ∧ wy.cell? ⟨w0.heap.size, 1, none⟩ = some (.int .i64 at_) from
    have k := hT.keeps hB bf bg c.gr
    ⟨k.1, k.2.1, k.2.2.2 1⟩)
  have q0 : (w0.alloc (.cells #[.int .i64 4, .int .i64 at_, .int .u16 v] 74)).cell? ⟨w0.heap.size, 0, none⟩ = some (.int .i64 4) := hB.cell 0
  obtain ⟨y0, y1, y3⟩ := hk.out _ (Ch.refl _ _)
  clear hB bf bg
  go_enter Try.func48, Try.ntmps48
  go_wp2_with (fail)
  go_region_held3 (fun w' => w'.cell? ⟨P, 0, none⟩ = some (.pointer (some ⟨T, 0, none⟩)) ∧ w'.cell? ⟨P, 1, none⟩ = some (.pointer (some ⟨Q, 0, none⟩)) ∧ w'.cell? ⟨w0.heap.size, 1, none⟩ = some (.int .i64 at_)) (first | exact ⟨y0, y1, y3⟩ | exact hk.out _ d1 | exact hk.out _ d1.drew) (first | (go_at_call 9; refine (h1.out _ (by first | exact hT.t | exact hT.t.drew | exact hT.t.drewN _)).mono ?_; rintro e w1 ⟨rfl, c1⟩; have d1 := (by first | exact c1 | exact c1.undrew | exact c1.undrewN : Ch (fun _ => False) (w0.alloc (.cells #[.int .i64 4, .int .i64 at_, .int .u16 v] 74)) w1)))
  all_goals
    obtain ⟨z0, z1, z3⟩ := hk.out _ d1
    clear y0 y1 y3 q0
    go_wp2_with (fail)
    go_region_held3 (fun w' => w'.cell? ⟨P, 0, none⟩ = some (.pointer (some ⟨T, 0, none⟩)) ∧ w'.cell? ⟨P, 1, none⟩ = some (.pointer (some ⟨Q, 0, none⟩)) ∧ w'.cell? ⟨w0.heap.size, 1, none⟩ = some (.int .i64 at_)) (first | exact ⟨z0, z1, z3⟩ | exact hk.out _ d1 | exact hk.out _ (d1.drewN _) | exact hk.out _ d2 | exact hk.out _ d2.drew) (first | (go_at_call 66; refine (h2.out _ (by first | exact hT.r.gr d1 | exact (hT.r.gr d1).drew | exact (hT.r.gr d1).drewN _ | exact ((hT.r.gr d1).drewN _).drew)).mono ?_; rintro e w2 ⟨rfl, c2⟩; have d2 := d1.then (by first | exact c2 | exact c2.undrew | exact c2.undrewN | exact c2.undrew.undrewN)))
    all_goals (go_wp2; go_ret; exact ⟨rfl, by first | exact hT.gr d2 | exact hT.gr (d2.drewN _)⟩)
end Go.Proofs.Ytfnlpmakhlpgcaa.Nvm
