/- The program's transactions beside the reference's: each act leaves both in one state. -/
import Derived.Test.YtfnlpmakhlpgcaaTxnRefU
import Derived.Test.YtfnlpmakhlpgcaaTxnNil
import Derived.Test.YtfnlpmakhlpgcaaSame
namespace Go.Proofs.Ytfnlpmakhlpgcaa.Nvm
open Go.RowKit Go.Proofs.Ytfnlpmakhlpgcaa.Base
/-- Both, of one state, in a world behind w. -/
structure Tw (w : World) (F G : Nat → Prop) (P T Q N M : Nat) (s : St) (w' : World) : Prop where
  p : Blk w' P #[.pointer (some ⟨T, 0, none⟩), .pointer (some ⟨Q, 0, none⟩)] 52
  t : Tx w' F T N 4096 s
  r : Rx w' G Q M 4096 s
  dj : ∀ k, F k → ¬ G k
  tg : ¬ G T
  qf : ¬ F Q
  pf : ¬ F P
  pg : ¬ G P
  lo : ∀ k, F k → w.heap.size ≤ k
  lo2 : ∀ k, G k → w.heap.size ≤ k
  ch : Ch (fun _ => False) w w'
theorem Tw.gr {w : World} {F G : Nat → Prop} {P T Q N M : Nat} {s : St} {w1 w2 : World} (h : Tw w F G P T Q N M s w1) (c : Ch (fun _ => False) w1 w2) : Tw w F G P T Q N M s w2 :=
  ⟨h.p.ch c (fun h => h), h.t.gr c, h.r.gr c, h.dj, h.tg, h.qf, h.pf, h.pg, h.lo, h.lo2, h.ch.then c⟩
/-- The reference's, behind the program's step. -/
theorem Tw.mid {w : World} {F G : Nat → Prop} {P T Q N M : Nat} {s : St} {w0 w1 : World} (h : Tw w F G P T Q N M s w0) (c : Ch F w0 w1) : Rx w1 G Q M 4096 s := h.r.ch c (fun k hk hf => h.dj k hf hk) h.qf
/-- Both have taken a step, the program's first. -/
theorem Tw.step {w : World} {F F' G : Nat → Prop} {P T Q N M : Nat} {s s' : St} {w0 w1 w2 : World} (h : Tw w F G P T Q N M s w0) (t : Tx w1 F' T N 4096 s') (c : Ch F w0 w1) (r : Rx w2 G Q M 4096 s') (d : Ch G w1 w2)
    (hF : ∀ k, F' k → F k ∨ w0.heap.size ≤ k) : Tw w F' G P T Q N M s' w2 := by
  have hs := h.ch.size
  have dj : ∀ k, F' k → ¬ G k := fun k hk hg => by
    rcases hF k hk with h1 | h1
    · exact h.dj k h1 hg
    · have := h.r.n.fb k hg; omega
  have out : ∀ k, k < w0.heap.size → ¬ F k → ¬ F' k := fun k hk hn hf => by
    rcases hF k hf with h1 | h1
    · exact hn h1
    · omega
  refine ⟨(h.p.ch c h.pf).ch d h.pg, t.ch d dj h.tg, r, dj, h.tg, out Q h.r.t.lt h.qf, out P h.p.lt h.pf, h.pg, fun k hk => ?_, h.lo2, (h.ch.trans c (U := fun _ => False) (fun _ h => h) (fun i hi => Or.inr (h.lo i hi))).trans d (fun _ h => h) (fun i hi => Or.inr (h.lo2 i hi))⟩
  rcases hF k hk with h1 | h1
  · exact h.lo k h1
  · omega
/-- The cells that an act reads stay, whatever the memories do. -/
theorem Tw.keeps {w : World} {F G : Nat → Prop} {P T Q N M B : Nat} {s : St} {w0 wy : World} {cs : Array Value} (h : Tw w F G P T Q N M s w0) (hB : Blk w0 B cs 74) (bf : ¬ F B) (bg : ¬ G B) (c : Ch (fun k => F k ∨ G k) w0 wy) :
    wy.cell? ⟨P, 0, none⟩ = some (.pointer (some ⟨T, 0, none⟩)) ∧ wy.cell? ⟨P, 1, none⟩ = some (.pointer (some ⟨Q, 0, none⟩)) ∧ wy.cell? ⟨Q, 0, none⟩ = some (.pointer (some ⟨M, 0, none⟩)) ∧ ∀ j, wy.cell? ⟨B, j, none⟩ = cs[j]? := by
  have hp := h.p.ch c (fun hk => by rcases hk with hk | hk; exact h.pf hk; exact h.pg hk)
  have hq := h.r.t.ch c (fun hk => by rcases hk with hk | hk; exact h.qf hk; exact h.r.ft hk)
  have hb := hB.ch c (fun hk => by rcases hk with hk | hk; exact bf hk; exact bg hk)
  exact ⟨hp.cell 0, hp.cell 1, hq.cell 0, hb.cell⟩
set_option maxHeartbeats 4000000 in
set_option maxRecDepth 100000 in
theorem act_put {w w0 : World} {F G : Nat → Prop} {P T Q N M : Nat} {s : St} (h : Tw w F G P T Q N M s w0) (at_ v : Int) (R1 : St) (r : Int)
    (h1 : Hid (∀ wx : World, Tx wx F T N 4096 s → Calls Try.prog 10 #[.pointer (some ⟨T, 0, none⟩), .int .i64 at_, .int .u16 v] wx fun e w' => e = .returned (.int .i64 r) ∧ Tx w' F T N 4096 R1 ∧ Ch F wx w'))
    (h2 : Hid (∀ wx : World, Rx wx G Q M 4096 s → Calls Try.prog 62 #[.pointer (some ⟨Q, 0, none⟩), .int .i64 at_, .int .u16 v] wx fun e w' => e = .returned (.int .i64 r) ∧ Rx w' G Q M 4096 R1 ∧ Ch G wx w')) :
    Calls Try.prog 48 #[.pointer (some ⟨P, 0, none⟩), .agg #[.int .i64 0, .int .i64 at_, .int .u16 v]] w0 fun e w' => e = .returned (.bool true) ∧ Tw w F G P T Q N M R1 w' := by
  have c0 : Ch (fun _ => False) w0 (w0.alloc (.cells #[.int .i64 0, .int .i64 at_, .int .u16 v] 74)) := (Ch.refl _ _).alloc _
  have hB := Blk.new w0 #[.int .i64 0, .int .i64 at_, .int .u16 v] 74
  have hT := h.gr c0
  have bf : ¬ F w0.heap.size := fun hf => by have := h.t.n.fb _ hf; omega
  have bg : ¬ G w0.heap.size := fun hf => by have := h.r.n.fb _ hf; omega
  have hk := Lib.hid (fun (wy : World) (c : Ch (fun k => F k ∨ G k) (w0.alloc (.cells #[.int .i64 0, .int .i64 at_, .int .u16 v] 74)) wy) => show wy.cell? ⟨P, 0, none⟩ = some (.pointer (some ⟨T, 0, none⟩)) ∧ wy.cell? ⟨P, 1, none⟩ = some (.pointer (some ⟨Q, 0, none⟩)) ∧ wy.cell? ⟨w0.heap.size, 1, none⟩ = some (.int .i64 at_) ∧ wy.cell? ⟨w0.heap.size, 2, none⟩ = some (.int .u16 v) from
    have k := hT.keeps hB bf bg c
    ⟨k.1, k.2.1, k.2.2.2 1, k.2.2.2 2⟩)
  have q0 : (w0.alloc (.cells #[.int .i64 0, .int .i64 at_, .int .u16 v] 74)).cell? ⟨w0.heap.size, 0, none⟩ = some (.int .i64 0) := hB.cell 0
  obtain ⟨y0, y1, y3, y4⟩ := hk.out _ (Ch.refl _ _)
  clear hB bf bg
  go_enter Try.func48, Try.ntmps48
  go_wp2_with (fail)
  go_region_held3 (fun w' => w'.cell? ⟨P, 0, none⟩ = some (.pointer (some ⟨T, 0, none⟩)) ∧ w'.cell? ⟨P, 1, none⟩ = some (.pointer (some ⟨Q, 0, none⟩)) ∧ w'.cell? ⟨w0.heap.size, 1, none⟩ = some (.int .i64 at_) ∧ w'.cell? ⟨w0.heap.size, 2, none⟩ = some (.int .u16 v)) (first | exact ⟨y0, y1, y3, y4⟩ | exact hk.out _ d2 | exact hk.out _ (d1.mono (fun _ h => Or.inl h)) | exact hk.out _ (d1.mono (fun _ h => Or.inl h)).drew) (first | (go_at_call 62; refine (h2.out _ (by first | exact hT.mid d1 | exact (hT.mid d1).drew)).mono ?_; rintro e w2 ⟨rfl, t2, c2⟩; have j2 : Ch G w1 w2 := (by first | exact c2 | exact c2.undrew | exact c2.undrewN); have d2 := (d1.mono (T := fun k => F k ∨ G k) (fun _ h => Or.inl h)).then (j2.mono (fun _ h => Or.inr h))) | (go_at_call 10; refine (h1.out _ (by first | exact hT.t | exact hT.t.drew | exact hT.t.drewN _)).mono ?_; rintro e w1 ⟨rfl, t1, c1⟩; have d1 := (by first | exact c1 | exact c1.undrew | exact c1.undrewN : Ch F (w0.alloc (.cells #[.int .i64 0, .int .i64 at_, .int .u16 v] 74)) w1)))
  all_goals (go_wp2; go_ret; exact ⟨rfl, by first | exact hT.step t1 d1 t2 j2 (fun _ h => Or.inl h) | exact (hT.step t1 d1 t2 j2 (fun _ h => Or.inl h)).gr ((Ch.refl _ _).drewN _)⟩)
set_option maxHeartbeats 4000000 in
set_option maxRecDepth 100000 in
theorem act_putb {w w0 : World} {F G : Nat → Prop} {P T Q N M : Nat} {s : St} (h : Tw w F G P T Q N M s w0) (at_ v : Int) (R1 : St) (r : Int)
    (h1 : Hid (∀ wx : World, Tx wx F T N 4096 s → Calls Try.prog 11 #[.pointer (some ⟨T, 0, none⟩), .int .i64 at_, .int .u8 (IntKind.u8.wrap v)] wx fun e w' => e = .returned (.int .i64 r) ∧ Tx w' F T N 4096 R1 ∧ Ch F wx w'))
    (h2 : Hid (∀ wx : World, Rx wx G Q M 4096 s → Calls Try.prog 63 #[.pointer (some ⟨Q, 0, none⟩), .int .i64 at_, .int .u8 (IntKind.u8.wrap v)] wx fun e w' => e = .returned (.int .i64 r) ∧ Rx w' G Q M 4096 R1 ∧ Ch G wx w')) :
    Calls Try.prog 48 #[.pointer (some ⟨P, 0, none⟩), .agg #[.int .i64 1, .int .i64 at_, .int .u16 v]] w0 fun e w' => e = .returned (.bool true) ∧ Tw w F G P T Q N M R1 w' := by
  have c0 : Ch (fun _ => False) w0 (w0.alloc (.cells #[.int .i64 1, .int .i64 at_, .int .u16 v] 74)) := (Ch.refl _ _).alloc _
  have hB := Blk.new w0 #[.int .i64 1, .int .i64 at_, .int .u16 v] 74
  have hT := h.gr c0
  have bf : ¬ F w0.heap.size := fun hf => by have := h.t.n.fb _ hf; omega
  have bg : ¬ G w0.heap.size := fun hf => by have := h.r.n.fb _ hf; omega
  have hk := Lib.hid (fun (wy : World) (c : Ch (fun k => F k ∨ G k) (w0.alloc (.cells #[.int .i64 1, .int .i64 at_, .int .u16 v] 74)) wy) => show wy.cell? ⟨P, 0, none⟩ = some (.pointer (some ⟨T, 0, none⟩)) ∧ wy.cell? ⟨P, 1, none⟩ = some (.pointer (some ⟨Q, 0, none⟩)) ∧ wy.cell? ⟨w0.heap.size, 1, none⟩ = some (.int .i64 at_) ∧ wy.cell? ⟨w0.heap.size, 2, none⟩ = some (.int .u16 v) from
    have k := hT.keeps hB bf bg c
    ⟨k.1, k.2.1, k.2.2.2 1, k.2.2.2 2⟩)
  have q0 : (w0.alloc (.cells #[.int .i64 1, .int .i64 at_, .int .u16 v] 74)).cell? ⟨w0.heap.size, 0, none⟩ = some (.int .i64 1) := hB.cell 0
  obtain ⟨y0, y1, y3, y4⟩ := hk.out _ (Ch.refl _ _)
  clear hB bf bg
  go_enter Try.func48, Try.ntmps48
  go_wp2_with (fail)
  go_region_held3 (fun w' => w'.cell? ⟨P, 0, none⟩ = some (.pointer (some ⟨T, 0, none⟩)) ∧ w'.cell? ⟨P, 1, none⟩ = some (.pointer (some ⟨Q, 0, none⟩)) ∧ w'.cell? ⟨w0.heap.size, 1, none⟩ = some (.int .i64 at_) ∧ w'.cell? ⟨w0.heap.size, 2, none⟩ = some (.int .u16 v)) (first | exact ⟨y0, y1, y3, y4⟩ | exact hk.out _ d2 | exact hk.out _ (d1.mono (fun _ h => Or.inl h)) | exact hk.out _ (d1.mono (fun _ h => Or.inl h)).drew) (first | (go_at_call 63; refine (h2.out _ (by first | exact hT.mid d1 | exact (hT.mid d1).drew)).mono ?_; rintro e w2 ⟨rfl, t2, c2⟩; have j2 : Ch G w1 w2 := (by first | exact c2 | exact c2.undrew | exact c2.undrewN); have d2 := (d1.mono (T := fun k => F k ∨ G k) (fun _ h => Or.inl h)).then (j2.mono (fun _ h => Or.inr h))) | (go_at_call 11; refine (h1.out _ (by first | exact hT.t | exact hT.t.drew | exact hT.t.drewN _)).mono ?_; rintro e w1 ⟨rfl, t1, c1⟩; have d1 := (by first | exact c1 | exact c1.undrew | exact c1.undrewN : Ch F (w0.alloc (.cells #[.int .i64 1, .int .i64 at_, .int .u16 v] 74)) w1)))
  all_goals (go_wp2; go_ret; exact ⟨rfl, by first | exact hT.step t1 d1 t2 j2 (fun _ h => Or.inl h) | exact (hT.step t1 d1 t2 j2 (fun _ h => Or.inl h)).gr ((Ch.refl _ _).drewN _)⟩)
set_option maxHeartbeats 4000000 in
set_option maxRecDepth 100000 in
theorem act_raw {w w0 : World} {F G : Nat → Prop} {P T Q N M : Nat} {s : St} (h : Tw w F G P T Q N M s w0) (at_ v : Int) (R1 : St) (r : Int)
    (h1 : Hid (∀ wx : World, Tx wx F T N 4096 s → Calls Try.prog 12 #[.pointer (some ⟨T, 0, none⟩), .int .i64 at_, .int .u8 (IntKind.u8.wrap v)] wx fun e w' => e = .returned (.int .i64 r) ∧ Tx w' F T N 4096 R1 ∧ Ch F wx w'))
    (h2 : Hid (∀ wx : World, Rx wx G Q M 4096 s → Calls Try.prog 64 #[.pointer (some ⟨Q, 0, none⟩), .int .i64 at_, .int .u8 (IntKind.u8.wrap v)] wx fun e w' => e = .returned (.int .i64 r) ∧ Rx w' G Q M 4096 R1 ∧ Ch G wx w')) :
    Calls Try.prog 48 #[.pointer (some ⟨P, 0, none⟩), .agg #[.int .i64 2, .int .i64 at_, .int .u16 v]] w0 fun e w' => e = .returned (.bool true) ∧ Tw w F G P T Q N M R1 w' := by
  have c0 : Ch (fun _ => False) w0 (w0.alloc (.cells #[.int .i64 2, .int .i64 at_, .int .u16 v] 74)) := (Ch.refl _ _).alloc _
  have hB := Blk.new w0 #[.int .i64 2, .int .i64 at_, .int .u16 v] 74
  have hT := h.gr c0
  have bf : ¬ F w0.heap.size := fun hf => by have := h.t.n.fb _ hf; omega
  have bg : ¬ G w0.heap.size := fun hf => by have := h.r.n.fb _ hf; omega
  have hk := Lib.hid (fun (wy : World) (c : Ch (fun k => F k ∨ G k) (w0.alloc (.cells #[.int .i64 2, .int .i64 at_, .int .u16 v] 74)) wy) => show wy.cell? ⟨P, 0, none⟩ = some (.pointer (some ⟨T, 0, none⟩)) ∧ wy.cell? ⟨P, 1, none⟩ = some (.pointer (some ⟨Q, 0, none⟩)) ∧ wy.cell? ⟨w0.heap.size, 1, none⟩ = some (.int .i64 at_) ∧ wy.cell? ⟨w0.heap.size, 2, none⟩ = some (.int .u16 v) from
    have k := hT.keeps hB bf bg c
    ⟨k.1, k.2.1, k.2.2.2 1, k.2.2.2 2⟩)
  have q0 : (w0.alloc (.cells #[.int .i64 2, .int .i64 at_, .int .u16 v] 74)).cell? ⟨w0.heap.size, 0, none⟩ = some (.int .i64 2) := hB.cell 0
  obtain ⟨y0, y1, y3, y4⟩ := hk.out _ (Ch.refl _ _)
  clear hB bf bg
  go_enter Try.func48, Try.ntmps48
  go_wp2_with (fail)
  go_region_held3 (fun w' => w'.cell? ⟨P, 0, none⟩ = some (.pointer (some ⟨T, 0, none⟩)) ∧ w'.cell? ⟨P, 1, none⟩ = some (.pointer (some ⟨Q, 0, none⟩)) ∧ w'.cell? ⟨w0.heap.size, 1, none⟩ = some (.int .i64 at_) ∧ w'.cell? ⟨w0.heap.size, 2, none⟩ = some (.int .u16 v)) (first | exact ⟨y0, y1, y3, y4⟩ | exact hk.out _ d2 | exact hk.out _ (d1.mono (fun _ h => Or.inl h)) | exact hk.out _ (d1.mono (fun _ h => Or.inl h)).drew) (first | (go_at_call 64; refine (h2.out _ (by first | exact hT.mid d1 | exact (hT.mid d1).drew)).mono ?_; rintro e w2 ⟨rfl, t2, c2⟩; have j2 : Ch G w1 w2 := (by first | exact c2 | exact c2.undrew | exact c2.undrewN); have d2 := (d1.mono (T := fun k => F k ∨ G k) (fun _ h => Or.inl h)).then (j2.mono (fun _ h => Or.inr h))) | (go_at_call 12; refine (h1.out _ (by first | exact hT.t | exact hT.t.drew | exact hT.t.drewN _)).mono ?_; rintro e w1 ⟨rfl, t1, c1⟩; have d1 := (by first | exact c1 | exact c1.undrew | exact c1.undrewN : Ch F (w0.alloc (.cells #[.int .i64 2, .int .i64 at_, .int .u16 v] 74)) w1)))
  all_goals (go_wp2; go_ret; exact ⟨rfl, by first | exact hT.step t1 d1 t2 j2 (fun _ h => Or.inl h) | exact (hT.step t1 d1 t2 j2 (fun _ h => Or.inl h)).gr ((Ch.refl _ _).drewN _)⟩)
set_option maxHeartbeats 4000000 in
set_option maxRecDepth 100000 in
theorem act_begin {w w0 : World} {F G : Nat → Prop} {P T Q N M : Nat} {s : St} (h : Tw w F G P T Q N M s w0) (at_ v : Int) (R1 : St) (r : Int)
    (h1 : Hid (∀ wx : World, Tx wx F T N 4096 s → Calls Try.prog 13 #[.pointer (some ⟨T, 0, none⟩)] wx fun e w' => e = .returned (.int .i64 r) ∧ Tx w' F T N 4096 R1 ∧ Ch F wx w'))
    (h2 : Hid (∀ wx : World, Rx wx G Q M 4096 s → Calls Try.prog 67 #[.pointer (some ⟨Q, 0, none⟩)] wx fun e w' => e = .returned (.int .i64 r) ∧ Rx w' G Q M 4096 R1 ∧ Ch G wx w')) :
    Calls Try.prog 48 #[.pointer (some ⟨P, 0, none⟩), .agg #[.int .i64 5, .int .i64 at_, .int .u16 v]] w0 fun e w' => e = .returned (.bool true) ∧ Tw w F G P T Q N M R1 w' := by
  have c0 : Ch (fun _ => False) w0 (w0.alloc (.cells #[.int .i64 5, .int .i64 at_, .int .u16 v] 74)) := (Ch.refl _ _).alloc _
  have hB := Blk.new w0 #[.int .i64 5, .int .i64 at_, .int .u16 v] 74
  have hT := h.gr c0
  have bf : ¬ F w0.heap.size := fun hf => by have := h.t.n.fb _ hf; omega
  have bg : ¬ G w0.heap.size := fun hf => by have := h.r.n.fb _ hf; omega
  have hk := Lib.hid (fun (wy : World) (c : Ch (fun k => F k ∨ G k) (w0.alloc (.cells #[.int .i64 5, .int .i64 at_, .int .u16 v] 74)) wy) => show wy.cell? ⟨P, 0, none⟩ = some (.pointer (some ⟨T, 0, none⟩)) ∧ wy.cell? ⟨P, 1, none⟩ = some (.pointer (some ⟨Q, 0, none⟩)) ∧ wy.cell? ⟨w0.heap.size, 1, none⟩ = some (.int .i64 at_) ∧ wy.cell? ⟨w0.heap.size, 2, none⟩ = some (.int .u16 v) from
    have k := hT.keeps hB bf bg c
    ⟨k.1, k.2.1, k.2.2.2 1, k.2.2.2 2⟩)
  have q0 : (w0.alloc (.cells #[.int .i64 5, .int .i64 at_, .int .u16 v] 74)).cell? ⟨w0.heap.size, 0, none⟩ = some (.int .i64 5) := hB.cell 0
  obtain ⟨y0, y1, y3, y4⟩ := hk.out _ (Ch.refl _ _)
  clear hB bf bg
  go_enter Try.func48, Try.ntmps48
  go_wp2_with (fail)
  go_region_held3 (fun w' => w'.cell? ⟨P, 0, none⟩ = some (.pointer (some ⟨T, 0, none⟩)) ∧ w'.cell? ⟨P, 1, none⟩ = some (.pointer (some ⟨Q, 0, none⟩)) ∧ w'.cell? ⟨w0.heap.size, 1, none⟩ = some (.int .i64 at_) ∧ w'.cell? ⟨w0.heap.size, 2, none⟩ = some (.int .u16 v)) (first | exact ⟨y0, y1, y3, y4⟩ | exact hk.out _ d2 | exact hk.out _ (d1.mono (fun _ h => Or.inl h)) | exact hk.out _ (d1.mono (fun _ h => Or.inl h)).drew) (first | (go_at_call 67; refine (h2.out _ (by first | exact hT.mid d1 | exact (hT.mid d1).drew)).mono ?_; rintro e w2 ⟨rfl, t2, c2⟩; have j2 : Ch G w1 w2 := (by first | exact c2 | exact c2.undrew | exact c2.undrewN); have d2 := (d1.mono (T := fun k => F k ∨ G k) (fun _ h => Or.inl h)).then (j2.mono (fun _ h => Or.inr h))) | (go_at_call 13; refine (h1.out _ (by first | exact hT.t | exact hT.t.drew | exact hT.t.drewN _)).mono ?_; rintro e w1 ⟨rfl, t1, c1⟩; have d1 := (by first | exact c1 | exact c1.undrew | exact c1.undrewN : Ch F (w0.alloc (.cells #[.int .i64 5, .int .i64 at_, .int .u16 v] 74)) w1)))
  all_goals (go_wp2; go_ret; exact ⟨rfl, by first | exact hT.step t1 d1 t2 j2 (fun _ h => Or.inl h) | exact (hT.step t1 d1 t2 j2 (fun _ h => Or.inl h)).gr ((Ch.refl _ _).drewN _)⟩)
set_option maxHeartbeats 4000000 in
set_option maxRecDepth 100000 in
theorem act_commit {w w0 : World} {F G : Nat → Prop} {P T Q N M : Nat} {s : St} (h : Tw w F G P T Q N M s w0) (at_ v : Int) (R1 : St) (r : Int)
    (h1 : Hid (∀ wx : World, Tx wx F T N 4096 s → Calls Try.prog 14 #[.pointer (some ⟨T, 0, none⟩)] wx fun e w' => e = .returned (.int .i64 r) ∧ Tx w' F T N 4096 R1 ∧ Ch F wx w'))
    (h2 : Hid (∀ wx : World, Rx wx G Q M 4096 s → Calls Try.prog 68 #[.pointer (some ⟨Q, 0, none⟩)] wx fun e w' => e = .returned (.int .i64 r) ∧ Rx w' G Q M 4096 R1 ∧ Ch G wx w')) :
    Calls Try.prog 48 #[.pointer (some ⟨P, 0, none⟩), .agg #[.int .i64 6, .int .i64 at_, .int .u16 v]] w0 fun e w' => e = .returned (.bool true) ∧ Tw w F G P T Q N M R1 w' := by
  have c0 : Ch (fun _ => False) w0 (w0.alloc (.cells #[.int .i64 6, .int .i64 at_, .int .u16 v] 74)) := (Ch.refl _ _).alloc _
  have hB := Blk.new w0 #[.int .i64 6, .int .i64 at_, .int .u16 v] 74
  have hT := h.gr c0
  have bf : ¬ F w0.heap.size := fun hf => by have := h.t.n.fb _ hf; omega
  have bg : ¬ G w0.heap.size := fun hf => by have := h.r.n.fb _ hf; omega
  have hk := Lib.hid (fun (wy : World) (c : Ch (fun k => F k ∨ G k) (w0.alloc (.cells #[.int .i64 6, .int .i64 at_, .int .u16 v] 74)) wy) => show wy.cell? ⟨P, 0, none⟩ = some (.pointer (some ⟨T, 0, none⟩)) ∧ wy.cell? ⟨P, 1, none⟩ = some (.pointer (some ⟨Q, 0, none⟩)) ∧ wy.cell? ⟨w0.heap.size, 1, none⟩ = some (.int .i64 at_) ∧ wy.cell? ⟨w0.heap.size, 2, none⟩ = some (.int .u16 v) from
    have k := hT.keeps hB bf bg c
    ⟨k.1, k.2.1, k.2.2.2 1, k.2.2.2 2⟩)
  have q0 : (w0.alloc (.cells #[.int .i64 6, .int .i64 at_, .int .u16 v] 74)).cell? ⟨w0.heap.size, 0, none⟩ = some (.int .i64 6) := hB.cell 0
  obtain ⟨y0, y1, y3, y4⟩ := hk.out _ (Ch.refl _ _)
  clear hB bf bg
  go_enter Try.func48, Try.ntmps48
  go_wp2_with (fail)
  go_region_held3 (fun w' => w'.cell? ⟨P, 0, none⟩ = some (.pointer (some ⟨T, 0, none⟩)) ∧ w'.cell? ⟨P, 1, none⟩ = some (.pointer (some ⟨Q, 0, none⟩)) ∧ w'.cell? ⟨w0.heap.size, 1, none⟩ = some (.int .i64 at_) ∧ w'.cell? ⟨w0.heap.size, 2, none⟩ = some (.int .u16 v)) (first | exact ⟨y0, y1, y3, y4⟩ | exact hk.out _ d2 | exact hk.out _ (d1.mono (fun _ h => Or.inl h)) | exact hk.out _ (d1.mono (fun _ h => Or.inl h)).drew) (first | (go_at_call 68; refine (h2.out _ (by first | exact hT.mid d1 | exact (hT.mid d1).drew)).mono ?_; rintro e w2 ⟨rfl, t2, c2⟩; have j2 : Ch G w1 w2 := (by first | exact c2 | exact c2.undrew | exact c2.undrewN); have d2 := (d1.mono (T := fun k => F k ∨ G k) (fun _ h => Or.inl h)).then (j2.mono (fun _ h => Or.inr h))) | (go_at_call 14; refine (h1.out _ (by first | exact hT.t | exact hT.t.drew | exact hT.t.drewN _)).mono ?_; rintro e w1 ⟨rfl, t1, c1⟩; have d1 := (by first | exact c1 | exact c1.undrew | exact c1.undrewN : Ch F (w0.alloc (.cells #[.int .i64 6, .int .i64 at_, .int .u16 v] 74)) w1)))
  all_goals (go_wp2; go_ret; exact ⟨rfl, by first | exact hT.step t1 d1 t2 j2 (fun _ h => Or.inl h) | exact (hT.step t1 d1 t2 j2 (fun _ h => Or.inl h)).gr ((Ch.refl _ _).drewN _)⟩)
set_option maxHeartbeats 4000000 in
set_option maxRecDepth 100000 in
theorem act_abort {w w0 : World} {F G : Nat → Prop} {P T Q N M : Nat} {s : St} (h : Tw w F G P T Q N M s w0) (at_ v : Int) (R1 : St) (r : Int)
    (h1 : Hid (∀ wx : World, Tx wx F T N 4096 s → Calls Try.prog 15 #[.pointer (some ⟨T, 0, none⟩)] wx fun e w' => e = .returned (.int .i64 r) ∧ Tx w' F T N 4096 R1 ∧ Ch F wx w'))
    (h2 : Hid (∀ wx : World, Rx wx G Q M 4096 s → Calls Try.prog 69 #[.pointer (some ⟨Q, 0, none⟩)] wx fun e w' => e = .returned (.int .i64 r) ∧ Rx w' G Q M 4096 R1 ∧ Ch G wx w')) :
    Calls Try.prog 48 #[.pointer (some ⟨P, 0, none⟩), .agg #[.int .i64 7, .int .i64 at_, .int .u16 v]] w0 fun e w' => e = .returned (.bool true) ∧ Tw w F G P T Q N M R1 w' := by
  have c0 : Ch (fun _ => False) w0 (w0.alloc (.cells #[.int .i64 7, .int .i64 at_, .int .u16 v] 74)) := (Ch.refl _ _).alloc _
  have hB := Blk.new w0 #[.int .i64 7, .int .i64 at_, .int .u16 v] 74
  have hT := h.gr c0
  have bf : ¬ F w0.heap.size := fun hf => by have := h.t.n.fb _ hf; omega
  have bg : ¬ G w0.heap.size := fun hf => by have := h.r.n.fb _ hf; omega
  have hk := Lib.hid (fun (wy : World) (c : Ch (fun k => F k ∨ G k) (w0.alloc (.cells #[.int .i64 7, .int .i64 at_, .int .u16 v] 74)) wy) => show wy.cell? ⟨P, 0, none⟩ = some (.pointer (some ⟨T, 0, none⟩)) ∧ wy.cell? ⟨P, 1, none⟩ = some (.pointer (some ⟨Q, 0, none⟩)) ∧ wy.cell? ⟨w0.heap.size, 1, none⟩ = some (.int .i64 at_) ∧ wy.cell? ⟨w0.heap.size, 2, none⟩ = some (.int .u16 v) from
    have k := hT.keeps hB bf bg c
    ⟨k.1, k.2.1, k.2.2.2 1, k.2.2.2 2⟩)
  have q0 : (w0.alloc (.cells #[.int .i64 7, .int .i64 at_, .int .u16 v] 74)).cell? ⟨w0.heap.size, 0, none⟩ = some (.int .i64 7) := hB.cell 0
  obtain ⟨y0, y1, y3, y4⟩ := hk.out _ (Ch.refl _ _)
  clear hB bf bg
  go_enter Try.func48, Try.ntmps48
  go_wp2_with (fail)
  go_region_held3 (fun w' => w'.cell? ⟨P, 0, none⟩ = some (.pointer (some ⟨T, 0, none⟩)) ∧ w'.cell? ⟨P, 1, none⟩ = some (.pointer (some ⟨Q, 0, none⟩)) ∧ w'.cell? ⟨w0.heap.size, 1, none⟩ = some (.int .i64 at_) ∧ w'.cell? ⟨w0.heap.size, 2, none⟩ = some (.int .u16 v)) (first | exact ⟨y0, y1, y3, y4⟩ | exact hk.out _ d2 | exact hk.out _ (d1.mono (fun _ h => Or.inl h)) | exact hk.out _ (d1.mono (fun _ h => Or.inl h)).drew) (first | (go_at_call 69; refine (h2.out _ (by first | exact hT.mid d1 | exact (hT.mid d1).drew)).mono ?_; rintro e w2 ⟨rfl, t2, c2⟩; have j2 : Ch G w1 w2 := (by first | exact c2 | exact c2.undrew | exact c2.undrewN); have d2 := (d1.mono (T := fun k => F k ∨ G k) (fun _ h => Or.inl h)).then (j2.mono (fun _ h => Or.inr h))) | (go_at_call 15; refine (h1.out _ (by first | exact hT.t | exact hT.t.drew | exact hT.t.drewN _)).mono ?_; rintro e w1 ⟨rfl, t1, c1⟩; have d1 := (by first | exact c1 | exact c1.undrew | exact c1.undrewN : Ch F (w0.alloc (.cells #[.int .i64 7, .int .i64 at_, .int .u16 v] 74)) w1)))
  all_goals (go_wp2; go_ret; exact ⟨rfl, by first | exact hT.step t1 d1 t2 j2 (fun _ h => Or.inl h) | exact (hT.step t1 d1 t2 j2 (fun _ h => Or.inl h)).gr ((Ch.refl _ _).drewN _)⟩)
set_option maxHeartbeats 4000000 in
set_option maxRecDepth 100000 in
theorem act_recover {w w0 : World} {F G : Nat → Prop} {P T Q N M : Nat} {s : St} (h : Tw w F G P T Q N M s w0) (at_ v : Int) (R1 : St) (r : Int)
    (h1 : Hid (∀ wx : World, Tx wx F T N 4096 s → Calls Try.prog 16 #[.pointer (some ⟨T, 0, none⟩)] wx fun e w' => e = .returned (.int .i64 r) ∧ Tx w' F T N 4096 R1 ∧ Ch F wx w'))
    (h2 : Hid (∀ wx : World, Rx wx G Q M 4096 s → Calls Try.prog 51 #[.pointer (some ⟨Q, 0, none⟩)] wx fun e w' => e = .returned (.int .i64 r) ∧ Rx w' G Q M 4096 R1 ∧ Ch G wx w')) :
    Calls Try.prog 48 #[.pointer (some ⟨P, 0, none⟩), .agg #[.int .i64 8, .int .i64 at_, .int .u16 v]] w0 fun e w' => e = .returned (.bool true) ∧ Tw w F G P T Q N M R1 w' := by
  have c0 : Ch (fun _ => False) w0 (w0.alloc (.cells #[.int .i64 8, .int .i64 at_, .int .u16 v] 74)) := (Ch.refl _ _).alloc _
  have hB := Blk.new w0 #[.int .i64 8, .int .i64 at_, .int .u16 v] 74
  have hT := h.gr c0
  have bf : ¬ F w0.heap.size := fun hf => by have := h.t.n.fb _ hf; omega
  have bg : ¬ G w0.heap.size := fun hf => by have := h.r.n.fb _ hf; omega
  have hk := Lib.hid (fun (wy : World) (c : Ch (fun k => F k ∨ G k) (w0.alloc (.cells #[.int .i64 8, .int .i64 at_, .int .u16 v] 74)) wy) => show wy.cell? ⟨P, 0, none⟩ = some (.pointer (some ⟨T, 0, none⟩)) ∧ wy.cell? ⟨P, 1, none⟩ = some (.pointer (some ⟨Q, 0, none⟩)) ∧ wy.cell? ⟨w0.heap.size, 1, none⟩ = some (.int .i64 at_) ∧ wy.cell? ⟨w0.heap.size, 2, none⟩ = some (.int .u16 v) from
    have k := hT.keeps hB bf bg c
    ⟨k.1, k.2.1, k.2.2.2 1, k.2.2.2 2⟩)
  have q0 : (w0.alloc (.cells #[.int .i64 8, .int .i64 at_, .int .u16 v] 74)).cell? ⟨w0.heap.size, 0, none⟩ = some (.int .i64 8) := hB.cell 0
  obtain ⟨y0, y1, y3, y4⟩ := hk.out _ (Ch.refl _ _)
  clear hB bf bg
  go_enter Try.func48, Try.ntmps48
  go_wp2_with (fail)
  go_region_held3 (fun w' => w'.cell? ⟨P, 0, none⟩ = some (.pointer (some ⟨T, 0, none⟩)) ∧ w'.cell? ⟨P, 1, none⟩ = some (.pointer (some ⟨Q, 0, none⟩)) ∧ w'.cell? ⟨w0.heap.size, 1, none⟩ = some (.int .i64 at_) ∧ w'.cell? ⟨w0.heap.size, 2, none⟩ = some (.int .u16 v)) (first | exact ⟨y0, y1, y3, y4⟩ | exact hk.out _ d2 | exact hk.out _ (d1.mono (fun _ h => Or.inl h)) | exact hk.out _ (d1.mono (fun _ h => Or.inl h)).drew) (first | (go_at_call 51; refine (h2.out _ (by first | exact hT.mid d1 | exact (hT.mid d1).drew)).mono ?_; rintro e w2 ⟨rfl, t2, c2⟩; have j2 : Ch G w1 w2 := (by first | exact c2 | exact c2.undrew | exact c2.undrewN); have d2 := (d1.mono (T := fun k => F k ∨ G k) (fun _ h => Or.inl h)).then (j2.mono (fun _ h => Or.inr h))) | (go_at_call 16; refine (h1.out _ (by first | exact hT.t | exact hT.t.drew | exact hT.t.drewN _)).mono ?_; rintro e w1 ⟨rfl, t1, c1⟩; have d1 := (by first | exact c1 | exact c1.undrew | exact c1.undrewN : Ch F (w0.alloc (.cells #[.int .i64 8, .int .i64 at_, .int .u16 v] 74)) w1)))
  all_goals (go_wp2; go_ret; exact ⟨rfl, by first | exact hT.step t1 d1 t2 j2 (fun _ h => Or.inl h) | exact (hT.step t1 d1 t2 j2 (fun _ h => Or.inl h)).gr ((Ch.refl _ _).drewN _)⟩)
end Go.Proofs.Ytfnlpmakhlpgcaa.Nvm
