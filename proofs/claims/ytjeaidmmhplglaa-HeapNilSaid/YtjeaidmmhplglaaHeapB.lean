/- The walks of heap: heads. -/
import Derived.Test.YtjeaidmmhplglaaHeapA
set_option linter.unusedVariables false
set_option linter.unusedSimpArgs false
namespace Go.Proofs.Ytjeaidmmhplglaa.Nvm
open Go.RowKit Go.Proofs.Ytjeaidmmhplglaa.Base
theorem and15 (x : Nat) (h : x < 65536) : bits .and .i64 (x : Int) 32768 = ((x / 32768 * 32768 : Nat) : Int) := by
  show IntKind.i64.wrap ((BitVec.ofInt 64 (x : Int) &&& BitVec.ofInt 64 32768).toNat : Int) = _
  have h1 : (BitVec.ofInt 64 (x : Int)).toNat = x := by rw [BitVec.ofInt_natCast, BitVec.toNat_ofNat]; exact Nat.mod_eq_of_lt (by omega)
  have h2 : (BitVec.ofInt 64 32768).toNat = 2 ^ 15 := by decide
  rw [BitVec.toNat_and, h1, h2, nat_bit, wr64 (by omega) (by omega)]
  omega
theorem andNot15 (x : Nat) (h : x < 65536) : bits .andNot .i64 (x : Int) 32768 = ((x % 32768 : Nat) : Int) := by
  show IntKind.i64.wrap ((BitVec.ofInt 64 (x : Int) &&& ~~~ BitVec.ofInt 64 32768).toNat : Int) = _
  have h1 : (BitVec.ofInt 64 (x : Int)).toNat = x := by rw [BitVec.ofInt_natCast, BitVec.toNat_ofNat]; exact Nat.mod_eq_of_lt (by omega)
  have h2 : (~~~ BitVec.ofInt 64 32768).toNat = 18446744073709486080 ||| 32767 := by decide
  rw [BitVec.toNat_and, h1, h2, Nat.and_or_distrib_left, nat_hi64_16, nat_mask15, show x % 18446744073709551616 / 65536 * 65536 = 0 by omega, Nat.zero_or, wr64 (by omega) (by omega)]
theorem and3 {f : Int} (f0 : 0 ≤ f) (f1 : f ≤ 255) : bits .and .u8 f 3 = f % 4 := by
  obtain ⟨a, rfl⟩ := Int.eq_ofNat_of_zero_le f0
  rw [show (3 : Int) = ((3 : Nat) : Int) from rfl, u8_and_nat a 3 (by omega) (by omega), nat_mask2]
  omega
theorem lo15 {f : Int} (f0 : 0 ≤ f) (f1 : f < 32768) : bits .and .i64 f 32768 = 0 := by
  obtain ⟨a, rfl⟩ := Int.eq_ofNat_of_zero_le f0
  rw [and15 a (by omega)]; omega
theorem hi15 {f : Int} (f0 : 32768 ≤ f) (f1 : f ≤ 65535) : bits .and .i64 f 32768 = 32768 := by
  obtain ⟨a, rfl⟩ := Int.eq_ofNat_of_zero_le (show 0 ≤ f by omega)
  rw [and15 a (by omega)]; omega
theorem no15 {f : Int} (f0 : 32768 ≤ f) (f1 : f ≤ 65535) : bits .andNot .i64 f 32768 = f - 32768 := by
  obtain ⟨a, rfl⟩ := Int.eq_ofNat_of_zero_le (show 0 ≤ f by omega)
  rw [andNot15 a (by omega)]; omega
set_option maxHeartbeats 400000 in
set_option maxRecDepth 100000 in
theorem hlen_any (w : World) (x : Hd) (hb : x.B) :
    Calls Try.prog 29 #[enc x] w fun e w' => e = .returned (.int .i64 (hlen x)) ∧ Ch (fun _ => False) w w' := by
  have hk := fun w1 => hkind_any w1 x
  have kb := ksz_b x.kind
  generalize hK : ksz x.kind = K at *
  have hh : hlen x = if lst x.flags = true then 4 else 4 + (x.count * K + 1) / 2 := by unfold hlen; rw [hK]
  rw [hh]
  obtain ⟨k, c, el, o, f, n⟩ := x
  have n0 := hb.n0
  have n1 := hb.n1
  have f0 := hb.f0
  have ha := and3 hb.f0 hb.f1
  unfold enc at *
  dsimp only at *
  clear hK hh hb
  by_cases hl : lst f = true
  · have b : (f % 4 != 0) = true := hl
    rw [if_pos hl]
    clear hk
    go_enter Try.func29, Try.ntmps29
    go_wp2
    go_ret
    exact ⟨rfl, (Ch.refl _ w).alloc _⟩
  · have b : (f % 4 != 0) = false := by simpa [lst] using hl
    have hN : 0 ≤ n * K ∧ n * K ≤ 131070 := by rcases kb with rfl | rfl <;> omega
    rw [if_neg hl]
    have H := Lib.hid hk
    have hW : IntKind.i64.wrap (4 + IntKind.i64.wrap ((IntKind.i64.wrap (IntKind.i64.wrap (n * K) + 1)).tdiv 2)) = 4 + (n * K + 1) / 2 := by
      rw [wr64 (x := n * K) (by omega) (by omega), wr64 (x := n * K + 1) (by omega) (by omega), Int.tdiv_eq_ediv_of_nonneg (by omega), wr64 (x := (n * K + 1) / 2) (by omega) (by omega), wr64 (by omega) (by omega)]
    have Z := Blk.new w #[.int .u8 k, .int .i64 c, .int .i64 el, .int .i64 o, .int .u8 f, .int .i64 n] 46
    have hk2 := Lib.hid (fun (wy : World) (c1 : Ch (fun _ => False) (w.alloc (.cells #[.int .u8 k, .int .i64 c, .int .i64 el, .int .i64 o, .int .u8 f, .int .i64 n] 46)) wy) => show wy.cell? ⟨w.heap.size, 0, none⟩ = some (.int .u8 k) ∧ wy.cell? ⟨w.heap.size, 1, none⟩ = some (.int .i64 c) ∧ wy.cell? ⟨w.heap.size, 2, none⟩ = some (.int .i64 el) ∧ wy.cell? ⟨w.heap.size, 3, none⟩ = some (.int .i64 o) ∧ wy.cell? ⟨w.heap.size, 4, none⟩ = some (.int .u8 f) ∧ wy.cell? ⟨w.heap.size, 5, none⟩ = some (.int .i64 n) from
      ⟨(Z.ch c1 (fun h => h)).cell 0, (Z.ch c1 (fun h => h)).cell 1, (Z.ch c1 (fun h => h)).cell 2, (Z.ch c1 (fun h => h)).cell 3, (Z.ch c1 (fun h => h)).cell 4, (Z.ch c1 (fun h => h)).cell 5⟩)
    clear hk Z
    go_enter Try.func29, Try.ntmps29
    go_wp2_with (fail)
    obtain ⟨z0, z1, z2, z3, z4, z5⟩ := hk2.out _ (Ch.refl _ _)
    go_region_held3 (fun w' => w'.cell? ⟨w.heap.size, 0, none⟩ = some (.int .u8 k) ∧ w'.cell? ⟨w.heap.size, 1, none⟩ = some (.int .i64 c) ∧ w'.cell? ⟨w.heap.size, 2, none⟩ = some (.int .i64 el) ∧ w'.cell? ⟨w.heap.size, 3, none⟩ = some (.int .i64 o) ∧ w'.cell? ⟨w.heap.size, 4, none⟩ = some (.int .u8 f) ∧ w'.cell? ⟨w.heap.size, 5, none⟩ = some (.int .i64 n)) (first | exact ⟨z0, z1, z2, z3, z4, z5⟩ | exact hk2.out _ d1) (first | (go_at_call 28; refine (H.out _).mono ?_; rintro e w1 ⟨rfl, c1⟩; have d1 := (by first | exact c1 | exact c1.undrew | exact c1.undrewN : Ch (fun _ => False) (w.alloc (.cells #[.int .u8 k, .int .i64 c, .int .i64 el, .int .i64 o, .int .u8 f, .int .i64 n] 46)) w1)))
    all_goals
      go_wp2
      go_ret
      exact ⟨rfl, by first | exact ((Ch.refl _ w).alloc _).then d1 | exact (((Ch.refl _ w).alloc _).then d1).drewN _⟩
set_option maxHeartbeats 8000000 in
set_option maxRecDepth 100000 in
theorem hhead_core (w : World) (H : Nat) (at_ : Int) (g : Int → Int) (hg : ∀ k, 0 ≤ g k ∧ g k ≤ 65535) (a0 : 0 ≤ at_) (a1 : at_ ≤ 1000000) (ha : Hid (∀ w1 k, Ch (fun _ => False) w w1 → Calls Try.prog 27 #[.pointer (some ⟨H, 0, none⟩), .int .i64 k] w1 fun e w' => e = .returned (.int .i64 (g k)) ∧ Ch (fun _ => False) w1 w')) :
    Calls Try.prog 40 #[.pointer (some ⟨H, 0, none⟩), .int .i64 at_] w fun e w' => e = .returned (.tuple #[enc (hdw (g at_) (g (at_ + 1)) (g (at_ + 2)) (g (at_ + 3))), .int .i64 (plw (g (at_ + 1)) (g (at_ + 3)))]) ∧ Ch (fun _ => False) w w' := by
  have C := Ch.refl (fun _ => False) w
  have Z := Blk.new w #[.int .u8 0, .int .i64 0, .int .i64 0, .int .i64 0, .int .u8 0, .int .i64 0] 46
  have f0 := hg at_
  have f1 := hg (at_ + 1)
  have f2 := hg (at_ + 2)
  have f3 := hg (at_ + 3)
  have A := and3 (f := g (at_ + 1) % 256) (by omega) (by omega)
  by_cases h15 : 32768 ≤ g at_
  · have B := hi15 h15 f0.2
    have B2 := no15 h15 f0.2
    by_cases hl : lst (g (at_ + 1) % 256) = true
    · have b : (g (at_ + 1) % 4 != 0) = true := by simp only [lst] at hl; simpa using hl
      go_enter Try.func40, Try.ntmps40
      go_wp2_with (go_at_call 27; refine (ha.out _ _ (by first | exact C | exact C.alloc _)).mono ?_; rintro e w' ⟨rfl, c1⟩; replace C : Ch (fun _ => False) w w' := Ch.then (by first | exact C | exact C.alloc _) c1; replace Z : Blk w' _ _ _ := Z.ch c1 (fun h => h); have z0 : ∀ o, (w'.alloc o).cell? ⟨w.heap.size, 0, none⟩ = some (.int .u8 0) := fun o => (Z.alloc o).cell 0; have y0 : ∀ o, (w'.alloc o).frozen? ⟨w.heap.size, 0, none⟩ = false := fun o => (Z.alloc o).free 0; have z1 : ∀ o, (w'.alloc o).cell? ⟨w.heap.size, 1, none⟩ = some (.int .i64 0) := fun o => (Z.alloc o).cell 1; have y1 : ∀ o, (w'.alloc o).frozen? ⟨w.heap.size, 1, none⟩ = false := fun o => (Z.alloc o).free 1; have z2 : ∀ o, (w'.alloc o).cell? ⟨w.heap.size, 2, none⟩ = some (.int .i64 0) := fun o => (Z.alloc o).cell 2; have y2 : ∀ o, (w'.alloc o).frozen? ⟨w.heap.size, 2, none⟩ = false := fun o => (Z.alloc o).free 2; have z3 : ∀ o, (w'.alloc o).cell? ⟨w.heap.size, 3, none⟩ = some (.int .i64 0) := fun o => (Z.alloc o).cell 3; have y3 : ∀ o, (w'.alloc o).frozen? ⟨w.heap.size, 3, none⟩ = false := fun o => (Z.alloc o).free 3; have z4 : ∀ o, (w'.alloc o).cell? ⟨w.heap.size, 4, none⟩ = some (.int .u8 0) := fun o => (Z.alloc o).cell 4; have y4 : ∀ o, (w'.alloc o).frozen? ⟨w.heap.size, 4, none⟩ = false := fun o => (Z.alloc o).free 4; have z5 : ∀ o, (w'.alloc o).cell? ⟨w.heap.size, 5, none⟩ = some (.int .i64 0) := fun o => (Z.alloc o).cell 5; have y5 : ∀ o, (w'.alloc o).frozen? ⟨w.heap.size, 5, none⟩ = false := fun o => (Z.alloc o).free 5)
      have s0 : ∀ (o : Obj) (v0 : Value), ((w'.alloc o).setCell ⟨w.heap.size, 0, none⟩ v0).cell? ⟨w.heap.size, 0, none⟩ = some v0 := fun o v0 => ((Z.alloc o).set 0 v0).cell 0
      have s1 : ∀ (o : Obj) (v0 : Value) (v1 : Value), (((w'.alloc o).setCell ⟨w.heap.size, 0, none⟩ v0).setCell ⟨w.heap.size, 1, none⟩ v1).cell? ⟨w.heap.size, 1, none⟩ = some v1 := fun o v0 v1 => (((Z.alloc o).set 0 v0).set 1 v1).cell 1
      have s2 : ∀ (o : Obj) (v0 : Value) (v1 : Value) (v2 : Value), ((((w'.alloc o).setCell ⟨w.heap.size, 0, none⟩ v0).setCell ⟨w.heap.size, 1, none⟩ v1).setCell ⟨w.heap.size, 2, none⟩ v2).cell? ⟨w.heap.size, 2, none⟩ = some v2 := fun o v0 v1 v2 => ((((Z.alloc o).set 0 v0).set 1 v1).set 2 v2).cell 2
      have s3 : ∀ (o : Obj) (v0 : Value) (v1 : Value) (v2 : Value) (v3 : Value), (((((w'.alloc o).setCell ⟨w.heap.size, 0, none⟩ v0).setCell ⟨w.heap.size, 1, none⟩ v1).setCell ⟨w.heap.size, 2, none⟩ v2).setCell ⟨w.heap.size, 3, none⟩ v3).cell? ⟨w.heap.size, 3, none⟩ = some v3 := fun o v0 v1 v2 v3 => (((((Z.alloc o).set 0 v0).set 1 v1).set 2 v2).set 3 v3).cell 3
      have s4 : ∀ (o : Obj) (v0 : Value) (v1 : Value) (v2 : Value) (v3 : Value) (v4 : Value), ((((((w'.alloc o).setCell ⟨w.heap.size, 0, none⟩ v0).setCell ⟨w.heap.size, 1, none⟩ v1).setCell ⟨w.heap.size, 2, none⟩ v2).setCell ⟨w.heap.size, 3, none⟩ v3).setCell ⟨w.heap.size, 4, none⟩ v4).cell? ⟨w.heap.size, 4, none⟩ = some v4 := fun o v0 v1 v2 v3 v4 => ((((((Z.alloc o).set 0 v0).set 1 v1).set 2 v2).set 3 v3).set 4 v4).cell 4
      have s5 : ∀ (o : Obj) (v0 : Value) (v1 : Value) (v2 : Value) (v3 : Value) (v4 : Value) (v5 : Value), (((((((w'.alloc o).setCell ⟨w.heap.size, 0, none⟩ v0).setCell ⟨w.heap.size, 1, none⟩ v1).setCell ⟨w.heap.size, 2, none⟩ v2).setCell ⟨w.heap.size, 3, none⟩ v3).setCell ⟨w.heap.size, 4, none⟩ v4).setCell ⟨w.heap.size, 5, none⟩ v5).cell? ⟨w.heap.size, 5, none⟩ = some v5 := fun o v0 v1 v2 v3 v4 v5 => (((((((Z.alloc o).set 0 v0).set 1 v1).set 2 v2).set 3 v3).set 4 v4).set 5 v5).cell 5
      refine bodyPost_ret (v := .tuple #[.agg #[.int .u8 ((g at_ - 32768) % 256), .int .i64 (-1), .int .i64 0, .int .i64 (g (at_ + 1) / 256), .int .u8 (g (at_ + 1) % 256), .int .i64 (g (at_ + 2))], .int .i64 (g (at_ + 3))]) (by simp [results, Try.results40, go_sem, s0, s1, s2, s3, s4, s5]) rfl ⟨by simp [enc, hdw, plw, h15, hl], ?_⟩
      exact ((((((C.alloc _).setCell (p := ⟨w.heap.size, 0, none⟩) (Or.inr (Nat.le_refl _)) _).setCell (p := ⟨w.heap.size, 1, none⟩) (Or.inr (Nat.le_refl _)) _).setCell (p := ⟨w.heap.size, 2, none⟩) (Or.inr (Nat.le_refl _)) _).setCell (p := ⟨w.heap.size, 3, none⟩) (Or.inr (Nat.le_refl _)) _).setCell (p := ⟨w.heap.size, 4, none⟩) (Or.inr (Nat.le_refl _)) _).setCell (p := ⟨w.heap.size, 5, none⟩) (Or.inr (Nat.le_refl _)) _
    · have b : (g (at_ + 1) % 4 != 0) = false := by simp only [lst] at hl; simpa using hl
      by_cases h8 : (g at_ - 32768) % 256 = 8
      · have b8 : ((g at_ - 32768) % 256 == 8) = true := beq_iff_eq.2 h8
        go_enter Try.func40, Try.ntmps40
        go_wp2_with (go_at_call 27; refine (ha.out _ _ (by first | exact C | exact C.alloc _)).mono ?_; rintro e w' ⟨rfl, c1⟩; replace C : Ch (fun _ => False) w w' := Ch.then (by first | exact C | exact C.alloc _) c1; replace Z : Blk w' _ _ _ := Z.ch c1 (fun h => h); have z0 : ∀ o, (w'.alloc o).cell? ⟨w.heap.size, 0, none⟩ = some (.int .u8 0) := fun o => (Z.alloc o).cell 0; have y0 : ∀ o, (w'.alloc o).frozen? ⟨w.heap.size, 0, none⟩ = false := fun o => (Z.alloc o).free 0; have z1 : ∀ o, (w'.alloc o).cell? ⟨w.heap.size, 1, none⟩ = some (.int .i64 0) := fun o => (Z.alloc o).cell 1; have y1 : ∀ o, (w'.alloc o).frozen? ⟨w.heap.size, 1, none⟩ = false := fun o => (Z.alloc o).free 1; have z2 : ∀ o, (w'.alloc o).cell? ⟨w.heap.size, 2, none⟩ = some (.int .i64 0) := fun o => (Z.alloc o).cell 2; have y2 : ∀ o, (w'.alloc o).frozen? ⟨w.heap.size, 2, none⟩ = false := fun o => (Z.alloc o).free 2; have z3 : ∀ o, (w'.alloc o).cell? ⟨w.heap.size, 3, none⟩ = some (.int .i64 0) := fun o => (Z.alloc o).cell 3; have y3 : ∀ o, (w'.alloc o).frozen? ⟨w.heap.size, 3, none⟩ = false := fun o => (Z.alloc o).free 3; have z4 : ∀ o, (w'.alloc o).cell? ⟨w.heap.size, 4, none⟩ = some (.int .u8 0) := fun o => (Z.alloc o).cell 4; have y4 : ∀ o, (w'.alloc o).frozen? ⟨w.heap.size, 4, none⟩ = false := fun o => (Z.alloc o).free 4; have z5 : ∀ o, (w'.alloc o).cell? ⟨w.heap.size, 5, none⟩ = some (.int .i64 0) := fun o => (Z.alloc o).cell 5; have y5 : ∀ o, (w'.alloc o).frozen? ⟨w.heap.size, 5, none⟩ = false := fun o => (Z.alloc o).free 5)
        have s0 : ∀ (o : Obj) (v0 : Value), ((w'.alloc o).setCell ⟨w.heap.size, 0, none⟩ v0).cell? ⟨w.heap.size, 0, none⟩ = some v0 := fun o v0 => ((Z.alloc o).set 0 v0).cell 0
        have s1 : ∀ (o : Obj) (v0 : Value) (v1 : Value), (((w'.alloc o).setCell ⟨w.heap.size, 0, none⟩ v0).setCell ⟨w.heap.size, 1, none⟩ v1).cell? ⟨w.heap.size, 1, none⟩ = some v1 := fun o v0 v1 => (((Z.alloc o).set 0 v0).set 1 v1).cell 1
        have s2 : ∀ (o : Obj) (v0 : Value) (v1 : Value) (v2 : Value), ((((w'.alloc o).setCell ⟨w.heap.size, 0, none⟩ v0).setCell ⟨w.heap.size, 1, none⟩ v1).setCell ⟨w.heap.size, 2, none⟩ v2).cell? ⟨w.heap.size, 2, none⟩ = some v2 := fun o v0 v1 v2 => ((((Z.alloc o).set 0 v0).set 1 v1).set 2 v2).cell 2
        have s3 : ∀ (o : Obj) (v0 : Value) (v1 : Value) (v2 : Value) (v3 : Value), (((((w'.alloc o).setCell ⟨w.heap.size, 0, none⟩ v0).setCell ⟨w.heap.size, 1, none⟩ v1).setCell ⟨w.heap.size, 2, none⟩ v2).setCell ⟨w.heap.size, 3, none⟩ v3).cell? ⟨w.heap.size, 3, none⟩ = some v3 := fun o v0 v1 v2 v3 => (((((Z.alloc o).set 0 v0).set 1 v1).set 2 v2).set 3 v3).cell 3
        have s4 : ∀ (o : Obj) (v0 : Value) (v1 : Value) (v2 : Value) (v3 : Value) (v4 : Value), ((((((w'.alloc o).setCell ⟨w.heap.size, 0, none⟩ v0).setCell ⟨w.heap.size, 1, none⟩ v1).setCell ⟨w.heap.size, 2, none⟩ v2).setCell ⟨w.heap.size, 3, none⟩ v3).setCell ⟨w.heap.size, 4, none⟩ v4).cell? ⟨w.heap.size, 4, none⟩ = some v4 := fun o v0 v1 v2 v3 v4 => ((((((Z.alloc o).set 0 v0).set 1 v1).set 2 v2).set 3 v3).set 4 v4).cell 4
        have s5 : ∀ (o : Obj) (v0 : Value) (v1 : Value) (v2 : Value) (v3 : Value) (v4 : Value) (v5 : Value), (((((((w'.alloc o).setCell ⟨w.heap.size, 0, none⟩ v0).setCell ⟨w.heap.size, 1, none⟩ v1).setCell ⟨w.heap.size, 2, none⟩ v2).setCell ⟨w.heap.size, 3, none⟩ v3).setCell ⟨w.heap.size, 4, none⟩ v4).setCell ⟨w.heap.size, 5, none⟩ v5).cell? ⟨w.heap.size, 5, none⟩ = some v5 := fun o v0 v1 v2 v3 v4 v5 => (((((((Z.alloc o).set 0 v0).set 1 v1).set 2 v2).set 3 v3).set 4 v4).set 5 v5).cell 5
        refine bodyPost_ret (v := .tuple #[.agg #[.int .u8 8, .int .i64 (-1), .int .i64 (g (at_ + 3)), .int .i64 (g (at_ + 1) / 256), .int .u8 (g (at_ + 1) % 256), .int .i64 (g (at_ + 2))], .int .i64 0]) (by simp [results, Try.results40, go_sem, s0, s1, s2, s3, s4, s5]) rfl ⟨by simp [enc, hdw, plw, h15, hl, h8], ?_⟩
        exact ((((((C.alloc _).setCell (p := ⟨w.heap.size, 0, none⟩) (Or.inr (Nat.le_refl _)) _).setCell (p := ⟨w.heap.size, 1, none⟩) (Or.inr (Nat.le_refl _)) _).setCell (p := ⟨w.heap.size, 2, none⟩) (Or.inr (Nat.le_refl _)) _).setCell (p := ⟨w.heap.size, 3, none⟩) (Or.inr (Nat.le_refl _)) _).setCell (p := ⟨w.heap.size, 4, none⟩) (Or.inr (Nat.le_refl _)) _).setCell (p := ⟨w.heap.size, 5, none⟩) (Or.inr (Nat.le_refl _)) _
      · have b8 : ((g at_ - 32768) % 256 == 8) = false := beq_eq_false_iff_ne.2 h8
        go_enter Try.func40, Try.ntmps40
        go_wp2_with (go_at_call 27; refine (ha.out _ _ (by first | exact C | exact C.alloc _)).mono ?_; rintro e w' ⟨rfl, c1⟩; replace C : Ch (fun _ => False) w w' := Ch.then (by first | exact C | exact C.alloc _) c1; replace Z : Blk w' _ _ _ := Z.ch c1 (fun h => h); have z0 : ∀ o, (w'.alloc o).cell? ⟨w.heap.size, 0, none⟩ = some (.int .u8 0) := fun o => (Z.alloc o).cell 0; have y0 : ∀ o, (w'.alloc o).frozen? ⟨w.heap.size, 0, none⟩ = false := fun o => (Z.alloc o).free 0; have z1 : ∀ o, (w'.alloc o).cell? ⟨w.heap.size, 1, none⟩ = some (.int .i64 0) := fun o => (Z.alloc o).cell 1; have y1 : ∀ o, (w'.alloc o).frozen? ⟨w.heap.size, 1, none⟩ = false := fun o => (Z.alloc o).free 1; have z2 : ∀ o, (w'.alloc o).cell? ⟨w.heap.size, 2, none⟩ = some (.int .i64 0) := fun o => (Z.alloc o).cell 2; have y2 : ∀ o, (w'.alloc o).frozen? ⟨w.heap.size, 2, none⟩ = false := fun o => (Z.alloc o).free 2; have z3 : ∀ o, (w'.alloc o).cell? ⟨w.heap.size, 3, none⟩ = some (.int .i64 0) := fun o => (Z.alloc o).cell 3; have y3 : ∀ o, (w'.alloc o).frozen? ⟨w.heap.size, 3, none⟩ = false := fun o => (Z.alloc o).free 3; have z4 : ∀ o, (w'.alloc o).cell? ⟨w.heap.size, 4, none⟩ = some (.int .u8 0) := fun o => (Z.alloc o).cell 4; have y4 : ∀ o, (w'.alloc o).frozen? ⟨w.heap.size, 4, none⟩ = false := fun o => (Z.alloc o).free 4; have z5 : ∀ o, (w'.alloc o).cell? ⟨w.heap.size, 5, none⟩ = some (.int .i64 0) := fun o => (Z.alloc o).cell 5; have y5 : ∀ o, (w'.alloc o).frozen? ⟨w.heap.size, 5, none⟩ = false := fun o => (Z.alloc o).free 5)
        have s0 : ∀ (o : Obj) (v0 : Value), ((w'.alloc o).setCell ⟨w.heap.size, 0, none⟩ v0).cell? ⟨w.heap.size, 0, none⟩ = some v0 := fun o v0 => ((Z.alloc o).set 0 v0).cell 0
        have s1 : ∀ (o : Obj) (v0 : Value) (v1 : Value), (((w'.alloc o).setCell ⟨w.heap.size, 0, none⟩ v0).setCell ⟨w.heap.size, 1, none⟩ v1).cell? ⟨w.heap.size, 1, none⟩ = some v1 := fun o v0 v1 => (((Z.alloc o).set 0 v0).set 1 v1).cell 1
        have s2 : ∀ (o : Obj) (v0 : Value) (v1 : Value) (v2 : Value), ((((w'.alloc o).setCell ⟨w.heap.size, 0, none⟩ v0).setCell ⟨w.heap.size, 1, none⟩ v1).setCell ⟨w.heap.size, 2, none⟩ v2).cell? ⟨w.heap.size, 2, none⟩ = some v2 := fun o v0 v1 v2 => ((((Z.alloc o).set 0 v0).set 1 v1).set 2 v2).cell 2
        have s3 : ∀ (o : Obj) (v0 : Value) (v1 : Value) (v2 : Value) (v3 : Value), (((((w'.alloc o).setCell ⟨w.heap.size, 0, none⟩ v0).setCell ⟨w.heap.size, 1, none⟩ v1).setCell ⟨w.heap.size, 2, none⟩ v2).setCell ⟨w.heap.size, 3, none⟩ v3).cell? ⟨w.heap.size, 3, none⟩ = some v3 := fun o v0 v1 v2 v3 => (((((Z.alloc o).set 0 v0).set 1 v1).set 2 v2).set 3 v3).cell 3
        have s4 : ∀ (o : Obj) (v0 : Value) (v1 : Value) (v2 : Value) (v3 : Value) (v4 : Value), ((((((w'.alloc o).setCell ⟨w.heap.size, 0, none⟩ v0).setCell ⟨w.heap.size, 1, none⟩ v1).setCell ⟨w.heap.size, 2, none⟩ v2).setCell ⟨w.heap.size, 3, none⟩ v3).setCell ⟨w.heap.size, 4, none⟩ v4).cell? ⟨w.heap.size, 4, none⟩ = some v4 := fun o v0 v1 v2 v3 v4 => ((((((Z.alloc o).set 0 v0).set 1 v1).set 2 v2).set 3 v3).set 4 v4).cell 4
        have s5 : ∀ (o : Obj) (v0 : Value) (v1 : Value) (v2 : Value) (v3 : Value) (v4 : Value) (v5 : Value), (((((((w'.alloc o).setCell ⟨w.heap.size, 0, none⟩ v0).setCell ⟨w.heap.size, 1, none⟩ v1).setCell ⟨w.heap.size, 2, none⟩ v2).setCell ⟨w.heap.size, 3, none⟩ v3).setCell ⟨w.heap.size, 4, none⟩ v4).setCell ⟨w.heap.size, 5, none⟩ v5).cell? ⟨w.heap.size, 5, none⟩ = some v5 := fun o v0 v1 v2 v3 v4 v5 => (((((((Z.alloc o).set 0 v0).set 1 v1).set 2 v2).set 3 v3).set 4 v4).set 5 v5).cell 5
        refine bodyPost_ret (v := .tuple #[.agg #[.int .u8 ((g at_ - 32768) % 256), .int .i64 (-1), .int .i64 0, .int .i64 (g (at_ + 1) / 256), .int .u8 (g (at_ + 1) % 256), .int .i64 (g (at_ + 2))], .int .i64 0]) (by simp [results, Try.results40, go_sem, s0, s1, s2, s3, s4, s5]) rfl ⟨by simp [enc, hdw, plw, h15, hl, h8], ?_⟩
        exact ((((((C.alloc _).setCell (p := ⟨w.heap.size, 0, none⟩) (Or.inr (Nat.le_refl _)) _).setCell (p := ⟨w.heap.size, 1, none⟩) (Or.inr (Nat.le_refl _)) _).setCell (p := ⟨w.heap.size, 2, none⟩) (Or.inr (Nat.le_refl _)) _).setCell (p := ⟨w.heap.size, 3, none⟩) (Or.inr (Nat.le_refl _)) _).setCell (p := ⟨w.heap.size, 4, none⟩) (Or.inr (Nat.le_refl _)) _).setCell (p := ⟨w.heap.size, 5, none⟩) (Or.inr (Nat.le_refl _)) _
  · have B := lo15 f0.1 (show g at_ < 32768 by omega)
    by_cases hl : lst (g (at_ + 1) % 256) = true
    · have b : (g (at_ + 1) % 4 != 0) = true := by simp only [lst] at hl; simpa using hl
      go_enter Try.func40, Try.ntmps40
      go_wp2_with (go_at_call 27; refine (ha.out _ _ (by first | exact C | exact C.alloc _)).mono ?_; rintro e w' ⟨rfl, c1⟩; replace C : Ch (fun _ => False) w w' := Ch.then (by first | exact C | exact C.alloc _) c1; replace Z : Blk w' _ _ _ := Z.ch c1 (fun h => h); have z0 : ∀ o, (w'.alloc o).cell? ⟨w.heap.size, 0, none⟩ = some (.int .u8 0) := fun o => (Z.alloc o).cell 0; have y0 : ∀ o, (w'.alloc o).frozen? ⟨w.heap.size, 0, none⟩ = false := fun o => (Z.alloc o).free 0; have z1 : ∀ o, (w'.alloc o).cell? ⟨w.heap.size, 1, none⟩ = some (.int .i64 0) := fun o => (Z.alloc o).cell 1; have y1 : ∀ o, (w'.alloc o).frozen? ⟨w.heap.size, 1, none⟩ = false := fun o => (Z.alloc o).free 1; have z2 : ∀ o, (w'.alloc o).cell? ⟨w.heap.size, 2, none⟩ = some (.int .i64 0) := fun o => (Z.alloc o).cell 2; have y2 : ∀ o, (w'.alloc o).frozen? ⟨w.heap.size, 2, none⟩ = false := fun o => (Z.alloc o).free 2; have z3 : ∀ o, (w'.alloc o).cell? ⟨w.heap.size, 3, none⟩ = some (.int .i64 0) := fun o => (Z.alloc o).cell 3; have y3 : ∀ o, (w'.alloc o).frozen? ⟨w.heap.size, 3, none⟩ = false := fun o => (Z.alloc o).free 3; have z4 : ∀ o, (w'.alloc o).cell? ⟨w.heap.size, 4, none⟩ = some (.int .u8 0) := fun o => (Z.alloc o).cell 4; have y4 : ∀ o, (w'.alloc o).frozen? ⟨w.heap.size, 4, none⟩ = false := fun o => (Z.alloc o).free 4; have z5 : ∀ o, (w'.alloc o).cell? ⟨w.heap.size, 5, none⟩ = some (.int .i64 0) := fun o => (Z.alloc o).cell 5; have y5 : ∀ o, (w'.alloc o).frozen? ⟨w.heap.size, 5, none⟩ = false := fun o => (Z.alloc o).free 5)
      have s0 : ∀ (o : Obj) (v0 : Value), ((w'.alloc o).setCell ⟨w.heap.size, 0, none⟩ v0).cell? ⟨w.heap.size, 0, none⟩ = some v0 := fun o v0 => ((Z.alloc o).set 0 v0).cell 0
      have s1 : ∀ (o : Obj) (v0 : Value) (v1 : Value), (((w'.alloc o).setCell ⟨w.heap.size, 0, none⟩ v0).setCell ⟨w.heap.size, 1, none⟩ v1).cell? ⟨w.heap.size, 1, none⟩ = some v1 := fun o v0 v1 => (((Z.alloc o).set 0 v0).set 1 v1).cell 1
      have s2 : ∀ (o : Obj) (v0 : Value) (v1 : Value) (v2 : Value), ((((w'.alloc o).setCell ⟨w.heap.size, 0, none⟩ v0).setCell ⟨w.heap.size, 1, none⟩ v1).setCell ⟨w.heap.size, 2, none⟩ v2).cell? ⟨w.heap.size, 2, none⟩ = some v2 := fun o v0 v1 v2 => ((((Z.alloc o).set 0 v0).set 1 v1).set 2 v2).cell 2
      have s3 : ∀ (o : Obj) (v0 : Value) (v1 : Value) (v2 : Value) (v3 : Value), (((((w'.alloc o).setCell ⟨w.heap.size, 0, none⟩ v0).setCell ⟨w.heap.size, 1, none⟩ v1).setCell ⟨w.heap.size, 2, none⟩ v2).setCell ⟨w.heap.size, 3, none⟩ v3).cell? ⟨w.heap.size, 3, none⟩ = some v3 := fun o v0 v1 v2 v3 => (((((Z.alloc o).set 0 v0).set 1 v1).set 2 v2).set 3 v3).cell 3
      have s4 : ∀ (o : Obj) (v0 : Value) (v1 : Value) (v2 : Value) (v3 : Value) (v4 : Value), ((((((w'.alloc o).setCell ⟨w.heap.size, 0, none⟩ v0).setCell ⟨w.heap.size, 1, none⟩ v1).setCell ⟨w.heap.size, 2, none⟩ v2).setCell ⟨w.heap.size, 3, none⟩ v3).setCell ⟨w.heap.size, 4, none⟩ v4).cell? ⟨w.heap.size, 4, none⟩ = some v4 := fun o v0 v1 v2 v3 v4 => ((((((Z.alloc o).set 0 v0).set 1 v1).set 2 v2).set 3 v3).set 4 v4).cell 4
      have s5 : ∀ (o : Obj) (v0 : Value) (v1 : Value) (v2 : Value) (v3 : Value) (v4 : Value) (v5 : Value), (((((((w'.alloc o).setCell ⟨w.heap.size, 0, none⟩ v0).setCell ⟨w.heap.size, 1, none⟩ v1).setCell ⟨w.heap.size, 2, none⟩ v2).setCell ⟨w.heap.size, 3, none⟩ v3).setCell ⟨w.heap.size, 4, none⟩ v4).setCell ⟨w.heap.size, 5, none⟩ v5).cell? ⟨w.heap.size, 5, none⟩ = some v5 := fun o v0 v1 v2 v3 v4 v5 => (((((((Z.alloc o).set 0 v0).set 1 v1).set 2 v2).set 3 v3).set 4 v4).set 5 v5).cell 5
      refine bodyPost_ret (v := .tuple #[.agg #[.int .u8 4, .int .i64 (g at_), .int .i64 0, .int .i64 (g (at_ + 1) / 256), .int .u8 (g (at_ + 1) % 256), .int .i64 (g (at_ + 2))], .int .i64 (g (at_ + 3))]) (by simp [results, Try.results40, go_sem, s0, s1, s2, s3, s4, s5]) rfl ⟨by simp [enc, hdw, plw, show ¬ 32768 ≤ g at_ by omega, hl], ?_⟩
      exact ((((((C.alloc _).setCell (p := ⟨w.heap.size, 0, none⟩) (Or.inr (Nat.le_refl _)) _).setCell (p := ⟨w.heap.size, 1, none⟩) (Or.inr (Nat.le_refl _)) _).setCell (p := ⟨w.heap.size, 2, none⟩) (Or.inr (Nat.le_refl _)) _).setCell (p := ⟨w.heap.size, 3, none⟩) (Or.inr (Nat.le_refl _)) _).setCell (p := ⟨w.heap.size, 4, none⟩) (Or.inr (Nat.le_refl _)) _).setCell (p := ⟨w.heap.size, 5, none⟩) (Or.inr (Nat.le_refl _)) _
    · have b : (g (at_ + 1) % 4 != 0) = false := by simp only [lst] at hl; simpa using hl
      go_enter Try.func40, Try.ntmps40
      go_wp2_with (go_at_call 27; refine (ha.out _ _ (by first | exact C | exact C.alloc _)).mono ?_; rintro e w' ⟨rfl, c1⟩; replace C : Ch (fun _ => False) w w' := Ch.then (by first | exact C | exact C.alloc _) c1; replace Z : Blk w' _ _ _ := Z.ch c1 (fun h => h); have z0 : ∀ o, (w'.alloc o).cell? ⟨w.heap.size, 0, none⟩ = some (.int .u8 0) := fun o => (Z.alloc o).cell 0; have y0 : ∀ o, (w'.alloc o).frozen? ⟨w.heap.size, 0, none⟩ = false := fun o => (Z.alloc o).free 0; have z1 : ∀ o, (w'.alloc o).cell? ⟨w.heap.size, 1, none⟩ = some (.int .i64 0) := fun o => (Z.alloc o).cell 1; have y1 : ∀ o, (w'.alloc o).frozen? ⟨w.heap.size, 1, none⟩ = false := fun o => (Z.alloc o).free 1; have z2 : ∀ o, (w'.alloc o).cell? ⟨w.heap.size, 2, none⟩ = some (.int .i64 0) := fun o => (Z.alloc o).cell 2; have y2 : ∀ o, (w'.alloc o).frozen? ⟨w.heap.size, 2, none⟩ = false := fun o => (Z.alloc o).free 2; have z3 : ∀ o, (w'.alloc o).cell? ⟨w.heap.size, 3, none⟩ = some (.int .i64 0) := fun o => (Z.alloc o).cell 3; have y3 : ∀ o, (w'.alloc o).frozen? ⟨w.heap.size, 3, none⟩ = false := fun o => (Z.alloc o).free 3; have z4 : ∀ o, (w'.alloc o).cell? ⟨w.heap.size, 4, none⟩ = some (.int .u8 0) := fun o => (Z.alloc o).cell 4; have y4 : ∀ o, (w'.alloc o).frozen? ⟨w.heap.size, 4, none⟩ = false := fun o => (Z.alloc o).free 4; have z5 : ∀ o, (w'.alloc o).cell? ⟨w.heap.size, 5, none⟩ = some (.int .i64 0) := fun o => (Z.alloc o).cell 5; have y5 : ∀ o, (w'.alloc o).frozen? ⟨w.heap.size, 5, none⟩ = false := fun o => (Z.alloc o).free 5)
      have s0 : ∀ (o : Obj) (v0 : Value), ((w'.alloc o).setCell ⟨w.heap.size, 0, none⟩ v0).cell? ⟨w.heap.size, 0, none⟩ = some v0 := fun o v0 => ((Z.alloc o).set 0 v0).cell 0
      have s1 : ∀ (o : Obj) (v0 : Value) (v1 : Value), (((w'.alloc o).setCell ⟨w.heap.size, 0, none⟩ v0).setCell ⟨w.heap.size, 1, none⟩ v1).cell? ⟨w.heap.size, 1, none⟩ = some v1 := fun o v0 v1 => (((Z.alloc o).set 0 v0).set 1 v1).cell 1
      have s2 : ∀ (o : Obj) (v0 : Value) (v1 : Value) (v2 : Value), ((((w'.alloc o).setCell ⟨w.heap.size, 0, none⟩ v0).setCell ⟨w.heap.size, 1, none⟩ v1).setCell ⟨w.heap.size, 2, none⟩ v2).cell? ⟨w.heap.size, 2, none⟩ = some v2 := fun o v0 v1 v2 => ((((Z.alloc o).set 0 v0).set 1 v1).set 2 v2).cell 2
      have s3 : ∀ (o : Obj) (v0 : Value) (v1 : Value) (v2 : Value) (v3 : Value), (((((w'.alloc o).setCell ⟨w.heap.size, 0, none⟩ v0).setCell ⟨w.heap.size, 1, none⟩ v1).setCell ⟨w.heap.size, 2, none⟩ v2).setCell ⟨w.heap.size, 3, none⟩ v3).cell? ⟨w.heap.size, 3, none⟩ = some v3 := fun o v0 v1 v2 v3 => (((((Z.alloc o).set 0 v0).set 1 v1).set 2 v2).set 3 v3).cell 3
      have s4 : ∀ (o : Obj) (v0 : Value) (v1 : Value) (v2 : Value) (v3 : Value) (v4 : Value), ((((((w'.alloc o).setCell ⟨w.heap.size, 0, none⟩ v0).setCell ⟨w.heap.size, 1, none⟩ v1).setCell ⟨w.heap.size, 2, none⟩ v2).setCell ⟨w.heap.size, 3, none⟩ v3).setCell ⟨w.heap.size, 4, none⟩ v4).cell? ⟨w.heap.size, 4, none⟩ = some v4 := fun o v0 v1 v2 v3 v4 => ((((((Z.alloc o).set 0 v0).set 1 v1).set 2 v2).set 3 v3).set 4 v4).cell 4
      have s5 : ∀ (o : Obj) (v0 : Value) (v1 : Value) (v2 : Value) (v3 : Value) (v4 : Value) (v5 : Value), (((((((w'.alloc o).setCell ⟨w.heap.size, 0, none⟩ v0).setCell ⟨w.heap.size, 1, none⟩ v1).setCell ⟨w.heap.size, 2, none⟩ v2).setCell ⟨w.heap.size, 3, none⟩ v3).setCell ⟨w.heap.size, 4, none⟩ v4).setCell ⟨w.heap.size, 5, none⟩ v5).cell? ⟨w.heap.size, 5, none⟩ = some v5 := fun o v0 v1 v2 v3 v4 v5 => (((((((Z.alloc o).set 0 v0).set 1 v1).set 2 v2).set 3 v3).set 4 v4).set 5 v5).cell 5
      refine bodyPost_ret (v := .tuple #[.agg #[.int .u8 4, .int .i64 (g at_), .int .i64 0, .int .i64 (g (at_ + 1) / 256), .int .u8 (g (at_ + 1) % 256), .int .i64 (g (at_ + 2))], .int .i64 0]) (by simp [results, Try.results40, go_sem, s0, s1, s2, s3, s4, s5]) rfl ⟨by simp [enc, hdw, plw, show ¬ 32768 ≤ g at_ by omega, hl], ?_⟩
      exact ((((((C.alloc _).setCell (p := ⟨w.heap.size, 0, none⟩) (Or.inr (Nat.le_refl _)) _).setCell (p := ⟨w.heap.size, 1, none⟩) (Or.inr (Nat.le_refl _)) _).setCell (p := ⟨w.heap.size, 2, none⟩) (Or.inr (Nat.le_refl _)) _).setCell (p := ⟨w.heap.size, 3, none⟩) (Or.inr (Nat.le_refl _)) _).setCell (p := ⟨w.heap.size, 4, none⟩) (Or.inr (Nat.le_refl _)) _).setCell (p := ⟨w.heap.size, 5, none⟩) (Or.inr (Nat.le_refl _)) _
theorem hhead_any {w : World} {F : Nat → Prop} {H T N R L : Nat} {s : St} {m : List Int} (h : Hx w F H T N R L s m) (at_ : Int) (a0 : 0 ≤ at_) (a1 : at_ ≤ 1000000) :
    Calls Try.prog 40 #[.pointer (some ⟨H, 0, none⟩), .int .i64 at_] w fun e w' => e = .returned (.tuple #[enc (hd s at_), .int .i64 (hpl s at_)]) ∧ Ch (fun _ => False) w w' :=
  hhead_core w H at_ (hw s) (hw_b h.ok) a0 a1 (fun w1 k c => hword_any (h.gr c) k)
end Go.Proofs.Ytjeaidmmhplglaa.Nvm
