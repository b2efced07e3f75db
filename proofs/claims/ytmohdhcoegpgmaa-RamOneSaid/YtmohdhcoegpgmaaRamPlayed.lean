/- The walk of played: acts on both memories answer alike and leave the same bytes. -/
import Derived.Test.YtmohdhcoegpgmaaRamRef
import Derived.Deep.RegionHeld3
import Derived.Deep.DeepCutAuto
import Derived.Deep.CutBlock
namespace Go.Proofs.Ytmohdhcoegpgmaa.Ram
open Go.RowKit
/-- What both memories hold, in a world behind w. -/
structure Two (w : World) (R S : Nat) (l : List Int) (w' : World) : Prop where
  p : Blk w' R (cp true l) 43
  r : Blk w' S (cr l) 41
  len : l.length = 1024
  by_ : By l
  ne : R ≠ S
  lo : w.heap.size ≤ R
  lo2 : w.heap.size ≤ S
  ch : Ch (fun _ => False) w w'
/-- An act's cells. -/
def ActAt (w : World) (b o : Nat) (d at_ n v : Int) : Prop :=
  w.cell? ⟨b, o, none⟩ = some (.int .i64 d) ∧ w.cell? ⟨b, o + 1, none⟩ = some (.int .i64 at_) ∧ w.cell? ⟨b, o + 2, none⟩ = some (.int .i64 n) ∧ w.cell? ⟨b, o + 3, none⟩ = some (.int .u16 v) ∧ 0 ≤ v ∧ v ≤ 65535
theorem Two.drew {w : World} {R S : Nat} {l : List Int} {w' : World} (h : Two w R S l w') : Two w R S l w'.drew := ⟨h.p.drew, h.r.drew, h.len, h.by_, h.ne, h.lo, h.lo2, h.ch.drew⟩
theorem Two.drewN {w : World} {R S : Nat} {l : List Int} {w' : World} (h : Two w R S l w') (m : Nat) : Two w R S l (w'.drewN m) := ⟨h.p.drewN m, h.r.drewN m, h.len, h.by_, h.ne, h.lo, h.lo2, h.ch.drewN m⟩
theorem Two.alloc {w : World} {R S : Nat} {l : List Int} {w' : World} (h : Two w R S l w') (o : Obj) : Two w R S l (w'.alloc o) := ⟨h.p.alloc o, h.r.alloc o, h.len, h.by_, h.ne, h.lo, h.lo2, h.ch.alloc o⟩
/-- Both written alike, the program's first. -/
theorem Two.step {w : World} {R S : Nat} {l l' : List Int} {w0 w1 w2 : World} (h : Two w R S l w0) (p : Blk w1 R (cp true l') 43) (c : Ch (· = R) w0 w1) (r : Blk w2 S (cr l') 41) (d : Ch (· = S) w1 w2)
    (hl : l'.length = 1024) (hb : By l') : Two w R S l' w2 :=
  ⟨p.ch d h.ne, r, hl, hb, h.ne, h.lo, h.lo2, (h.ch.trans c (U := fun _ => False) (fun _ h => h) (fun i hi => by rw [hi]; exact Or.inr h.lo)).trans d (fun _ h => h) (fun i hi => by rw [hi]; exact Or.inr h.lo2)⟩
/-- The local copy of an act. -/
structure Loc (w : World) (B : Nat) (at_ n v : Int) : Prop where
  lt : B < w.heap.size
  c1 : w.cell? ⟨B, 1, none⟩ = some (.int .i64 at_)
  c2 : w.cell? ⟨B, 2, none⟩ = some (.int .i64 n)
  c3 : w.cell? ⟨B, 3, none⟩ = some (.int .u16 v)
theorem Loc.ch {w w' : World} {B X : Nat} {at_ n v : Int} (h : Loc w B at_ n v) (c : Ch (· = X) w w') (hn : B ≠ X) : Loc w' B at_ n v :=
  ⟨Nat.lt_of_lt_of_le h.lt c.size, (c.cell (p := ⟨B, 1, none⟩) h.lt hn).trans h.c1, (c.cell (p := ⟨B, 2, none⟩) h.lt hn).trans h.c2, (c.cell (p := ⟨B, 3, none⟩) h.lt hn).trans h.c3⟩
theorem Loc.drew {w : World} {B : Nat} {at_ n v : Int} (h : Loc w B at_ n v) : Loc w.drew B at_ n v := ⟨h.lt, h.c1, h.c2, h.c3⟩
theorem Loc.drewN {w : World} {B : Nat} {at_ n v : Int} (h : Loc w B at_ n v) (m : Nat) : Loc (w.drewN m) B at_ n v := ⟨h.lt, h.c1, h.c2, h.c3⟩
theorem Loc.s {w : World} {B : Nat} {at_ n v : Int} (h : Loc w B at_ n v) : w.cell? ⟨B, 1, none⟩ = some (.int .i64 at_) ∧ w.cell? ⟨B, 2, none⟩ = some (.int .i64 n) ∧ w.cell? ⟨B, 3, none⟩ = some (.int .u16 v) := ⟨h.c1, h.c2, h.c3⟩
theorem Loc.new (w : World) (d at_ n v : Int) : Loc (w.alloc (.cells #[.int .i64 d, .int .i64 at_, .int .i64 n, .int .u16 v] 52)) w.heap.size at_ n v :=
  ⟨(Blk.new w _ _).lt, (Blk.new w _ _).cell 1, (Blk.new w _ _).cell 2, (Blk.new w _ _).cell 3⟩

/-- The acts of a slice. -/
def Acts (w : World) (A : Option Addr) (len : Nat) : Prop := ∀ k, k < len → ∃ (b o : Nat) (d at_ n v : Int), A = some ⟨b, o, none⟩ ∧ b < w.heap.size ∧ ActAt w b (o + k * 4) d at_ n v
set_option maxHeartbeats 8000000 in
set_option maxRecDepth 100000 in
theorem played_ok (w : World) (A : Option Addr) (len cap : Nat) (hact : Acts w A len) :
    Calls Try.prog 7 #[.slice A len cap] w fun e w' => ∃ R S l, e = .returned (.tuple #[.pointer (some ⟨R, 0, none⟩), .pointer (some ⟨S, 0, none⟩), .bool true]) ∧ Two w R S l w' := by
  have HA := Lib.hid hact
  clear hact
  have hTwo : Two w w.heap.size (w.heap.size + 1) zs ((w.alloc (.cells (cp true zs) 43)).alloc (.cells (cr zs) 41)) :=
    ⟨(Blk.new w _ _).alloc _, by simpa using Blk.new (w.alloc (.cells (cp true zs) 43)) (cr zs) 41, zs_len, By.zs, by omega, by omega, by omega, ((Ch.refl _ w).alloc _).alloc _⟩
  go_enter Try.func7, Try.ntmps7
  go_wp2_with (first | (go_at_call 18; refine (new_calls w).mono ?_; rintro e w' ⟨rfl, rfl⟩) | (refine wpList_build rfl 41 _ rfl (by kernel_rfl) ?_; generalize hZ : (Program.built _ _ _).getD #[] = Z; obtain rfl : Z = cr zs := by (rw [← hZ]; kernel_rfl)))
  clear hZ
  go_loopg [7] len (fun k i wr => ∃ j : Nat, j + k ≤ len ∧ len ≤ j + k ∧ i = .int .i64 j ∧ ∃ l, Two w w.heap.size (w.heap.size + 1) l wr)
  case atStart => exact ⟨0, by omega, by omega, rfl, zs, hTwo⟩
  case round =>
    clear hTwo
    obtain ⟨j, hj1, hj2, rfl, l, ht⟩ := hrel
    by_cases hlt : 0 < gk
    · obtain ⟨b, o, d, at_, n, v, rfl, hb, ⟨a0, a1, a2, a3, v0, v1⟩⟩ := HA.out j (by omega)
      have hbr : b < w.heap.size := hb
      have e0 := (ht.ch.cell (p := ⟨b, o + j * 4, none⟩) hb (fun h => h)).trans a0
      have e1 := (ht.ch.cell (p := ⟨b, o + j * 4 + 1, none⟩) hb (fun h => h)).trans a1
      have e2 := (ht.ch.cell (p := ⟨b, o + j * 4 + 2, none⟩) hb (fun h => h)).trans a2
      have e3 := (ht.ch.cell (p := ⟨b, o + j * 4 + 3, none⟩) hb (fun h => h)).trans a3
      clear a0 a1 a2 a3
      have hi : (j : Int) < (len : Int) := by omega
      by_cases h100 : (j : Int) < 100
      · have ht' := ht.alloc (.cells #[.int .i64 d, .int .i64 at_, .int .i64 n, .int .u16 v] 52)
        have hloc := Loc.new wr d at_ n v
        have hRB : (w.heap.size + 1) < wr.heap.size := ht.r.lt
        go_upto_block 2 with (fail)
        clear e0 e1 e2 e3 ht
        generalize wr.alloc (.cells #[.int .i64 d, .int .i64 at_, .int .i64 n, .int .u16 v] 52) = W0 at *
        generalize wr.heap.size = B at *
        clear wr
        go_cut [9] (fun v9 wx => v9 = .bool true ∧ ∃ l', Two w w.heap.size (w.heap.size + 1) l' wx)
        case first =>
          have hRne : B ≠ w.heap.size := by omega
          have hSne : B ≠ w.heap.size + 1 := by omega
          have vb : 0 ≤ v % 256 ∧ v % 256 ≤ 255 := by omega
          by_cases hd0 : d = 0
          · subst hd0
            by_cases hk : 0 ≤ at_ ∧ at_ < 1024
            · obtain ⟨m, rfl⟩ : ∃ m : Nat, at_ = m := ⟨at_.toNat, by omega⟩
              have hm : m < 1024 := by omega
              clear hk
              go_wp2_with (fail)
              go_region_held3 (fun w' => w'.cell? ⟨B, 1, none⟩ = some (.int .i64 (m : Int)) ∧ w'.cell? ⟨B, 2, none⟩ = some (.int .i64 n) ∧ w'.cell? ⟨B, 3, none⟩ = some (.int .u16 v)) (first | exact hloc.s | exact hloc.drew.s | exact (hloc.ch c1 (by omega)).s | exact (hloc.drew.ch c1 (by omega)).s | exact ((hloc.ch c1 (by omega)).ch c2 (by omega)).s | exact ((hloc.drew.ch c1 (by omega)).ch c2 (by omega)).s) (first | (go_at_call 15; refine (putByte_ok _ w.heap.size m l (v % 256) (by first | exact ht'.p | exact (ht'.p).drew) ht'.len hm).mono ?_; rintro e w1 ⟨rfl, p1, c1⟩) | (go_at_call 19; refine (rPutByte_ok _ (w.heap.size + 1) m l (v % 256) (by first | exact ht'.r.ch c1 (by omega) | exact ht'.r.drew.ch c1 (by omega)) ht'.len hm).mono ?_; rintro e w2 ⟨rfl, p2, c2⟩))
              all_goals (go_wp2; go_meet; exact ⟨rfl, _, by first | exact ht'.drew.step p1 c1 p2 c2 (by simpa using ht'.len) (ht'.by_.set _ vb.1 vb.2) | exact ht'.step p1 c1 p2 c2 (by simpa using ht'.len) (ht'.by_.set _ vb.1 vb.2) | exact (ht'.drew.step p1 c1 p2 c2 (by simpa using ht'.len) (ht'.by_.set _ vb.1 vb.2)).drew | exact (ht'.step p1 c1 p2 c2 (by simpa using ht'.len) (ht'.by_.set _ vb.1 vb.2)).drew⟩)
            · have hk' : at_ < 0 ∨ 1024 ≤ at_ := by omega
              have HK := Lib.hid hk'
              clear hk hk'
              go_wp2_with (fail)
              go_region_held3 (fun w' => w'.cell? ⟨B, 1, none⟩ = some (.int .i64 at_) ∧ w'.cell? ⟨B, 2, none⟩ = some (.int .i64 n) ∧ w'.cell? ⟨B, 3, none⟩ = some (.int .u16 v)) (first | exact hloc.s | exact hloc.drew.s | exact (hloc.ch c1 (by omega)).s | exact (hloc.drew.ch c1 (by omega)).s | exact ((hloc.ch c1 (by omega)).ch c2 (by omega)).s | exact ((hloc.drew.ch c1 (by omega)).ch c2 (by omega)).s) (first | (go_at_call 15; refine (putByte_bad _ w.heap.size l at_ (v % 256) (by first | exact ht'.p | exact (ht'.p).drew) HK.out).mono ?_; rintro e w1 ⟨rfl, rfl⟩) | (go_at_call 19; refine (rPutByte_bad _ (w.heap.size + 1) at_ (v % 256) HK.out).mono ?_; rintro e w2 ⟨rfl, rfl⟩))
              all_goals (go_wp2; go_meet; exact ⟨rfl, l, by first | exact ht' | exact ht'.drew⟩)
          have n0 : (d == 0) = false := beq_eq_false_iff_ne.2 hd0
          by_cases hd1 : d = 1
          · subst hd1
            have vd : 0 ≤ v / 256 ∧ v / 256 ≤ 255 := by omega
            by_cases hk : 0 ≤ at_ ∧ at_ < 1023
            · obtain ⟨m, rfl⟩ : ∃ m : Nat, at_ = m := ⟨at_.toNat, by omega⟩
              have hm : m + 1 < 1024 := by omega
              clear hk
              go_wp2_with (fail)
              go_region_held3 (fun w' => w'.cell? ⟨B, 1, none⟩ = some (.int .i64 (m : Int)) ∧ w'.cell? ⟨B, 2, none⟩ = some (.int .i64 n) ∧ w'.cell? ⟨B, 3, none⟩ = some (.int .u16 v)) (first | exact hloc.s | exact hloc.drew.s | exact (hloc.ch c1 (by omega)).s | exact (hloc.drew.ch c1 (by omega)).s | exact ((hloc.ch c1 (by omega)).ch c2 (by omega)).s | exact ((hloc.drew.ch c1 (by omega)).ch c2 (by omega)).s) (first | (go_at_call 10; refine (putWord_ok _ w.heap.size m l v (by first | exact ht'.p | exact (ht'.p).drew) ht'.len hm v0 v1).mono ?_; rintro e w1 ⟨rfl, p1, c1⟩) | (go_at_call 20; refine (rPutWord_ok _ (w.heap.size + 1) m l v (by first | exact ht'.r.ch c1 (by omega) | exact ht'.r.drew.ch c1 (by omega)) ht'.len hm v0 v1).mono ?_; rintro e w2 ⟨rfl, p2, c2⟩))
              all_goals (go_wp2; go_meet; exact ⟨rfl, _, by first | exact ht'.drew.step p1 c1 p2 c2 (by simpa using ht'.len) ((ht'.by_.set _ vd.1 vd.2).set _ vb.1 vb.2) | exact ht'.step p1 c1 p2 c2 (by simpa using ht'.len) ((ht'.by_.set _ vd.1 vd.2).set _ vb.1 vb.2) | exact (ht'.drew.step p1 c1 p2 c2 (by simpa using ht'.len) ((ht'.by_.set _ vd.1 vd.2).set _ vb.1 vb.2)).drew | exact (ht'.step p1 c1 p2 c2 (by simpa using ht'.len) ((ht'.by_.set _ vd.1 vd.2).set _ vb.1 vb.2)).drew⟩)
            · have hk' : at_ < 0 ∨ 1023 ≤ at_ := by omega
              have HK := Lib.hid hk'
              clear hk hk'
              go_wp2_with (fail)
              go_region_held3 (fun w' => w'.cell? ⟨B, 1, none⟩ = some (.int .i64 at_) ∧ w'.cell? ⟨B, 2, none⟩ = some (.int .i64 n) ∧ w'.cell? ⟨B, 3, none⟩ = some (.int .u16 v)) (first | exact hloc.s | exact hloc.drew.s | exact (hloc.ch c1 (by omega)).s | exact (hloc.drew.ch c1 (by omega)).s | exact ((hloc.ch c1 (by omega)).ch c2 (by omega)).s | exact ((hloc.drew.ch c1 (by omega)).ch c2 (by omega)).s) (first | (go_at_call 10; refine (putWord_bad _ w.heap.size l at_ v (by first | exact ht'.p | exact (ht'.p).drew) HK.out).mono ?_; rintro e w1 ⟨rfl, rfl⟩) | (go_at_call 20; refine (rPutWord_bad _ (w.heap.size + 1) at_ v HK.out).mono ?_; rintro e w2 ⟨rfl, rfl⟩))
              all_goals (go_wp2; go_meet; exact ⟨rfl, l, by first | exact ht' | exact ht'.drew⟩)
          have n1 : (d == 1) = false := beq_eq_false_iff_ne.2 hd1
          by_cases hd2 : d = 2
          · subst hd2
            by_cases hk : 0 ≤ at_ ∧ at_ < 1024
            · obtain ⟨m, rfl⟩ : ∃ m : Nat, at_ = m := ⟨at_.toNat, by omega⟩
              have hm : m < 1024 := by omega
              clear hk
              have B1 := byte_ok W0 w.heap.size m l ht'.p ht'.len hm
              have B2 := rByte_ok W0 (w.heap.size + 1) m l ht'.r ht'.len hm
              generalize l.getD m 0 = x at *
              have B1' := Lib.hid B1
              have B2' := Lib.hid B2
              clear B1 B2
              have f1 := hloc.c1
              go_wp2_with (first | (go_at_call 14; refine B1'.out.mono ?_; rintro e w1 ⟨rfl, rfl⟩) | (go_at_call 21; refine B2'.out.mono ?_; rintro e w2 ⟨rfl, rfl⟩))
              go_meet
              exact ⟨rfl, _, ht'⟩
            · have hk' : at_ < 0 ∨ 1024 ≤ at_ := by omega
              have HK := Lib.hid hk'
              clear hk hk'
              have f1 := hloc.c1
              go_wp2_with (first | (go_at_call 14; refine (byte_bad _ w.heap.size l at_ ht'.p HK.out).mono ?_; rintro e w1 ⟨rfl, rfl⟩) | (go_at_call 21; refine (rByte_bad _ (w.heap.size + 1) at_ HK.out).mono ?_; rintro e w2 ⟨rfl, rfl⟩))
              go_meet
              exact ⟨rfl, _, ht'⟩
          have n2 : (d == 2) = false := beq_eq_false_iff_ne.2 hd2
          by_cases hd3 : d = 3
          · subst hd3
            by_cases hk : 0 ≤ at_ ∧ at_ < 1023
            · obtain ⟨m, rfl⟩ : ∃ m : Nat, at_ = m := ⟨at_.toNat, by omega⟩
              have hm : m + 1 < 1024 := by omega
              clear hk
              have B1 := word_ok W0 w.heap.size m l ht'.p ht'.len ht'.by_ hm
              have B2 := fun q : Nat => rWord_ok (W0.drewN q) (w.heap.size + 1) m l (ht'.r.drewN q) ht'.len ht'.by_ hm
              generalize 256 * l.getD m 0 + l.getD (m + 1) 0 = x at *
              have B1' := Lib.hid B1
              have B2' := Lib.hid B2
              clear B1 B2
              have f1 := hloc.c1
              go_wp2_with (fail)
              refine B1'.out.mono ?_
              rintro e w1 ⟨rfl, q, rfl⟩
              go_wp2_with (fail)
              refine (B2'.out q).mono ?_
              rintro e w2 ⟨rfl, q2, rfl⟩
              go_wp2
              go_meet
              exact ⟨rfl, l, ht'.drewN (q + q2)⟩
            · have hk' : at_ < 0 ∨ 1023 ≤ at_ := by omega
              have HK := Lib.hid hk'
              clear hk hk'
              have f1 := hloc.c1
              go_wp2_with (first | (go_at_call 11; refine (word_bad _ w.heap.size l at_ ht'.p HK.out).mono ?_; rintro e w1 ⟨rfl, rfl⟩) | (go_at_call 22; refine (rWord_bad _ (w.heap.size + 1) at_ HK.out).mono ?_; rintro e w2 ⟨rfl, rfl⟩))
              go_meet
              exact ⟨rfl, _, ht'⟩
          have n3 : (d == 3) = false := beq_eq_false_iff_ne.2 hd3
          by_cases hd4 : d = 4
          · subst hd4
            by_cases hk : 0 ≤ at_ ∧ 0 ≤ n ∧ at_ ≤ 1024 ∧ n ≤ 1024 - at_
            · obtain ⟨m, rfl⟩ : ∃ m : Nat, at_ = m := ⟨at_.toNat, by omega⟩
              obtain ⟨c, rfl⟩ : ∃ c : Nat, n = c := ⟨n.toNat, by omega⟩
              have hm : m + c ≤ 1024 := by omega
              clear hk
              go_wp2_with (fail)
              go_region_held3 (fun w' => w'.cell? ⟨B, 1, none⟩ = some (.int .i64 (m : Int)) ∧ w'.cell? ⟨B, 2, none⟩ = some (.int .i64 (c : Int)) ∧ w'.cell? ⟨B, 3, none⟩ = some (.int .u16 v)) (first | exact hloc.s | exact hloc.drew.s | exact (hloc.ch c1 (by omega)).s | exact (hloc.drew.ch c1 (by omega)).s | exact ((hloc.ch c1 (by omega)).ch c2 (by omega)).s | exact ((hloc.drew.ch c1 (by omega)).ch c2 (by omega)).s) (first | (go_at_call 16; refine (clear_ok _ w.heap.size m c l (by first | exact ht'.p | exact (ht'.p).drew) ht'.len hm).mono ?_; rintro e w1 ⟨rfl, p1, c1⟩) | (go_at_call 23; refine (rClear_ok _ (w.heap.size + 1) m c l (by first | exact ht'.r.ch c1 (by omega) | exact ht'.r.drew.ch c1 (by omega)) ht'.len hm).mono ?_; rintro e w2 ⟨rfl, p2, c2⟩))
              all_goals (go_wp2; go_meet; exact ⟨rfl, _, by first | exact ht'.drew.step p1 c1 p2 c2 ((zap_len _ _ _).trans ht'.len) (ht'.by_.zap _ _) | exact ht'.step p1 c1 p2 c2 ((zap_len _ _ _).trans ht'.len) (ht'.by_.zap _ _) | exact (ht'.drew.step p1 c1 p2 c2 ((zap_len _ _ _).trans ht'.len) (ht'.by_.zap _ _)).drew | exact (ht'.step p1 c1 p2 c2 ((zap_len _ _ _).trans ht'.len) (ht'.by_.zap _ _)).drew⟩)
            · have hk' : at_ < 0 ∨ n < 0 ∨ 1024 < at_ ∨ 1024 - at_ < n := by omega
              have HK := Lib.hid hk'
              clear hk hk'
              go_wp2_with (fail)
              go_region_held3 (fun w' => w'.cell? ⟨B, 1, none⟩ = some (.int .i64 at_) ∧ w'.cell? ⟨B, 2, none⟩ = some (.int .i64 n) ∧ w'.cell? ⟨B, 3, none⟩ = some (.int .u16 v)) (first | exact hloc.s | exact hloc.drew.s | exact (hloc.ch c1 (by omega)).s | exact (hloc.drew.ch c1 (by omega)).s | exact ((hloc.ch c1 (by omega)).ch c2 (by omega)).s | exact ((hloc.drew.ch c1 (by omega)).ch c2 (by omega)).s) (first | (go_at_call 16; refine (clear_bad _ w.heap.size l at_ n (by first | exact ht'.p | exact (ht'.p).drew) HK.out).mono ?_; rintro e w1 ⟨rfl, rfl⟩) | (go_at_call 23; refine (rClear_bad _ (w.heap.size + 1) at_ n HK.out).mono ?_; rintro e w2 ⟨rfl, rfl⟩))
              all_goals (go_wp2; go_meet; exact ⟨rfl, l, by first | exact ht' | exact ht'.drew⟩)
          have n4 : (d == 4) = false := beq_eq_false_iff_ne.2 hd4
          by_cases hd5 : d = 5
          · subst hd5
            go_wp2_with (first | (go_at_call 17; refine (lose_ok _ w.heap.size l ht'.p ht'.len).mono ?_; rintro e w1 ⟨rfl, p1, c1⟩) | (go_at_call 23; refine (rClear_ok _ (w.heap.size + 1) 0 1024 l (ht'.r.ch c1 (by omega)) ht'.len (by omega)).mono ?_; rintro e w2 ⟨rfl, p2, c2⟩))
            go_meet
            exact ⟨rfl, _, ht'.step p1 c1 p2 c2 ((zap_len _ _ _).trans ht'.len) (ht'.by_.zap _ _)⟩
          have n5 : (d == 5) = false := beq_eq_false_iff_ne.2 hd5
          go_wp2
          go_meet
          exact ⟨rfl, l, ht'⟩
        case rest =>
          obtain ⟨rfl, l', ht2⟩ := hcut
          go_wp2
          go_roundg (gk - 1)
          case measure => omega
          case rel => exact ⟨j + 1, by omega, by omega, by go_num, l', ht2⟩
      · go_wp2_with (fail)
        clear e0 e1 e2 e3
        have hsl : ∀ wx : World, (Instr.sliceAt 39 (.pointer (some ⟨w.heap.size + 1, 0, none⟩)) none none none).run Try.prog wx = .ok (.slice (some ⟨w.heap.size + 1, 0, none⟩) 1024 1024) wx := fun wx => by
          rw [run_sliceAt_array_all wx 39 _ ht39, sz39, al39]; rfl
        have hA1 : ∀ j, j < 1024 → (wr.alloc (.cells (cr l) 39)).cell? ⟨wr.heap.size, 0 + j, none⟩ = some (.int .u8 (l.getD j 0)) := fun j hj => by
          rw [(Blk.new wr (cr l) 39).cell, Nat.zero_add]; exact cr_get _ _ (by rw [ht.len]; exact hj)
        have hA2 : ∀ j, j < 1024 → (wr.alloc (.cells (cr l) 39)).cell? ⟨w.heap.size + 1, 0 + j, none⟩ = some (.int .u8 (l.getD j 0)) := fun j hj => by
          rw [(ht.r.alloc _).cell, Nat.zero_add]; exact cr_get _ _ (by rw [ht.len]; exact hj)
        have HA1 := Lib.hid hA1
        have HA2 := Lib.hid hA2
        clear hA1 hA2
        go_region_held3 (fun _ => True) (trivial) (first | (go_at_call 9; refine (bytes_ok _ w.heap.size l (by first | exact ht.p | exact ht.p.drew) ht.len).mono ?_; rintro e w1 ⟨rfl, rfl⟩) | (go_at_call 13; refine (same_ok _ wr.heap.size (w.heap.size + 1) 1024 1024 1024 0 0 (fun j => l.getD j 0) (by omega) ?_ ?_).mono ?_; (exact HA1.out); (exact HA2.out); rintro e w2 ⟨rfl, m2, rfl⟩))
        all_goals (go_wp2; go_ret3; exact ⟨_, _, l, rfl, by first | exact (ht.alloc _).drewN _ | exact ((ht.alloc _).drew).drewN _⟩)
    · have hi : ¬ (j : Int) < (len : Int) := by omega
      go_wp2_with (fail)
      have hsl : ∀ wx : World, (Instr.sliceAt 39 (.pointer (some ⟨w.heap.size + 1, 0, none⟩)) none none none).run Try.prog wx = .ok (.slice (some ⟨w.heap.size + 1, 0, none⟩) 1024 1024) wx := fun wx => by
        rw [run_sliceAt_array_all wx 39 _ ht39, sz39, al39]; rfl
      have hA1 : ∀ j, j < 1024 → (wr.alloc (.cells (cr l) 39)).cell? ⟨wr.heap.size, 0 + j, none⟩ = some (.int .u8 (l.getD j 0)) := fun j hj => by
        rw [(Blk.new wr (cr l) 39).cell, Nat.zero_add]; exact cr_get _ _ (by rw [ht.len]; exact hj)
      have hA2 : ∀ j, j < 1024 → (wr.alloc (.cells (cr l) 39)).cell? ⟨w.heap.size + 1, 0 + j, none⟩ = some (.int .u8 (l.getD j 0)) := fun j hj => by
        rw [(ht.r.alloc _).cell, Nat.zero_add]; exact cr_get _ _ (by rw [ht.len]; exact hj)
      have HA1 := Lib.hid hA1
      have HA2 := Lib.hid hA2
      clear hA1 hA2
      go_region_held3 (fun _ => True) (trivial) (first | (go_at_call 9; refine (bytes_ok _ w.heap.size l (by first | exact ht.p | exact ht.p.drew) ht.len).mono ?_; rintro e w1 ⟨rfl, rfl⟩) | (go_at_call 13; refine (same_ok _ wr.heap.size (w.heap.size + 1) 1024 1024 1024 0 0 (fun j => l.getD j 0) (by omega) ?_ ?_).mono ?_; (exact HA1.out); (exact HA2.out); rintro e w2 ⟨rfl, m2, rfl⟩))
      all_goals (go_wp2; go_ret3; exact ⟨_, _, l, rfl, by first | exact (ht.alloc _).drewN _ | exact ((ht.alloc _).drew).drewN _⟩)
end Go.Proofs.Ytmohdhcoegpgmaa.Ram
