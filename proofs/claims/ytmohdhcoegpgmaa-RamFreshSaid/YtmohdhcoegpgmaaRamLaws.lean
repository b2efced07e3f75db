/- The walks of RamPlays, RamFresh and RamOne, over the acts of a slice that is read. -/
import Derived.Test.YtmohdhcoegpgmaaRamPlayed
import Derived.Test.YtmohdhcoegpgmaaOpen
import Derived.OpenShut
namespace Go.Proofs.Ytmohdhcoegpgmaa.Ram
open Go.RowKit Go.Proofs.YtmohdhcoegpgmaaW.PrintWords Go.Proofs.Ytmohdhcoegpgmaa.Opn
/-- An act. -/
def kAct : Kd (Int × Int × Int × Int) := Kd.pair (Kd.int .i64) (Kd.pair (Kd.int .i64) (Kd.pair (Kd.int .i64) (Kd.int .u16)))
theorem opens_act : Opens Try.prog kAct 52 (fun y => (Lit.int .i64 y.1).wf = true ∧ (Lit.int .i64 y.2.1).wf = true ∧ (Lit.int .i64 y.2.2.1).wf = true ∧ (Lit.int .u16 y.2.2.2).wf = true) :=
  opens_struct Try.underlying52 (by kernel_rfl) (opensF_cons rfl (by kernel_rfl) (opens_int Try.underlying3) (opensF_cons rfl (by kernel_rfl) (opens_int Try.underlying3) (opensF_cons rfl (by kernel_rfl) (opens_int Try.underlying3) (opensF_last rfl (by kernel_rfl) (opens_int Try.underlying29)))))
theorem acts_of {H : Type} {enc : TypeId × Value → H} {w : World} {sp : Nat → Bool} {held : Bool} {A : Option Addr} {len cap : Nat} {d : DataW H} {ps : List MemPlace}
    (h : DataW.Trod enc Try.prog w 0 sp held 22 (.slice A len cap) d ps) : Acts w A len := by
  obtain ⟨l, ⟨A', c', e, _, hl, _, hr⟩, _, hg⟩ := (opens_slice Try.underlying22 (by kernel_rfl) opens_act).arg h
  simp [Value.cells] at e
  obtain ⟨rfl, rfl, rfl⟩ := e
  intro k hk
  obtain ⟨a, rfl, hc⟩ := hr (by omega)
  obtain ⟨cs, hcl, ⟨c0, t1, rfl, e0, c1, t2, rfl, e1, c2, c3, rfl, e2, e3⟩, hcell⟩ := hc k _ (List.getElem?_eq_getElem hk)
  have g := hg _ (List.getElem_mem hk)
  have e0' : c0 = [Value.int .i64 (l[k]).1] := e0
  have e1' : c1 = [Value.int .i64 (l[k]).2.1] := e1
  have e2' : c2 = [Value.int .i64 (l[k]).2.2.1] := e2
  have e3' : c3 = [Value.int .u16 (l[k]).2.2.2] := e3
  subst e0' e1' e2' e3'
  have q0 := hcell 0 _ rfl
  have q1 := hcell 1 _ rfl
  have q2 := hcell 2 _ rfl
  have q3 := hcell 3 _ rfl
  have z : kAct.sz = 4 := rfl
  rw [z] at q0 q1 q2 q3
  obtain ⟨b, o, sp'⟩ := a
  have hsp : sp' = none := by
    cases sp' with
    | none => rfl
    | some s =>
      exfalso
      obtain ⟨cs0, hl0, _, hcell0⟩ := hc 0 _ (List.getElem?_eq_getElem (show 0 < l.length by omega))
      have hz : 0 < cs0.length := by rw [hl0]; decide
      have z0 := hcell0 0 _ (List.getElem?_eq_getElem hz)
      have ez : (⟨b, o, some s⟩ : Addr).add (0 * kAct.sz + 0) = ⟨b, o, some s⟩ := by simp [Addr.add]
      rw [ez] at z0
      unfold World.cell? at z0
      split at z0 <;> simp at z0
  subst hsp
  rw [Addr.add_mid] at q0 q1 q2 q3
  have hv := bounds_u16 g.2.2.2
  refine ⟨b, o, _, _, _, _, rfl, ?_, q0, q1, q2, q3, hv.1, hv.2⟩
  unfold World.cell? at q0
  split at q0
  · rename_i hh
    exact (Array.getElem?_eq_some_iff.1 hh).1
  · cases q0
set_option maxHeartbeats 4000000 in
set_option maxRecDepth 100000 in
theorem plays_walk (w : World) (A : Option Addr) (len cap : Nat) (hact : Acts w A len) :
    Calls Try.prog 3 #[.slice A len cap] w fun e w' => e = .returned (.bool true) ∧ Below w.heap.size w w' := by
  have HA := Lib.hid hact
  clear hact
  go_enter Try.func3, Try.ntmps3
  go_wp2_with fail
  refine (played_ok _ _ _ _ HA.out).mono ?_
  rintro e w1 ⟨R, S, l, rfl, ht⟩
  go_wp2_with (go_at_call 8; refine (works_ok _).mono ?_; rintro e w2 ⟨rfl, hc⟩)
  go_ret
  exact ⟨rfl, (ht.ch.trans hc (U := fun _ => False) (fun _ h => h) (fun _ h => h.elim)).below (fun _ h => h.elim) (Nat.le_refl _)⟩
set_option maxHeartbeats 4000000 in
set_option maxRecDepth 100000 in
theorem fresh_walk (w : World) (A : Option Addr) (len cap : Nat) (hact : Acts w A len) :
    Calls Try.prog 5 #[.slice A len cap] w fun e w' => e = .returned (.bool true) ∧ Below w.heap.size w w' := by
  have HA := Lib.hid hact
  clear hact
  go_enter Try.func5, Try.ntmps5
  go_wp2_with fail
  refine (played_ok _ _ _ _ HA.out).mono ?_
  rintro e w1 ⟨R, S, l, rfl, ht⟩
  go_wp2_with fail
  refine (bytes_ok _ R l ht.p ht.len).mono ?_
  rintro e w2 ⟨rfl, rfl⟩
  go_wp2_with fail
  refine (spoil_ok _ w1.heap.size l 39 1 (Blk.new w1 _ _) ht.len).mono ?_
  rintro e w3 ⟨rfl, c3⟩
  have hp : Blk w3 R (cp true l) 43 := (ht.p.alloc _).ch c3 (Nat.ne_of_lt ht.p.lt)
  have hr : Blk w3 S (cr l) 41 := (ht.r.alloc _).ch c3 (Nat.ne_of_lt ht.r.lt)
  have c : Ch (fun _ => False) w w3 := (ht.ch.alloc _).trans c3 (fun _ h => h) (fun i hi => by rw [hi]; exact Or.inr ht.ch.size)
  clear c3
  have hsl : ∀ wx : World, (Instr.sliceAt 39 (.pointer (some ⟨S, 0, none⟩)) none none none).run Try.prog wx = .ok (.slice (some ⟨S, 0, none⟩) 1024 1024) wx := fun wx => by
    rw [run_sliceAt_array_all wx 39 _ ht39, sz39, al39]; rfl
  have hA1 : ∀ j, j < 1024 → (w3.alloc (.cells (cr l) 39)).cell? ⟨w3.heap.size, 0 + j, none⟩ = some (.int .u8 (l.getD j 0)) := fun j hj => by
    rw [(Blk.new w3 (cr l) 39).cell, Nat.zero_add]; exact cr_get _ _ (by rw [ht.len]; exact hj)
  have hA2 : ∀ j, j < 1024 → (w3.alloc (.cells (cr l) 39)).cell? ⟨S, 0 + j, none⟩ = some (.int .u8 (l.getD j 0)) := fun j hj => by
    rw [(hr.alloc _).cell, Nat.zero_add]; exact cr_get _ _ (by rw [ht.len]; exact hj)
  have HA1 := Lib.hid hA1
  have HA2 := Lib.hid hA2
  clear hA1 hA2 HA
  go_wp2_with fail
  go_region_held3 (fun _ => True) (trivial) (first | (go_at_call 9; refine (bytes_ok _ R l (by first | exact hp | exact hp.drew) ht.len).mono ?_; rintro e w4 ⟨rfl, rfl⟩) | (go_at_call 13; refine (same_ok _ w3.heap.size S 1024 1024 1024 0 0 (fun j => l.getD j 0) (by omega) ?_ ?_).mono ?_; (exact HA1.out); (exact HA2.out); rintro e w5 ⟨rfl, m2, rfl⟩) | (go_at_call 8; refine (works_ok _).mono ?_; rintro e w6 ⟨rfl, hc⟩))
  all_goals (go_wp2; go_ret)
  all_goals (refine ⟨rfl, Ch.below (S := fun _ => False) ?_ (fun _ h => h.elim) (Nat.le_refl _)⟩)
  all_goals (first | exact ((c.alloc _).drewN _).trans hc (fun _ h => h) (fun _ h => h.elim) | exact (((c.alloc _).drew).drewN _).trans hc (fun _ h => h) (fun _ h => h.elim))
set_option maxHeartbeats 4000000 in
set_option maxRecDepth 100000 in
theorem one_ok (w : World) (A : Option Addr) (len cap n : Nat) (v : Int) (hact : Acts w A len) (hn : n + 1 < 1024) (v0 : 0 ≤ v) (v1 : v ≤ 65535) :
    Calls Try.prog 4 #[.slice A len cap, .int .i64 n, .int .u16 v] w fun e w' => e = .returned (.bool true) ∧ Below w.heap.size w w' := by
  have HA := Lib.hid hact
  clear hact
  go_enter Try.func4, Try.ntmps4
  go_wp2_with fail
  refine (played_ok _ _ _ _ HA.out).mono ?_
  rintro e w1 ⟨R, S, l, rfl, ht⟩
  clear HA
  go_wp2_with fail
  refine (bytes_ok _ R l ht.p ht.len).mono ?_
  rintro e w2 ⟨rfl, rfl⟩
  have b2 : Blk (w1.alloc (.cells (cr l) 39)) w1.heap.size (cr l) 39 := Blk.new _ _ _
  have hRl : R < w1.heap.size := ht.p.lt
  go_wp2_with fail
  refine (putWord_ok _ R n l v (ht.p.alloc _) ht.len hn v0 v1).mono ?_
  rintro e w3 ⟨rfl, p3, c3⟩
  have b3 := b2.ch c3 (show ¬ w1.heap.size = R by omega)
  have c : Ch (fun _ => False) w w3 := (ht.ch.alloc _).trans c3 (fun _ h => h) (fun i hi => by rw [hi]; exact Or.inr ht.lo)
  have l3 : ((l.set n (v / 256)).set (n + 1) (v % 256)).length = 1024 := by simpa using ht.len
  have y3 : By ((l.set n (v / 256)).set (n + 1) (v % 256)) := (ht.by_.set _ (by omega) (by omega)).set _ (by omega) (by omega)
  have g3 : 256 * ((l.set n (v / 256)).set (n + 1) (v % 256)).getD n 0 + ((l.set n (v / 256)).set (n + 1) (v % 256)).getD (n + 1) 0 = v := by
    rw [set_getD, if_neg (by omega), set_getD, if_pos ⟨rfl, by rw [ht.len]; omega⟩, set_getD, if_pos ⟨rfl, by rw [List.length_set, ht.len]; omega⟩]; omega
  have o3 : ∀ j, j ≠ n → j ≠ n + 1 → ((l.set n (v / 256)).set (n + 1) (v % 256)).getD j 0 = l.getD j 0 := fun j h1 h2 => by
    rw [set_getD, if_neg (by omega), set_getD, if_neg (by omega)]
  have l0 := ht.len
  clear c3 b2 ht
  generalize (l.set n (v / 256)).set (n + 1) (v % 256) = L at *
  have G3 := Lib.hid g3
  have O3 := Lib.hid o3
  clear g3 o3
  go_wp2_with fail
  refine (bytes_ok _ R L p3 l3).mono ?_
  rintro e w4 ⟨rfl, rfl⟩
  have b4 : Blk (w3.alloc (.cells (cr L) 39)) w3.heap.size (cr L) 39 := Blk.new _ _ _
  have b5 := b3.alloc (.cells (cr L) 39)
  have p5 := p3.alloc (.cells (cr L) 39)
  have c5 := c.alloc (.cells (cr L) 39)
  clear b3 p3 c
  generalize w3.alloc (.cells (cr L) 39) = w5 at *
  generalize w3.heap.size = C at *
  generalize w1.heap.size = D at *
  clear w3 w1
  go_wp2_with fail
  refine (word_ok _ R n L p5 l3 y3 hn).mono ?_
  rintro e w6 ⟨rfl, m, rfl⟩
  rw [G3.out]
  clear p5 y3 G3
  have nn : ((n : Int) < 1023) := by omega
  go_wp2_with fail
  go_loopw [15] (fun i wr => ∃ k : Nat, k ≤ 1024 ∧ i = .int .i64 k ∧ ∃ q, wr = w5.drewN q) (fun i _ => 1024 - (intOf i).toNat)
  case atStart => exact ⟨0, by omega, rfl, m, rfl⟩
  case round =>
    obtain ⟨k, hk, rfl, q, rfl⟩ := hrel
    by_cases hlt : k < 1024
    · have x1 : w5.cell? ⟨C, k, none⟩ = some (.int .u8 (L.getD k 0)) := by rw [b4.cell]; exact cr_get _ _ (by omega)
      have x2 : w5.cell? ⟨D, k, none⟩ = some (.int .u8 (l.getD k 0)) := by rw [b5.cell]; exact cr_get _ _ (by omega)
      have hlt' : (k : Int) < 1024 := by omega
      by_cases hxy : L.getD k 0 = l.getD k 0
      · rw [hxy] at x1
        clear hxy
        generalize l.getD k 0 = x at *
        go_wp2_with fail
        go_quiet (fail)
        go_wp2
        go_roundw
        case rel => exact ⟨k + 1, by omega, by go_num, _, rfl⟩
        case measure => simp [intOf]; omega
      · have hne : (L.getD k 0 != l.getD k 0) = true := by rw [bne_iff_ne]; exact hxy
        have hk2 : k = n ∨ k = n + 1 := by
          by_cases e1 : k = n
          · exact Or.inl e1
          · by_cases e2 : k = n + 1
            · exact Or.inr e2
            · exact absurd (O3.out k e1 e2) hxy
        generalize l.getD k 0 = x at *
        generalize L.getD k 0 = y at *
        clear hxy
        rcases hk2 with e1 | e1
        · have q1 : ((k : Int) != (n : Int)) = false := by rw [bne_eq_false_iff_eq]; omega
          clear e1
          go_wp2_with fail
          go_quiet (fail)
          go_wp2
          go_roundw
          case rel => exact ⟨k + 1, by omega, by go_num, _, rfl⟩
          case measure => simp [intOf]; omega
        · have q1 : ((k : Int) != (n : Int)) = true := by rw [bne_iff_ne]; omega
          have q2 : ((k : Int) != (n : Int) + 1) = false := by rw [bne_eq_false_iff_eq]; omega
          clear e1
          go_wp2_with fail
          go_quiet (fail)
          go_wp2
          go_roundw
          case rel => exact ⟨k + 1, by omega, by go_num, _, rfl⟩
          case measure => simp [intOf]; omega
    · obtain rfl : k = 1024 := by omega
      go_wp2_with (go_at_call 8; refine (works_ok _).mono ?_; rintro e w7 ⟨rfl, hc⟩)
      go_ret
      exact ⟨rfl, ((c5.drewN _).trans hc (U := fun _ => False) (fun _ h => h) (fun _ h => h.elim)).below (fun _ h => h.elim) (Nat.le_refl _)⟩
set_option maxHeartbeats 4000000 in
set_option maxRecDepth 100000 in
theorem one_neg (w : World) (A : Option Addr) (len cap : Nat) (at_ v : Int) (hact : Acts w A len) (hn : at_ < 0) :
    Calls Try.prog 4 #[.slice A len cap, .int .i64 at_, .int .u16 v] w fun e w' => e = .returned (.bool true) ∧ Below w.heap.size w w' := by
  have HA := Lib.hid hact
  clear hact
  go_enter Try.func4, Try.ntmps4
  go_wp2_with fail
  refine (played_ok _ _ _ _ HA.out).mono ?_
  rintro e w1 ⟨R, S, l, rfl, ht⟩
  clear HA
  go_wp2_with fail
  refine (bytes_ok _ R l ht.p ht.len).mono ?_
  rintro e w2 ⟨rfl, rfl⟩
  have b2 : Blk (w1.alloc (.cells (cr l) 39)) w1.heap.size (cr l) 39 := Blk.new _ _ _
  have p2 := ht.p.alloc (.cells (cr l) 39)
  have c2 := ht.ch.alloc (.cells (cr l) 39)
  have l0 := ht.len
  clear ht
  generalize w1.alloc (.cells (cr l) 39) = w2 at *
  generalize w1.heap.size = D at *
  clear w1
  go_wp2_with fail
  refine (putWord_bad _ R l at_ v p2 (Or.inl hn)).mono ?_
  rintro e w3 ⟨rfl, rfl⟩
  go_wp2_with fail
  refine (bytes_ok _ R l p2 l0).mono ?_
  rintro e w4 ⟨rfl, rfl⟩
  have b4 : Blk (w2.alloc (.cells (cr l) 39)) w2.heap.size (cr l) 39 := Blk.new _ _ _
  have b5 := b2.alloc (.cells (cr l) 39)
  have p5 := p2.alloc (.cells (cr l) 39)
  have c5 := c2.alloc (.cells (cr l) 39)
  clear b2 p2 c2
  generalize w2.alloc (.cells (cr l) 39) = w5 at *
  generalize w2.heap.size = C at *
  clear w2
  go_wp2_with fail
  refine (word_bad _ R l at_ p5 (Or.inl hn)).mono ?_
  rintro e w6 ⟨rfl, rfl⟩
  clear p5
  go_wp2_with fail
  go_loopw [15] (fun i wr => ∃ k : Nat, k ≤ 1024 ∧ i = .int .i64 k ∧ ∃ q, wr = w5.drewN q) (fun i _ => 1024 - (intOf i).toNat)
  case atStart => exact ⟨0, by omega, rfl, 0, rfl⟩
  case round =>
    obtain ⟨k, hk, rfl, q, rfl⟩ := hrel
    by_cases hlt : k < 1024
    · have x1 : w5.cell? ⟨C, k, none⟩ = some (.int .u8 (l.getD k 0)) := by rw [b4.cell]; exact cr_get _ _ (by omega)
      have x2 : w5.cell? ⟨D, k, none⟩ = some (.int .u8 (l.getD k 0)) := by rw [b5.cell]; exact cr_get _ _ (by omega)
      have hlt' : (k : Int) < 1024 := by omega
      generalize l.getD k 0 = x at *
      go_wp2_with fail
      go_quiet (fail)
      go_wp2
      go_roundw
      case rel => exact ⟨k + 1, by omega, by go_num, _, rfl⟩
      case measure => simp [intOf]; omega
    · obtain rfl : k = 1024 := by omega
      go_wp2_with (go_at_call 8; refine (works_ok _).mono ?_; rintro e w7 ⟨rfl, hc⟩)
      go_ret
      exact ⟨rfl, ((c5.drewN _).trans hc (U := fun _ => False) (fun _ h => h) (fun _ h => h.elim)).below (fun _ h => h.elim) (Nat.le_refl _)⟩
set_option maxHeartbeats 4000000 in
set_option maxRecDepth 100000 in
theorem one_far (w : World) (A : Option Addr) (len cap : Nat) (at_ v : Int) (hact : Acts w A len) (hn : 1023 ≤ at_) :
    Calls Try.prog 4 #[.slice A len cap, .int .i64 at_, .int .u16 v] w fun e w' => e = .returned (.bool true) ∧ Below w.heap.size w w' := by
  have HA := Lib.hid hact
  clear hact
  go_enter Try.func4, Try.ntmps4
  go_wp2_with fail
  refine (played_ok _ _ _ _ HA.out).mono ?_
  rintro e w1 ⟨R, S, l, rfl, ht⟩
  clear HA
  go_wp2_with fail
  refine (bytes_ok _ R l ht.p ht.len).mono ?_
  rintro e w2 ⟨rfl, rfl⟩
  have b2 : Blk (w1.alloc (.cells (cr l) 39)) w1.heap.size (cr l) 39 := Blk.new _ _ _
  have p2 := ht.p.alloc (.cells (cr l) 39)
  have c2 := ht.ch.alloc (.cells (cr l) 39)
  have l0 := ht.len
  clear ht
  generalize w1.alloc (.cells (cr l) 39) = w2 at *
  generalize w1.heap.size = D at *
  clear w1
  go_wp2_with fail
  refine (putWord_bad _ R l at_ v p2 (Or.inr hn)).mono ?_
  rintro e w3 ⟨rfl, rfl⟩
  go_wp2_with fail
  refine (bytes_ok _ R l p2 l0).mono ?_
  rintro e w4 ⟨rfl, rfl⟩
  have b4 : Blk (w2.alloc (.cells (cr l) 39)) w2.heap.size (cr l) 39 := Blk.new _ _ _
  have b5 := b2.alloc (.cells (cr l) 39)
  have p5 := p2.alloc (.cells (cr l) 39)
  have c5 := c2.alloc (.cells (cr l) 39)
  clear b2 p2 c2
  generalize w2.alloc (.cells (cr l) 39) = w5 at *
  generalize w2.heap.size = C at *
  clear w2
  go_wp2_with fail
  refine (word_bad _ R l at_ p5 (Or.inr hn)).mono ?_
  rintro e w6 ⟨rfl, rfl⟩
  clear p5
  go_wp2_with fail
  go_loopw [15] (fun i wr => ∃ k : Nat, k ≤ 1024 ∧ i = .int .i64 k ∧ ∃ q, wr = w5.drewN q) (fun i _ => 1024 - (intOf i).toNat)
  case atStart => exact ⟨0, by omega, rfl, 0, rfl⟩
  case round =>
    obtain ⟨k, hk, rfl, q, rfl⟩ := hrel
    by_cases hlt : k < 1024
    · have x1 : w5.cell? ⟨C, k, none⟩ = some (.int .u8 (l.getD k 0)) := by rw [b4.cell]; exact cr_get _ _ (by omega)
      have x2 : w5.cell? ⟨D, k, none⟩ = some (.int .u8 (l.getD k 0)) := by rw [b5.cell]; exact cr_get _ _ (by omega)
      have hlt' : (k : Int) < 1024 := by omega
      generalize l.getD k 0 = x at *
      go_wp2_with fail
      go_quiet (fail)
      go_wp2
      go_roundw
      case rel => exact ⟨k + 1, by omega, by go_num, _, rfl⟩
      case measure => simp [intOf]; omega
    · obtain rfl : k = 1024 := by omega
      go_wp2_with (go_at_call 8; refine (works_ok _).mono ?_; rintro e w7 ⟨rfl, hc⟩)
      go_ret
      exact ⟨rfl, ((c5.drewN _).trans hc (U := fun _ => False) (fun _ h => h) (fun _ h => h.elim)).below (fun _ h => h.elim) (Nat.le_refl _)⟩
theorem one_walk (w : World) (A : Option Addr) (len cap : Nat) (at_ v : Int) (hact : Acts w A len) (hv : (Lit.int .u16 v).wf = true) :
    Calls Try.prog 4 #[.slice A len cap, .int .i64 at_, .int .u16 v] w fun e w' => e = .returned (.bool true) ∧ Below w.heap.size w w' := by
  have b := bounds_u16 hv
  by_cases h1 : at_ < 0
  · exact one_neg w A len cap at_ v hact h1
  · by_cases h2 : 1023 ≤ at_
    · exact one_far w A len cap at_ v hact h2
    · obtain ⟨n, rfl⟩ : ∃ n : Nat, at_ = n := ⟨at_.toNat, by omega⟩
      exact one_ok w A len cap n v hact (by omega) b.1 b.2
end Go.Proofs.Ytmohdhcoegpgmaa.Ram
