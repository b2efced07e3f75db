/- The walks of NvmCut and NvmOne. -/
import Derived.Test.YtacfnlokflgpeaaNvmNil
import Derived.Test.YtacfnlokflgpeaaNvmPlayed
import Derived.Test.YtacfnlokflgpeaaOpen
import Derived.OpenShut
namespace Go.Proofs.Ytacfnlokflgpeaa.Nvm
open Go.RowKit Go.Proofs.Ytacfnlokflgpeaa.Base Go.Proofs.YtacfnlokflgpeaaW.PrintWords Go.Proofs.Ytacfnlokflgpeaa.Opn
/-- An act. -/
def kAct : Kd (Int × Int × Int) := Kd.pair (Kd.int .i64) (Kd.pair (Kd.int .i64) (Kd.int .u8))
theorem opens_act : Opens Try.prog kAct 48 (fun y => (Lit.int .i64 y.1).wf = true ∧ (Lit.int .i64 y.2.1).wf = true ∧ (Lit.int .u8 y.2.2).wf = true) :=
  opens_struct Try.underlying48 (by kernel_rfl) (opensF_cons rfl (by kernel_rfl) (opens_int Try.underlying3) (opensF_cons rfl (by kernel_rfl) (opens_int Try.underlying3) (opensF_last rfl (by kernel_rfl) (opens_int Try.underlying5))))
theorem acts_of {H : Type} {enc : TypeId × Value → H} {w : World} {sp : Nat → Bool} {held : Bool} {A : Option Addr} {len cap : Nat} {d : DataW H} {ps : List MemPlace}
    (h : DataW.Trod enc Try.prog w 0 sp held 33 (.slice A len cap) d ps) : Acts w A len := by
  obtain ⟨l, ⟨A', c', e, _, hl, _, hr⟩, _, hg⟩ := (opens_slice Try.underlying33 (by kernel_rfl) opens_act).arg h
  simp [Value.cells] at e
  obtain ⟨rfl, rfl, rfl⟩ := e
  intro k hk
  obtain ⟨a, rfl, hc⟩ := hr (by omega)
  obtain ⟨cs, hcl, ⟨c0, t1, rfl, e0, c1, c2, rfl, e1, e2⟩, hcell⟩ := hc k _ (List.getElem?_eq_getElem hk)
  have g := hg _ (List.getElem_mem hk)
  have e0' : c0 = [Value.int .i64 (l[k]).1] := e0
  have e1' : c1 = [Value.int .i64 (l[k]).2.1] := e1
  have e2' : c2 = [Value.int .u8 (l[k]).2.2] := e2
  subst e0' e1' e2'
  have q0 := hcell 0 _ rfl
  have q1 := hcell 1 _ rfl
  have q2 := hcell 2 _ rfl
  have z : kAct.sz = 3 := rfl
  rw [z] at q0 q1 q2
  obtain ⟨b, o, sp'⟩ := a
  have hsp : sp' = none := by
    cases sp' with
    | none => rfl
    | some s =>
      exfalso
      obtain ⟨cs0, hl0, _, hcell0⟩ := hc 0 _ (List.getElem?_eq_getElem (show 0 < l.length by omega))
      have hz : 0 < cs0.length := by rw [hl0]; decide
      have z0 := hcell0 0 _ (List.getElem?_eq_getElem hz)
      have ez : (⟨b, o, some s⟩ : Addr).add (0 * kAct.sz + 0) = ⟨b, o, some s⟩ := by simp [Addr.add]
      rw [ez] at z0
      unfold World.cell? at z0
      split at z0 <;> simp at z0
  subst hsp
  rw [Addr.add_mid] at q0 q1 q2
  have hv := bounds_u8 g.2.2
  have ht := bounds_i64 g.2.1
  exact ⟨b, o, _, _, _, rfl, World.lt_of_cell q0, q0, q1, q2, hv.1, hv.2, ht.2⟩
theorem bytes_of {H : Type} {enc : TypeId × Value → H} {w : World} {sp : Nat → Bool} {held : Bool} {A : Option Addr} {len cap : Nat} {d : DataW H} {ps : List MemPlace}
    (h : DataW.Trod enc Try.prog w 0 sp held 22 (.slice A len cap) d ps) : ∀ k, k < len → ∃ (b o : Nat) (v : Int), A = some ⟨b, o, none⟩ ∧ b < w.heap.size ∧ w.cell? ⟨b, o + k, none⟩ = some (.int .u8 v) ∧ 0 ≤ v ∧ v ≤ 255 := by
  obtain ⟨l, ⟨A', c', e, _, hl, _, hr⟩, _, hg⟩ := (opens_slice Try.underlying22 (by kernel_rfl) (opens_int Try.underlying5)).arg h
  simp [Value.cells] at e
  obtain ⟨rfl, rfl, rfl⟩ := e
  intro k hk
  obtain ⟨a, rfl, hc⟩ := hr (by omega)
  obtain ⟨cs, hcl, e0, hcell⟩ := hc k _ (List.getElem?_eq_getElem hk)
  have g := hg _ (List.getElem_mem hk)
  have e0' : cs = [Value.int .u8 (l[k])] := e0
  subst e0'
  have q0 := hcell 0 _ rfl
  have z : (Kd.int .u8).sz = 1 := rfl
  rw [z, Nat.mul_one, Nat.add_zero] at q0
  obtain ⟨b, o, sp'⟩ := a
  have hsp : sp' = none := by
    cases sp' with
    | none => rfl
    | some s =>
      exfalso
      obtain ⟨cs0, hl0, _, hcell0⟩ := hc 0 _ (List.getElem?_eq_getElem (show 0 < l.length by omega))
      have hz : 0 < cs0.length := by rw [hl0]; decide
      have z0 := hcell0 0 _ (List.getElem?_eq_getElem hz)
      have ez : (⟨b, o, some s⟩ : Addr).add (0 * (Kd.int .u8).sz + 0) = ⟨b, o, some s⟩ := by simp [Addr.add]
      rw [ez] at z0
      unfold World.cell? at z0
      split at z0 <;> simp at z0
  subst hsp
  rw [Addr.add_mid] at q0
  have hv := bounds_u8 g
  exact ⟨b, o, _, rfl, World.lt_of_cell q0, q0, hv.1, hv.2⟩
theorem put_zero {s : St} {at_ b : Int} (h : (s.put at_ b).2 = 0) : 0 ≤ at_ ∧ at_ < s.l.length ∧ (s.put at_ b).1.l = s.l.set at_.toNat b ∧ (s.put at_ b).1.dark = false := by
  unfold St.put at *
  split at h
  · simp at h
  · split at h
    · simp at h
    · split at h
      · simp at h
      · rename_i h1 h2 h3
        rw [if_neg h1, if_neg h2, if_neg h3]
        exact ⟨by omega, by omega, rfl, by simpa using h1⟩
theorem put_other {s : St} {at_ b : Int} (h : (s.put at_ b).2 ≠ 0) : (s.put at_ b).1.l = s.l := by
  unfold St.put at *
  split
  · rfl
  · split
    · rfl
    · split
      · rfl
      · simp_all
set_option maxHeartbeats 4000000 in
set_option maxRecDepth 100000 in
theorem one_bad (w : World) (A : Option Addr) (x : Int) (len cap : Nat) (at_ b : Int) (hb : x < 4096 ∨ 65536 < x ∨ x % 2 ≠ 0) :
    Calls Try.prog 4 #[.int .i64 x, .slice A len cap, .int .i64 at_, .int .u8 b] w fun e w' => e = .returned (.bool true) ∧ Below w.heap.size w w' := by
  have H1 := Lib.hid (played_bad w A x len cap hb)
  clear hb
  go_enter Try.func4, Try.ntmps4
  go_wp2_with (first | (go_at_call 12; refine H1.out.mono ?_; rintro e w' ⟨rfl, rfl⟩) | (go_at_call 11; refine (works_ok _).mono ?_; rintro e w' ⟨rfl, hc⟩))
  go_ret
  exact ⟨rfl, hc.below (fun _ h => h.elim) (Nat.le_refl _)⟩
set_option maxHeartbeats 4000000 in
set_option maxRecDepth 100000 in
theorem one_ok (w : World) (A : Option Addr) (n len cap : Nat) (at_ b : Int) (h0 : 4096 ≤ n) (h1 : n ≤ 65536) (h2 : n % 2 = 0) (hact : Acts w A len) (b0 : 0 ≤ b) (b1 : b ≤ 255) :
    Calls Try.prog 4 #[.int .i64 n, .slice A len cap, .int .i64 at_, .int .u8 b] w fun e w' => e = .returned (.bool true) ∧ Below w.heap.size w w' := by
  have H1 := Lib.hid (played_ok w A n len cap h0 h1 h2 hact)
  clear hact h2
  go_enter Try.func4, Try.ntmps4
  go_wp2_with fail
  refine H1.out.mono ?_
  rintro e w1 ⟨F, G, N, M, s, rfl, ht⟩
  clear H1
  have hp := ht.p
  have lo := ht.lo
  have c1 := ht.ch
  clear ht
  go_wp2_with fail
  refine (bytes_any hp).mono ?_
  rintro e w2 ⟨rfl, rfl⟩
  have b2 : Blk (w1.alloc (.cells (cr s.l) 5)) w1.heap.size (cr s.l) 5 := Blk.new _ _ _
  have hF : ∀ k, F k → k < w1.heap.size := hp.fb
  have hp2 := hp.alloc (.cells (cr s.l) 5)
  have c2 := c1.alloc (.cells (cr s.l) 5)
  have hlen0 := hp.ok.len0
  have hlen1 := hp.ok.len1
  clear c1 hp
  generalize w1.alloc (.cells (cr s.l) 5) = w2 at *
  generalize w1.heap.size = D at *
  clear w1
  have K1 := Lib.hid (put_any hp2 at_ b b0 b1)
  have hz := @put_zero s at_ b
  have ho := @put_other s at_ b
  generalize hs' : (s.put at_ b).1 = s' at *
  generalize hr : (s.put at_ b).2 = r at *
  clear hs' hr
  have HZ := Lib.hid hz
  have HO := Lib.hid ho
  clear hz ho
  go_wp2_with fail
  refine K1.out.mono ?_
  rintro e w3 ⟨rfl, hp3, c3⟩
  have b3 := b2.ch c3 (fun h => absurd (hF D h) (Nat.lt_irrefl _))
  have cc := c2.trans c3 (U := fun _ => False) (fun _ h => h) (fun k hk => Or.inr (lo k hk))
  have hls : s'.l.length = s.l.length := by
    by_cases h : r = 0
    · rw [(HZ.out h).2.2.1, List.length_set]
    · rw [HO.out h]
  clear b2 hp2 c2 c3 K1 hF lo
  go_wp2_with fail
  refine (bytes_any hp3).mono ?_
  rintro e w4 ⟨rfl, rfl⟩
  have b4 : Blk (w3.alloc (.cells (cr s'.l) 5)) w3.heap.size (cr s'.l) 5 := Blk.new _ _ _
  have b5 := b3.alloc (.cells (cr s'.l) 5)
  have hp5 := hp3.alloc (.cells (cr s'.l) 5)
  have c5 := cc.alloc (.cells (cr s'.l) 5)
  clear b3 hp3 cc
  generalize w3.alloc (.cells (cr s'.l) 5) = w5 at *
  generalize w3.heap.size = C at *
  clear w3
  have KS := Lib.hid (size_any hp5)
  have KG := Lib.hid (fun q : Nat => get_any (hp5.drewN q) at_)
  have hgz : r = 0 → s'.get at_ = (b, 0) := fun h => by
    obtain ⟨g0, g1, g2, g3⟩ := HZ.out h
    rw [St.get_eval g3 g0 (by rw [hls]; exact g1), g2, set_getD, if_pos ⟨rfl, by omega⟩]
  have HG := Lib.hid hgz
  clear hp5 hgz
  have x1 : ∀ k, k < s.l.length → w5.cell? ⟨C, k, none⟩ = some (.int .u8 (s'.l.getD k 0)) := fun k hk => by rw [b4.cell]; exact cr_get _ _ (by omega)
  have x2 : ∀ k, k < s.l.length → w5.cell? ⟨D, k, none⟩ = some (.int .u8 (s.l.getD k 0)) := fun k hk => by rw [b5.cell]; exact cr_get _ _ hk
  have X1 := Lib.hid x1
  have X2 := Lib.hid x2
  clear x1 x2 b4 b5
  rw [hls] at KS
  rw [hls]
  clear hls
  generalize hn2 : s.l.length = L at *
  have HN2 := Lib.hid hn2
  clear hn2
  go_wp2_with (go_at_call 14; refine KS.out.mono ?_; rintro e w' ⟨rfl, rfl⟩)
  go_loopw [15] (fun i wr => ∃ k : Nat, k ≤ L ∧ i = .int .i64 k ∧ ∃ q, wr = w5.drewN q) (fun i _ => L - (intOf i).toNat)
  case atStart => exact ⟨0, by omega, rfl, 0, rfl⟩
  case round =>
    obtain ⟨k, hk, rfl, q, rfl⟩ := hrel
    by_cases hlt : k < L
    · have y1 := X1.out k hlt
      have y2 := X2.out k hlt
      have hlt' : (k : Int) < (L : Int) := by omega
      by_cases hr : r = 0
      · obtain ⟨g0, g1, g2, g3⟩ := HZ.out hr
        by_cases hka : (k : Int) = at_
        · have t1 : ((k : Int) == at_) = true := beq_iff_eq.2 hka
          have e1 : s'.l.getD k 0 = b := by
            rw [g2, set_getD, if_pos ⟨by omega, by have := HN2.out; omega⟩]
          rw [e1] at y1
          subst hr
          clear e1 g0 g1 g2 g3 hka
          generalize s.l.getD k 0 = x at *
          go_wp2
          go_roundw
          case rel => exact ⟨k + 1, by omega, by go_num, _, rfl⟩
          case measure => simp [intOf]; omega
        · have t1 : ((k : Int) == at_) = false := beq_eq_false_iff_ne.2 hka
          have e1 : s'.l.getD k 0 = s.l.getD k 0 := by
            rw [g2, set_getD, if_neg (by omega)]
          rw [e1] at y1
          subst hr
          clear e1 g0 g1 g2 g3 hka
          generalize s.l.getD k 0 = x at *
          go_wp2_with fail
          go_quiet (fail)
          go_wp2
          go_roundw
          case rel => exact ⟨k + 1, by omega, by go_num, _, rfl⟩
          case measure => simp [intOf]; omega
      · have t2 : (r == 0) = false := beq_eq_false_iff_ne.2 hr
        rw [HO.out hr] at y1
        clear hr
        generalize s.l.getD k 0 = x at *
        by_cases hka : (k : Int) = at_
        · have t1 : ((k : Int) == at_) = true := beq_iff_eq.2 hka
          clear hka
          go_wp2_with fail
          go_quiet (fail)
          go_wp2
          go_roundw
          case rel => exact ⟨k + 1, by omega, by go_num, _, rfl⟩
          case measure => simp [intOf]; omega
        · have t1 : ((k : Int) == at_) = false := beq_eq_false_iff_ne.2 hka
          clear hka
          go_wp2_with fail
          go_quiet (fail)
          go_wp2
          go_roundw
          case rel => exact ⟨k + 1, by omega, by go_num, _, rfl⟩
          case measure => simp [intOf]; omega
    · have hge : ¬ (k : Int) < (L : Int) := by omega
      have kg := KG.out q
      by_cases hr : r = 0
      · rw [HG.out hr] at kg
        have KK := Lib.hid kg
        clear kg
        subst hr
        go_wp2_with (first | (go_at_call 15; refine KK.out.mono ?_; rintro e w' ⟨rfl, rfl⟩) | (go_at_call 11; refine (works_ok _).mono ?_; rintro e w7 ⟨rfl, hc⟩))
        go_ret
        exact ⟨rfl, ((c5.drewN _).trans hc (U := fun _ => False) (fun _ h => h) (fun _ h => h.elim)).below (fun _ h => h.elim) (Nat.le_refl _)⟩
      · have t2 : (r != 0) = true := bne_iff_ne.2 hr
        have KK := Lib.hid kg
        clear kg hr
        go_wp2_with (first | (go_at_call 15; refine KK.out.mono ?_; rintro e w' ⟨rfl, rfl⟩) | (go_at_call 11; refine (works_ok _).mono ?_; rintro e w7 ⟨rfl, hc⟩))
        go_ret
        exact ⟨rfl, ((c5.drewN _).trans hc (U := fun _ => False) (fun _ h => h) (fun _ h => h.elim)).below (fun _ h => h.elim) (Nat.le_refl _)⟩
theorem one_walk (w : World) (A : Option Addr) (x : Int) (len cap : Nat) (at_ b : Int) (hact : Acts w A len) (hb : (Lit.int .u8 b).wf = true) :
    Calls Try.prog 4 #[.int .i64 x, .slice A len cap, .int .i64 at_, .int .u8 b] w fun e w' => e = .returned (.bool true) ∧ Below w.heap.size w w' := by
  have hv := bounds_u8 hb
  by_cases h : x < 4096 ∨ 65536 < x ∨ x % 2 ≠ 0
  · exact one_bad w A x len cap at_ b h
  · obtain ⟨n, rfl⟩ : ∃ n : Nat, x = n := ⟨x.toNat, by omega⟩
    exact one_ok w A n len cap at_ b (by omega) (by omega) (by omega) hact hv.1 hv.2
end Go.Proofs.Ytacfnlokflgpeaa.Nvm
