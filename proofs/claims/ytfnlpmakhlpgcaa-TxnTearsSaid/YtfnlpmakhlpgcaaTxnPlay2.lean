/- The walks of played and ready. -/
import Derived.Test.YtfnlpmakhlpgcaaTxnPlayed
namespace Go.Proofs.Ytfnlpmakhlpgcaa.Nvm
open Go.RowKit Go.Proofs.Ytfnlpmakhlpgcaa.Base
/-- An act's cells. -/
def ActAt (w : World) (b o : Nat) (d at_ v : Int) : Prop :=
  w.cell? ⟨b, o, none⟩ = some (.int .i64 d) ∧ w.cell? ⟨b, o + 1, none⟩ = some (.int .i64 at_) ∧ w.cell? ⟨b, o + 2, none⟩ = some (.int .u16 v) ∧ 0 ≤ v ∧ v ≤ 65535 ∧ at_ ≤ 9223372036854775807
def Acts (w : World) (A : Option Addr) (len : Nat) : Prop := ∀ k, k < len → ∃ (b o : Nat) (d at_ v : Int), A = some ⟨b, o, none⟩ ∧ b < w.heap.size ∧ ActAt w b (o + k * 3) d at_ v
set_option maxHeartbeats 8000000 in
set_option maxRecDepth 100000 in
theorem played_any (w : World) (A : Option Addr) (len cap : Nat) (hact : Acts w A len) :
    Calls Try.prog 21 #[.slice A len cap] w fun e w' => ∃ F G P T Q N M s, e = .returned (.tuple #[.pointer (some ⟨P, 0, none⟩), .bool true]) ∧ Tw w F G P T Q N M s w' := by
  have HA := Lib.hid hact
  clear hact
  have H1 := Lib.hid (begun_any w)
  go_enter Try.func21, Try.ntmps21
  go_wp2_with fail
  refine H1.out.mono ?_
  rintro e w1 ⟨F, G, P, T, Q, N, M, rfl, t1⟩
  generalize fresh 4096 = s0 at *
  go_wp2_with fail
  go_loopg [6] len (fun k i wr => ∃ j : Nat, j + k ≤ len ∧ len ≤ j + k ∧ i = .int .i64 j ∧ ∃ F' s, Tw w F' G P T Q N M s wr)
  case atStart => exact ⟨0, by omega, by omega, rfl, F, s0, t1⟩
  case round =>
    clear t1
    obtain ⟨j, hj1, hj2, rfl, F', s, ht⟩ := hrel
    by_cases hlt : 0 < gk
    · obtain ⟨b, o, d, at_, v, rfl, hb, ⟨a0, a1, a2, v0, v1, t1⟩⟩ := HA.out j (by omega)
      have e0 := (ht.ch.cell (p := ⟨b, o + j * 3, none⟩) hb (fun h => h)).trans a0
      have e1 := (ht.ch.cell (p := ⟨b, o + j * 3 + 1, none⟩) hb (fun h => h)).trans a1
      have e2 := (ht.ch.cell (p := ⟨b, o + j * 3 + 2, none⟩) hb (fun h => h)).trans a2
      clear a0 a1 a2
      have hi : (j : Int) < (len : Int) := by omega
      by_cases h150 : (j : Int) < 150
      · have HX := Lib.hid (act_any ht d at_ v t1 v0 v1)
        clear ht
        generalize astep s d at_ v = s2 at *
        go_wp2_with (fail)
        refine HX.out.mono ?_
        rintro e w2 ⟨F2, rfl, t2⟩
        go_wp2_with (fail)
        go_roundg (gk - 1)
        case measure => omega
        case rel => exact ⟨j + 1, by omega, by omega, by go_num, F2, s2, t2⟩
      · clear e0 e1 e2
        go_wp2_with (fail)
        refine (same_any ht).mono ?_
        rintro e w2 ⟨rfl, c2⟩
        go_wp2_with (fail)
        go_ret2
        exact ⟨F', G, P, T, Q, N, M, s, rfl, ht.gr c2⟩
    · have hi : ¬ (j : Int) < (len : Int) := by omega
      go_wp2_with (fail)
      refine (same_any ht).mono ?_
      rintro e w2 ⟨rfl, c2⟩
      go_wp2_with (fail)
      go_ret2
      exact ⟨F', G, P, T, Q, N, M, s, rfl, ht.gr c2⟩
/-- Recover with the power there leaves nothing open. -/
structure Rdy (s : St) : Prop where
  ok : Ok s
  len : s.l.length = 4096
  dark : s.dark = false
  left : s.left = none
  cnt : s.l.getD 0 0 = 0
  opn : s.l.getD 1 0 = 0
set_option maxHeartbeats 8000000 in
set_option maxRecDepth 100000 in
theorem ready_core {w w0 : World} {F G : Nat → Prop} {P T Q N M : Nat} {s : St} (h : Tw w F G P T Q N M s w0) (s1 : St) (h0 : s1.opn = false) (h1 : cnt s1.l = 0) (hr : trecover s.on = (s1, 0)) :
    Calls Try.prog 22 #[.pointer (some ⟨P, 0, none⟩)] w0 fun e w' => e = .returned (.bool true) ∧ Tw w F G P T Q N M s1 w' := by
  have K0 := Lib.hid h0
  have K1 := Lib.hid h1
  have KR := Lib.hid hr
  clear h0 h1 hr
  obtain ⟨y0, y1, y2⟩ := h.heads
  go_enter Try.func22, Try.ntmps22
  go_wp2_with (fail)
  refine (nvm_core _ T N h.t.c0).mono ?_
  rintro e wn ⟨rfl, rfl⟩
  go_wp2_with (fail)
  refine (on_tx h.t).mono ?_
  rintro e wa ⟨rfl, ta, ca⟩
  have ra := h.mid ca
  have a1 : wa.cell? ⟨P, 1, none⟩ = some (.pointer (some ⟨Q, 0, none⟩)) := (h.p.ch ca h.pf).cell 1
  have a2 := ra.t.cell 0
  clear y0 y1 y2
  go_wp2_with (fail)
  refine (ron_rx ra).mono ?_
  rintro e wb ⟨rfl, tb, cb⟩
  have h2 := h.step ta ca tb cb (fun _ h => Or.inl h)
  clear a1 a2 ra
  obtain ⟨y0, y1, y2⟩ := h2.heads
  have KT := trecover_tx h2.t
  have KU := fun (wx : World) (c : Ch F wb wx) => rrecover_tx (h2.mid c)
  rw [KR.out] at KT KU
  have KT' := Lib.hid KT
  have KU' := Lib.hid KU
  clear KT KU KR
  go_wp2_with (fail)
  refine KT'.out.mono ?_
  rintro e wc ⟨rfl, tc, cc⟩
  have z1 : wc.cell? ⟨P, 1, none⟩ = some (.pointer (some ⟨Q, 0, none⟩)) := (h2.p.ch cc h2.pf).cell 1
  go_wp2_with (fail)
  refine (KU'.out _ cc).mono ?_
  rintro e wd ⟨rfl, td, cd⟩
  have h3 := h2.step tc cc td cd (fun _ h => Or.inl h)
  clear z1 y0 y1 y2 KT' KU'
  go_wp2_with (fail)
  refine (same_any h3).mono ?_
  rintro e we ⟨rfl, ce⟩
  have h4 := h3.gr ce
  obtain ⟨y0, y1, y2⟩ := h4.heads
  have r4 := room_tx h4.t
  rw [K1.out] at r4
  go_wp2_with (fail)
  refine r4.mono ?_
  rintro e wf ⟨rfl, cf⟩
  have h5 := h4.gr cf
  obtain ⟨z0, z1, z2⟩ := h5.heads
  have o5 := open_tx h5.t
  rw [K0.out] at o5
  go_wp2_with (fail)
  refine o5.mono ?_
  rintro e wg ⟨rfl, cg⟩
  go_wp2_with (fail)
  go_ret
  exact ⟨rfl, h5.gr cg⟩
end Go.Proofs.Ytfnlpmakhlpgcaa.Nvm
