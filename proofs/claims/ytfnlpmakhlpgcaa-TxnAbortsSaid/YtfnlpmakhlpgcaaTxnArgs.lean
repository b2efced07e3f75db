/- From the arguments of the statements to what the walks know of their cells. -/
import Derived.Test.YtfnlpmakhlpgcaaTxnOneW
import Derived.Test.YtfnlpmakhlpgcaaOpen
import Derived.OpenShut
namespace Go.Proofs.Ytfnlpmakhlpgcaa.Nvm
open Go.RowKit Go.Proofs.Ytfnlpmakhlpgcaa.Base Go.Proofs.YtfnlpmakhlpgcaaW.PrintWords Go.Proofs.Ytfnlpmakhlpgcaa.Opn
/-- An act. -/
def kAct : Kd (Int × Int × Int) := Kd.pair (Kd.int .i64) (Kd.pair (Kd.int .i64) (Kd.int .u16))
theorem opens_act : Opens Try.prog kAct 74 (fun y => (Lit.int .i64 y.1).wf = true ∧ (Lit.int .i64 y.2.1).wf = true ∧ (Lit.int .u16 y.2.2).wf = true) :=
  opens_struct Try.underlying74 (by kernel_rfl) (opensF_cons rfl (by kernel_rfl) (opens_int Try.underlying3) (opensF_cons rfl (by kernel_rfl) (opens_int Try.underlying3) (opensF_last rfl (by kernel_rfl) (opens_int Try.underlying22))))
theorem acts_of {H : Type} {enc : TypeId × Value → H} {w : World} {sp : Nat → Bool} {held : Bool} {A : Option Addr} {len cap : Nat} {d : DataW H} {ps : List MemPlace}
    (h : DataW.Trod enc Try.prog w 0 sp held 45 (.slice A len cap) d ps) : Acts w A len := by
  obtain ⟨l, ⟨A', c', e, _, hl, _, hr⟩, _, hg⟩ := (opens_slice Try.underlying45 (by kernel_rfl) opens_act).arg h
  simp [Value.cells] at e
  obtain ⟨rfl, rfl, rfl⟩ := e
  intro k hk
  obtain ⟨a, rfl, hc⟩ := hr (by omega)
  obtain ⟨cs, hcl, ⟨c0, t1, rfl, e0, c1, c2, rfl, e1, e2⟩, hcell⟩ := hc k _ (List.getElem?_eq_getElem hk)
  have g := hg _ (List.getElem_mem hk)
  have e0' : c0 = [Value.int .i64 (l[k]).1] := e0
  have e1' : c1 = [Value.int .i64 (l[k]).2.1] := e1
  have e2' : c2 = [Value.int .u16 (l[k]).2.2] := e2
  subst e0' e1' e2'
  have q0 := hcell 0 _ rfl
  have q1 := hcell 1 _ rfl
  have q2 := hcell 2 _ rfl
  have z : kAct.sz = 3 := rfl
  rw [z] at q0 q1 q2
  obtain ⟨b, o, sp'⟩ := a
  have hsp : sp' = none := by
    cases sp' with
    | none => rfl
    | some s =>
      exfalso
      obtain ⟨cs0, hl0, _, hcell0⟩ := hc 0 _ (List.getElem?_eq_getElem (show 0 < l.length by omega))
      have hz : 0 < cs0.length := by rw [hl0]; decide
      have z0 := hcell0 0 _ (List.getElem?_eq_getElem hz)
      have ez : (⟨b, o, some s⟩ : Addr).add (0 * kAct.sz + 0) = ⟨b, o, some s⟩ := by simp [Addr.add]
      rw [ez] at z0
      unfold World.cell? at z0
      split at z0 <;> simp at z0
  subst hsp
  rw [Addr.add_mid] at q0 q1 q2
  have hv := bounds_u16 g.2.2
  have ht := bounds_i64 g.2.1
  exact ⟨b, o, _, _, _, rfl, World.lt_of_cell q0, q0, q1, q2, hv.1, hv.2, ht.2⟩
theorem bytes_of {H : Type} {enc : TypeId × Value → H} {w : World} {sp : Nat → Bool} {held : Bool} {A : Option Addr} {len cap : Nat} {d : DataW H} {ps : List MemPlace}
    (h : DataW.Trod enc Try.prog w 0 sp held 25 (.slice A len cap) d ps) : BytesAt w A len := by
  obtain ⟨l, ⟨A', c', e, _, hl, _, hr⟩, _, hg⟩ := (opens_slice Try.underlying25 (by kernel_rfl) (opens_int Try.underlying5)).arg h
  simp [Value.cells] at e
  obtain ⟨rfl, rfl, rfl⟩ := e
  intro k hk
  obtain ⟨a, rfl, hc⟩ := hr (by omega)
  obtain ⟨cs, hcl, e0, hcell⟩ := hc k _ (List.getElem?_eq_getElem hk)
  have g := hg _ (List.getElem_mem hk)
  have e0' : cs = [Value.int .u8 (l[k])] := e0
  subst e0'
  have q0 := hcell 0 _ rfl
  have z : (Kd.int .u8).sz = 1 := rfl
  rw [z, Nat.mul_one, Nat.add_zero] at q0
  obtain ⟨b, o, sp'⟩ := a
  have hsp : sp' = none := by
    cases sp' with
    | none => rfl
    | some s =>
      exfalso
      obtain ⟨cs0, hl0, _, hcell0⟩ := hc 0 _ (List.getElem?_eq_getElem (show 0 < l.length by omega))
      have hz : 0 < cs0.length := by rw [hl0]; decide
      have z0 := hcell0 0 _ (List.getElem?_eq_getElem hz)
      have ez : (⟨b, o, some s⟩ : Addr).add (0 * (Kd.int .u8).sz + 0) = ⟨b, o, some s⟩ := by simp [Addr.add]
      rw [ez] at z0
      unfold World.cell? at z0
      split at z0 <;> simp at z0
  subst hsp
  rw [Addr.add_mid] at q0
  have hv := bounds_u8 g
  exact ⟨b, o, _, rfl, World.lt_of_cell q0, q0, hv.1, hv.2⟩
/-- Words that are handed in. -/
def WordsAt (w : World) (A : Option Addr) (len : Nat) : Prop := ∀ k, k < len → ∃ (b o : Nat) (v : Int), A = some ⟨b, o, none⟩ ∧ b < w.heap.size ∧ w.cell? ⟨b, o + k, none⟩ = some (.int .u16 v) ∧ 0 ≤ v ∧ v ≤ 65535
theorem words_of {H : Type} {enc : TypeId × Value → H} {w : World} {sp : Nat → Bool} {held : Bool} {A : Option Addr} {len cap : Nat} {d : DataW H} {ps : List MemPlace}
    (h : DataW.Trod enc Try.prog w 0 sp held 46 (.slice A len cap) d ps) : WordsAt w A len := by
  obtain ⟨l, ⟨A', c', e, _, hl, _, hr⟩, _, hg⟩ := (opens_slice Try.underlying46 (by kernel_rfl) (opens_int Try.underlying22)).arg h
  simp [Value.cells] at e
  obtain ⟨rfl, rfl, rfl⟩ := e
  intro k hk
  obtain ⟨a, rfl, hc⟩ := hr (by omega)
  obtain ⟨cs, hcl, e0, hcell⟩ := hc k _ (List.getElem?_eq_getElem hk)
  have g := hg _ (List.getElem_mem hk)
  have e0' : cs = [Value.int .u16 (l[k])] := e0
  subst e0'
  have q0 := hcell 0 _ rfl
  have z : (Kd.int .u16).sz = 1 := rfl
  rw [z, Nat.mul_one, Nat.add_zero] at q0
  obtain ⟨b, o, sp'⟩ := a
  have hsp : sp' = none := by
    cases sp' with
    | none => rfl
    | some s =>
      exfalso
      obtain ⟨cs0, hl0, _, hcell0⟩ := hc 0 _ (List.getElem?_eq_getElem (show 0 < l.length by omega))
      have hz : 0 < cs0.length := by rw [hl0]; decide
      have z0 := hcell0 0 _ (List.getElem?_eq_getElem hz)
      have ez : (⟨b, o, some s⟩ : Addr).add (0 * (Kd.int .u16).sz + 0) = ⟨b, o, some s⟩ := by simp [Addr.add]
      rw [ez] at z0
      unfold World.cell? at z0
      split at z0 <;> simp at z0
  subst hsp
  rw [Addr.add_mid] at q0
  have hv := bounds_u16 g
  exact ⟨b, o, _, rfl, World.lt_of_cell q0, q0, hv.1, hv.2⟩
end Go.Proofs.Ytfnlpmakhlpgcaa.Nvm
