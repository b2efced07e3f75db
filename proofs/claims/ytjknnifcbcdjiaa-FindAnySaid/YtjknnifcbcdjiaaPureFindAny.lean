/- The plain law: each call answers something, of any world. -/
import Derived.Test.YtjknnifcbcdjiaaPFindAnyx
import Derived.OpenShut
set_option linter.unusedVariables false
set_option linter.unusedSimpArgs false
namespace Go.Proofs.Ytjknnifcbcdjiaa.PFindAny
open Go.RowKit Go.Proofs.YtjknnifcbcdjiaaW.PrintWords Go.Proofs.YtjknnifcbcdjiaaW.PrintLast Go.Proofs.YtjknnifcbcdjiaaW.PrintMore
theorem okK_of {w : World} {A : Option Addr} {l : List S117} (h : Kd.C k117 w A l.length l) : okK l = true := by
  simp only [okK, Bool.and_eq_true, decide_eq_true_eq, List.all_eq_true]
  refine ⟨h.2.1, fun x hx => ?_⟩
  obtain ⟨i, hi, rfl⟩ := List.getElem_of_mem hx
  obtain ⟨ad, A0, c0, A4, c4, A5, c5, hA, e0, e1, e2, e3, e4, e5, l0, g0, l4, g4, l5, g5⟩ := at_T117 h (i : Int) (by omega) (by omega)
  have hb := g5.2.1
  rw [show rd_T117 l (i : Int) = l[i] by simp [rd_T117, List.getD_eq_getElem?_getD, List.getElem?_eq_getElem hi]] at hb
  exact hb
theorem okF_of {w : World} {A : Option Addr} {l : List S103} (h : Kd.C k103 w A l.length l) (hn : l.length ≤ 10000000000000) : okF l = true := by
  simp only [okF, Bool.and_eq_true, decide_eq_true_eq, List.all_eq_true]
  refine ⟨hn, fun x hx => ?_⟩
  obtain ⟨i, hi, rfl⟩ := List.getElem_of_mem hx
  obtain ⟨ad, A3, c3, A4, c4, A5, c5, A6, c6, hA, e0, e1, e2, e3, e4, e5, e6, g3, hC, _⟩ := at_T103 h (i : Int) (by omega) (by omega)
  have hb := hC.2.1
  rw [show rd_T103 l (i : Int) = l[i] by simp [rd_T103, List.getD_eq_getElem?_getD, List.getElem?_eq_getElem hi]] at hb
  exact hb
section
variable (l0 : List S103) (l1 : List S38) (l2 : List S206) (l3 : List S117)
theorem class_s (a : Int) : ∃ r, api_LClass.f l0 a = some r := by
  unfold api_LClass.f
  by_cases c1 : a < 0
  · rw [if_pos c1]; exact ⟨_, rfl⟩
  · by_cases c2 : a ≥ (l0.length : Int)
    · rw [if_neg c1, if_pos c2]; exact ⟨_, rfl⟩
    · rw [if_neg c1, if_neg c2, if_pos (by omega), if_pos (by omega)]; exact ⟨_, rfl⟩
theorem type_s (l : List S32) (a : Int) : ∃ r, api_Type.f l a = some r := by
  unfold api_Type.f
  by_cases c1 : a < 0
  · rw [if_pos c1]; exact ⟨_, rfl⟩
  · by_cases c2 : a ≥ (l.length : Int)
    · rw [if_neg c1, if_pos c2]; exact ⟨_, rfl⟩
    · rw [if_neg c1, if_neg c2, if_pos (by omega), if_pos (by omega)]; exact ⟨_, rfl⟩
theorem field_s (a b : Int) : ∃ r, find_Field.f l0 l1 l2 l3 a b = some r := by
  obtain ⟨r, hr⟩ := class_s l0 a
  obtain ⟨q, hq⟩ := type_s r.2.2.2.2.1 b
  unfold find_Field.f
  rw [hr]
  simp only [Option.bind_some, hq]
  exact ⟨_, rfl⟩
theorem handler_s (hk : okC l0 = true) (l : List S124) (hl : l.length ≤ 9223372036854775807) (a b : Int) : ∀ (q : Nat) (i : Int), 0 ≤ i → i + q = l.length → ∃ r, find_Handler.l0 (q + 1) a b l (l.length : Int) i l0 l1 l2 l3 = some r
  | 0, i, h0, h1 => by
    unfold find_Handler.l0
    rw [if_neg (by omega)]
    exact ⟨_, rfl⟩
  | q + 1, i, h0, h1 => by
    have ih := handler_s hk l hl a b q (i + 1) (by omega) (by omega)
    have hw : wrap64 (i + 1) = i + 1 := by unfold wrap64; omega
    unfold find_Handler.l0
    rw [if_pos (by omega), if_pos h0, if_pos (by omega)]
    simp only [hier_From.f, hk, if_true, Option.bind_some, hw]
    (repeat' split) <;> first | exact ⟨_, rfl⟩ | exact ih
end
theorem works_s : garderobelaw15_works.f = some true := by kernel_rfl
theorem pure_ (l0 : List S103) (l1 : List S38) (l2 : List S206) (l3 : List S117) (a1 a2 a3 a4 b0 b1 b2 : Int) (m3 : List S32) (b4 b5 b6 b7 : Int) (m8 : List S96) (m9 : List S124) (b10 : Int) (l6 : List Int)
    {w : World} {A0 A3 A9 : Option Addr} (h0 : Kd.C k103 w A0 l0.length l0) (h3 : Kd.C k117 w A3 l3.length l3) (h9 : Kd.C k124 w A9 m9.length m9) (hn : l0.length ≤ 10000000000000) :
    garderobelaw15_FindAny.f (m9.length + 1) l0 l1 l2 l3 a1 a2 a3 a4 b0 b1 b2 m3 b4 b5 b6 b7 m8 m9 b10 l6 = some true := by
  have hF := okF_of h0 hn
  have hK := okK_of h3
  obtain ⟨r1, e1⟩ := virt_some l0 l1 l2 l3 a1 a3
  obtain ⟨r2, e2⟩ := field_s l0 l1 l2 l3 a1 a3
  obtain ⟨r3, e3⟩ := handler_s l0 l1 l2 l3 (okF_c hF) m9 h9.2.1 a4 a1 m9.length 0 (by omega) (by omega)
  unfold garderobelaw15_FindAny.f find_Iface.f find_Known.f find_Handler.f
  rw [works_s, e1, e2, e3, hF, hK]
  rfl
end Go.Proofs.Ytjknnifcbcdjiaa.PFindAny
