/- lib.Native: the name of a native. -/
import Derived.Test.YtjknnifcbcdjiaaDoorLibS
set_option linter.unusedVariables false
set_option linter.unusedSimpArgs false
namespace Go.Proofs.YtjknnifcbcdjiaaDoor.Tab
open Go.RowKit Go.Proofs.YtjknnifcbcdjiaaDoor.Base Go.Proofs.YtjknnifcbcdjiaaDoorW.PrintWords Go.Proofs.YtjknnifcbcdjiaaDoorW.PrintLast
def natText : List UInt8 := [99, 111, 110, 115, 116, 114, 117, 99, 116, 111, 114, 32, 103, 101, 116, 82, 101, 97, 115, 111, 110, 32, 115, 101, 116, 82, 101, 97, 115, 111, 110, 32, 99, 111, 110, 115, 116, 114, 117, 99, 116, 111, 114, 32, 116, 104, 114, 111, 119, 73, 116, 32, 115, 101, 108, 101, 99, 116, 32, 100, 101, 115, 101, 108, 101, 99, 116, 32, 115, 104, 97, 114, 101, 32, 114, 101, 103, 105, 115, 116, 101, 114, 32, 98, 117, 102, 102, 101, 114, 32, 114, 101, 99, 101, 105, 118, 101, 32, 115, 101, 110, 100, 32, 98, 101, 103, 105, 110, 32, 99, 111, 109, 109, 105, 116, 32, 97, 98, 111, 114, 116, 32, 100, 101, 112, 116, 104, 32, 109, 97, 107, 101, 66, 121, 116, 101, 115, 32, 109, 97, 107, 101, 83, 104, 111, 114, 116, 115, 32, 115, 104, 97, 114, 101, 32, 112, 114, 101, 118, 105, 111, 117, 115, 32, 99, 111, 112, 121, 32, 99, 111, 112, 121, 78, 111, 110, 65, 116, 111, 109, 105, 99, 32, 102, 105, 108, 108, 32, 99, 111, 109, 112, 97, 114, 101, 32, 103, 101, 116, 83, 104, 111, 114, 116, 32, 115, 101, 116, 83, 104, 111, 114, 116]
def natB : ByteArray := ⟨natText.toArray⟩
def names : List (List UInt8) := [[99, 111, 110, 115, 116, 114, 117, 99, 116, 111, 114], [103, 101, 116, 82, 101, 97, 115, 111, 110], [115, 101, 116, 82, 101, 97, 115, 111, 110], [99, 111, 110, 115, 116, 114, 117, 99, 116, 111, 114], [116, 104, 114, 111, 119, 73, 116], [115, 101, 108, 101, 99, 116], [100, 101, 115, 101, 108, 101, 99, 116], [115, 104, 97, 114, 101], [114, 101, 103, 105, 115, 116, 101, 114], [98, 117, 102, 102, 101, 114], [114, 101, 99, 101, 105, 118, 101], [115, 101, 110, 100], [98, 101, 103, 105, 110], [99, 111, 109, 109, 105, 116], [97, 98, 111, 114, 116], [100, 101, 112, 116, 104], [109, 97, 107, 101, 66, 121, 116, 101, 115], [109, 97, 107, 101, 83, 104, 111, 114, 116, 115], [115, 104, 97, 114, 101], [112, 114, 101, 118, 105, 111, 117, 115], [99, 111, 112, 121], [99, 111, 112, 121, 78, 111, 110, 65, 116, 111, 109, 105, 99], [102, 105, 108, 108], [99, 111, 109, 112, 97, 114, 101], [103, 101, 116, 83, 104, 111, 114, 116], [115, 101, 116, 83, 104, 111, 114, 116]]
theorem fields_nat : Lib.fields natB.data.toList = names := by kernel_rfl
def nameOf (n : Int) : ByteArray := if 1 ≤ n ∧ n ≤ 26 then ⟨(names.getD (n - 1).toNat []).toArray⟩ else ⟨#[]⟩
def isOf (n : Int) : Bool := decide (1 ≤ n ∧ n ≤ 26)
set_option maxRecDepth 100000 in
theorem native_any (w : World) (n : Int) (hn : -9223372036854775808 ≤ n ∧ n ≤ 9223372036854775807) (hG : Gl w) : Calls Tryd.prog 6 #[.int .i64 n] w fun e w' => e = .returned (.tuple #[.string (nameOf n), .bool (isOf n)]) ∧ Ch (fun _ => False) w w' := by
  have hF : Calls Tryd.prog 18 #[.string natB] w fun e w' => ∃ B, e = .returned (.slice (some ⟨B, 0, none⟩) 26 26) ∧ (∀ i, i < 26 → w'.cell? ⟨B, i, none⟩ = some (.string ⟨(names.getD i []).toArray⟩)) ∧ Ch (fun _ => False) w w' := by
    refine (Tryd.strings_Fields natB w (by decide) (fun j b h => ?_) hG.2).mono ?_
    · have hm : b ∈ natText := List.mem_of_getElem? h
      exact of_decide_eq_true (List.all_eq_true.1 (show (natText.all fun b => decide (b.toNat < 128)) = true by kernel_rfl) b hm)
    · rintro e w' ⟨rfl, rfl⟩
      rw [fields_nat]
      refine ⟨w.heap.size, rfl, fun i hi => ?_, (Ch.refl _ w).alloc _⟩
      rw [(Blk.new w _ _).cell i]
      have hlt : i < names.length := hi
      simp [List.getD_eq_getElem?_getD, List.getElem?_eq_getElem hlt]
  have hK : nameOf n = if 1 ≤ n ∧ n ≤ 26 then ⟨(names.getD (n - 1).toNat []).toArray⟩ else ⟨#[]⟩ := rfl
  have hI : isOf n = decide (1 ≤ n ∧ n ≤ 26) := rfl
  generalize nameOf n = nm at *
  generalize isOf n = ib at *
  generalize names = nl at *
  by_cases h1 : n < 1
  · have hx : ¬ (1 ≤ n ∧ n ≤ 26) := by omega
    rw [if_neg hx] at hK
    rw [decide_eq_false hx] at hI
    subst hK hI
    go_enter Tryd.func6, Tryd.ntmps6
    go_wp2_with (go_at_call 18; fail)
    refine hF.mono ?_
    rintro e w1 ⟨B, rfl, hcell, c1⟩
    clear hF hcell hx
    go_wp2_with (fail)
    refine bodyPost_ret (v := .tuple #[.string ⟨#[]⟩, .bool false]) (by simp [results, Tryd.results6, go_sem]) rfl ?_
    exact ⟨rfl, c1⟩
  · by_cases h2 : n ≤ 26
    · obtain ⟨k, hk, rfl⟩ : ∃ k : Nat, k < 26 ∧ n = (k : Int) + 1 := ⟨(n - 1).toNat, by omega, by omega⟩
      have hx : 1 ≤ (k : Int) + 1 ∧ (k : Int) + 1 ≤ 26 := by omega
      have hy : ((k : Int) + 1 - 1).toNat = k := by omega
      rw [if_pos hx, hy] at hK
      rw [decide_eq_true hx] at hI
      subst hK hI
      have q1 : ((k : Int) + 1 - 1) = k := by omega
      have q2 : ¬ (26 < (k : Int) + 1) := by omega
      have q3 : (k : Int) < 26 := by omega
      go_enter Tryd.func6, Tryd.ntmps6
      go_wp2_with (go_at_call 18; fail)
      refine hF.mono ?_
      rintro e w1 ⟨B, rfl, hcell, c1⟩
      have z := hcell k hk
      clear hF hcell hx hy
      go_wp2_with (fail)
      refine bodyPost_ret (v := .tuple #[.string ⟨(nl.getD k []).toArray⟩, .bool true]) (by simp [results, Tryd.results6, go_sem]) rfl ?_
      exact ⟨rfl, c1⟩
    · have hx : ¬ (1 ≤ n ∧ n ≤ 26) := by omega
      rw [if_neg hx] at hK
      rw [decide_eq_false hx] at hI
      subst hK hI
      have q2 : 26 < n := by omega
      go_enter Tryd.func6, Tryd.ntmps6
      go_wp2_with (go_at_call 18; fail)
      refine hF.mono ?_
      rintro e w1 ⟨B, rfl, hcell, c1⟩
      clear hF hcell hx
      go_wp2_with (fail)
      refine bodyPost_ret (v := .tuple #[.string ⟨#[]⟩, .bool false]) (by simp [results, Tryd.results6, go_sem]) rfl ?_
      exact ⟨rfl, c1⟩
end Go.Proofs.YtjknnifcbcdjiaaDoor.Tab
