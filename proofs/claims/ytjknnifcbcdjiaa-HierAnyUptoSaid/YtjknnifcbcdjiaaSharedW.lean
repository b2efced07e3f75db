/- hier.Shared: has a class a shareable interface? -/
import Derived.Test.YtjknnifcbcdjiaaIfacesX
import Derived.Test.YtjknnifcbcdjiaaFindI
set_option linter.unusedVariables false
set_option linter.unusedSimpArgs false
namespace Go.Proofs.Ytjknnifcbcdjiaa.Ups
open Go.RowKit Go.Shelf Go.Proofs.Ytjknnifcbcdjiaa.RangeC Go.Proofs.YtjknnifcbcdjiaaW.PrintWords
attribute [local go_sem] Oper.semAt_some
theorem compact_mem {l : List Int} {x : Int} (h : x ∈ Lib.compact l) : x ∈ l := by
  unfold Lib.compact Lib.compactUpTo at h
  obtain ⟨j, hj, rfl⟩ := List.mem_map.1 h
  have hl := List.mem_range.1 (List.mem_filter.1 hj).1
  rw [getElem!_pos _ j (by simpa using hl)]
  simp
theorem gath_mem {n : Nat} {fl : Int → Int} {ifs : Int → List Int} {x y : Int} (hx : 0 ≤ x ∧ x < n) (h : y ∈ gath n fl ifs x) : (0 ≤ y ∧ y < n) ∧ isI fl y = true := by
  unfold gath at h
  rcases List.mem_append.1 h with h | h
  · by_cases hi : isI fl x = true
    · rw [if_pos hi] at h
      obtain rfl := List.mem_singleton.1 h
      exact ⟨hx, hi⟩
    · rw [if_neg hi] at h
      cases h
  · have := (List.mem_filter.1 h).2
    simpa [selI] using this
theorem ifcP_mem {n : Nat} {sup : Int → Int} {ifs : Int → List Int} {fl : Int → Int} {a x : Int} (h : x ∈ ifcP n sup ifs fl a) : (0 ≤ x ∧ x < n) ∧ isI fl x = true := by
  have h1 := (List.mem_mergeSort).1 (compact_mem h)
  unfold gathAll at h1
  obtain ⟨y, _, hy⟩ := List.mem_flatMap.1 h1
  exact gath_mem y.2 hy
/-- Is a class shareable? -/
def isS (fl : Int → Int) (a : Int) : Bool := bits .and .u8 (fl a) 2 != 0
theorem shared1_any (n₀ : Nat) (w : World) (A : Option Addr) (n c : Nat) (v2 v3 v4 : Value) (i : Int) (fl : Int → Int) (Bw : Nat) (hF : Fl n₀ w A n fl) (hw : w.heap[Bw]? = some (.cells #[.slice A n c, v2, v3, v4] 27 (0, 0))) (h0 : 0 ≤ i) (h1 : i < n) :
    Calls Try.prog 84 #[.int .i64 i, .pointer (some ⟨Bw, 0, none⟩)] w fun e w' => e = .returned (.bool (isS fl i)) ∧ Below w.heap.size w w' := by
  obtain ⟨ad, rfl, hl, hc⟩ := hF i h0 h1
  obtain ⟨d0, d1, d2, d3⟩ := cells4 hw
  go_enter Try.func84, Try.ntmps84
  go_wp2
  go_ret
  exact ⟨rfl, by repeat (first | exact Below.refl _ _ | apply pw_below_drewN | apply below_drew)⟩
set_option maxRecDepth 100000 in
theorem index98_any (n₀ : Nat) (w : World) (A9 : Option Addr) (xs : List Int) (c9 : Nat) (A : Option Addr) (n c : Nat) (v2 v3 v4 : Value) (fl : Int → Int) (Bw : Nat) (hx : Ints n₀ w .i64 A9 xs) (hlen : xs.length ≤ 9223372036854775807) (hr : ∀ x ∈ xs, 0 ≤ x ∧ x < n) (hF : Fl n₀ w A n fl) (hw : w.heap[Bw]? = some (.cells #[.slice A n c, v2, v3, v4] 27 (0, 0))) (hn : n₀ ≤ w.heap.size) :
    Calls Try.prog 98 #[.slice A9 xs.length c9, .func (.func 84) #[] #[.pointer (some ⟨Bw, 0, none⟩)]] w fun e w' => (∃ r : Int, e = .returned (.int .i64 r) ∧ decide (0 ≤ r) = xs.any (isS fl)) ∧ Below w.heap.size w w' := by
  go_enter Try.func98, Try.ntmps98
  go_wp2
  go_loopg [8] xs.length (fun q v wr => ∃ j : Nat, j + q ≤ xs.length ∧ xs.length ≤ j + q ∧ v = .int .i64 j ∧ Below w.heap.size w wr ∧ xs.any (isS fl) = (xs.drop j).any (isS fl))
  case atStart => exact ⟨0, by omega, by omega, rfl, Below.refl _ _, by simp⟩
  case round =>
    obtain ⟨j, hj1, hj2, rfl, hB, hf⟩ := hrel
    by_cases hlt : 0 < gk
    · have hi : (j : Int) < (xs.length : Int) := by omega
      have hj0 : (0 : Int) ≤ (j : Int) := by omega
      have hjl : j < xs.length := by omega
      have hwr := (hB.block _ (Array.getElem?_eq_some_iff.1 hw).1).trans hw
      obtain ⟨ad, rfl, hl, hc⟩ := (hx.below (hB.mono hn)) (j : Int) hj0 hi
      simp only [Int.toNat_natCast] at hl hc
      have hm : xs.getD j 0 = xs[j] := by simp [List.getD_eq_getElem?_getD, List.getElem?_eq_getElem hjl]
      have hrx := hr _ (List.getElem_mem hjl)
      rw [List.drop_eq_getElem_cons hjl, List.any_cons] at hf
      rw [hm] at hc
      generalize xs[j] = x at *
      by_cases he : isS fl x = true
      · go_wp2_with (go_at_call 84; refine (shared1_any n₀ _ _ n _ _ _ _ x fl Bw (hF.below (hB.mono hn)) hwr hrx.1 hrx.2).mono ?_; rintro e w' ⟨rfl, hBc⟩)
        go_ret
        exact ⟨⟨j, rfl, by rw [hf, he]; simp⟩, below_step hB hBc⟩
      · have he' : isS fl x = false := by simpa using he
        go_wp2_with (go_at_call 84; refine (shared1_any n₀ _ _ n _ _ _ _ x fl Bw (hF.below (hB.mono hn)) hwr hrx.1 hrx.2).mono ?_; rintro e w' ⟨rfl, hBc⟩)
        go_roundg (gk - 1)
        case rel => exact ⟨j + 1, by omega, by omega, by go_num, below_step hB hBc, by rw [hf, he']; rfl⟩
        case measure => omega
    · have hi : ¬ (j : Int) < (xs.length : Int) := by omega
      have hjl : xs.length ≤ j := by omega
      rw [List.drop_eq_nil_of_le hjl] at hf
      go_wp2
      go_ret
      exact ⟨⟨-1, rfl, by first | (rw [hf]; rfl) | decide | omega⟩, hB⟩
theorem contains83_any (n₀ : Nat) (w : World) (A9 : Option Addr) (xs : List Int) (c9 : Nat) (A : Option Addr) (n c : Nat) (v2 v3 v4 : Value) (fl : Int → Int) (Bw : Nat) (hx : Ints n₀ w .i64 A9 xs) (hlen : xs.length ≤ 9223372036854775807) (hr : ∀ x ∈ xs, 0 ≤ x ∧ x < n) (hF : Fl n₀ w A n fl) (hw : w.heap[Bw]? = some (.cells #[.slice A n c, v2, v3, v4] 27 (0, 0))) (hn : n₀ ≤ w.heap.size) :
    Calls Try.prog 83 #[.slice A9 xs.length c9, .func (.func 84) #[] #[.pointer (some ⟨Bw, 0, none⟩)]] w fun e w' => e = .returned (.bool (xs.any (isS fl))) ∧ Below w.heap.size w w' := by
  go_enter Try.func83, Try.ntmps83
  go_wp2_with (go_at_call 98; refine (index98_any n₀ _ _ xs _ A n c v2 v3 v4 fl Bw hx hlen hr hF hw hn).mono ?_; rintro e w' ⟨⟨r, rfl, hq⟩, hB⟩)
  go_ret
  exact ⟨by rw [← hq]; rfl, hB⟩
/-- Has a class a shareable interface? -/
def sharedP (n : Nat) (sup : Int → Int) (ifs : Int → List Int) (fl : Int → Int) (a : Int) : Bool := (ifcP n sup ifs fl a).any (isS fl)
theorem Fl.mono {n₀ n₁ : Nat} {W : World} {A : Option Addr} {n : Nat} {fl : Int → Int} (h : Fl n₀ W A n fl) (hn : n₀ ≤ n₁) : Fl n₁ W A n fl := fun i h0 h1 => by
  obtain ⟨ad, hA, hl, hc⟩ := h i h0 h1
  exact ⟨ad, hA, Nat.lt_of_lt_of_le hl hn, hc⟩
section
variable (w : World) (A : Option Addr) (n c : Nat) (A2 : Option Addr) (n2 c2 : Nat) (A3 : Option Addr) (n3 c3 : Nat) (A4 : Option Addr) (n4 c4 : Nat) (sup : Int → Int) (ifs : Int → List Int) (fl : Int → Int) (a : Int) (M : Nat)
theorem own_ints {W : World} {B : Nat} {v : Value} {xs : List Int} (h : W.ownsRow B 3 1 v xs.length (xs.map (Value.int .i64))) : ∃ A c, v = .slice A xs.length c ∧ xs.length ≤ 9223372036854775807 ∧ Ints W.heap.size W .i64 A xs := by
  have hr : Reps (fun (x : Int) cs => cs = [Value.int .i64 x]) 1 xs (xs.map (Value.int .i64)) := by
    refine ⟨by simp, fun j p hj => ?_⟩
    obtain ⟨hl, rfl⟩ := List.getElem?_eq_some_iff.1 hj
    rw [Nat.mul_one, List.drop_eq_getElem_cons (by simpa using hl)]
    simp
  obtain ⟨A, c, rfl, hd⟩ := own_reads_row h hr rfl
  exact ⟨A, c, rfl, hd.2.1, ints_of (show (Kd.int .i64).C W A xs.length xs from hd)⟩
theorem R_ints {W : World} {B : Nat} {v : Value} {xs : List Int} (h : W.ownsRow B 3 1 v xs.length (xs.map (Value.int .i64))) : Kd.R (Kd.int .i64) 3 W B (fun _ => True) v xs := by
  refine ⟨fun _ _ => trivial, _, h, by simp [Kd.int, Kd.scalar], fun j p hj => ?_⟩
  obtain ⟨hl, rfl⟩ := List.getElem?_eq_some_iff.1 hj
  show ((xs.map (Value.int .i64)).drop (j * 1)).take 1 = [Value.int .i64 xs[j]]
  rw [Nat.mul_one, List.drop_eq_getElem_cons (by simpa using hl)]
  simp
set_option maxRecDepth 100000 in
theorem shared_any (hn : n ≤ 4611686018427387904) (hS : Sup w.heap.size w A n sup) (hI : IfsAt w.heap.size w A n ifs) (hF : Fl w.heap.size w A n fl) (hL : ∀ i, (ifs i).length ≤ M) (hM : (n + 2) * (M + 1) ≤ 10000000000000) :
    Calls Try.prog 44 #[.agg #[.slice A n c, .slice A2 n2 c2, .slice A3 n3 c3, .slice A4 n4 c4], .int .i64 a] w fun e w' => e = .returned (.bool (sharedP n sup ifs fl a)) ∧ Below w.heap.size w w' := by
  have hw0 := blk_new w (.cells #[.slice A n c, .slice A2 n2 c2, .slice A3 n3 c3, .slice A4 n4 c4] 27)
  have hB0 : Below w.heap.size w (w.alloc (.cells #[.slice A n c, .slice A2 n2 c2, .slice A3 n3 c3, .slice A4 n4 c4] 27)) := below_alloc (Below.refl _ _) _
  obtain ⟨d0, d1, d2, d3⟩ := cells4 hw0
  go_enter Try.func44, Try.ntmps44
  go_wp2_with (first | (go_at_call 43; refine (ifaces_any _ A n c _ _ _ _ _ _ _ _ _ sup ifs fl a M hn ((hS.below hB0).mono hB0.size) ((hI.below hB0).mono hB0.size) ((hF.below hB0).mono hB0.size) hL hM).mono ?_; rintro e w1 ⟨v, rfl, hrow, hB1⟩; obtain ⟨A9, c9, rfl, hl9, hi9⟩ := own_ints hrow; have hw1 := (hB1.block _ (Array.getElem?_eq_some_iff.1 hw0).1).trans hw0; have hBB := below_step hB0 hB1) | (go_at_call 83; refine (contains83_any w1.heap.size _ _ _ _ A n c _ _ _ fl w.heap.size hi9 hl9 (fun x hx => (ifcP_mem hx).1) ((hF.below hBB).mono hBB.size) hw1 (Nat.le_refl _)).mono ?_; rintro e w2 ⟨rfl, hB2⟩))
  go_ret
  exact ⟨rfl, below_step hBB hB2⟩
end
end Go.Proofs.Ytjknnifcbcdjiaa.Ups
