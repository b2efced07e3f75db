/- find.Iface: the method of an interface's token. -/
import Derived.Test.YtjknnifcbcdjiaaUp
set_option linter.unusedVariables false
set_option linter.unusedSimpArgs false
namespace Go.Proofs.Ytjknnifcbcdjiaa.Ups
open Go.RowKit Go.Shelf Go.Proofs.Ytjknnifcbcdjiaa.RangeC Go.Proofs.YtjknnifcbcdjiaaW.PrintWords
attribute [local go_sem] Oper.semAt_some
/-- A row of whole numbers, as it is read here. -/
def Ints (n₀ : Nat) (W : World) (k : IntKind) (A : Option Addr) (xs : List Int) : Prop := ∀ j : Int, 0 ≤ j → j < xs.length → ∃ ad : Addr, A = some ad ∧ (ad.add j.toNat).block < n₀ ∧ W.cell? (ad.add j.toNat) = some (.int k (xs.getD j.toNat 0))
theorem Ints.below {n₀ : Nat} {W W' : World} {k : IntKind} {A : Option Addr} {xs : List Int} (h : Ints n₀ W k A xs) (hb : Below n₀ W W') : Ints n₀ W' k A xs := fun i h0 h1 => by
  obtain ⟨ad, hA, hl, hc⟩ := h i h0 h1
  exact ⟨ad, hA, hl, (hb.cell hl).trans hc⟩
theorem Ints.mono {n₀ n₁ : Nat} {W : World} {k : IntKind} {A : Option Addr} {xs : List Int} (h : Ints n₀ W k A xs) (hn : n₀ ≤ n₁) : Ints n₁ W k A xs := fun i h0 h1 => by
  obtain ⟨ad, hA, hl, hc⟩ := h i h0 h1
  exact ⟨ad, hA, Nat.lt_of_lt_of_le hl hn, hc⟩
theorem ints_of {w : World} {k : IntKind} {A : Option Addr} {n : Nat} {xs : List Int} (h : (Kd.int k).C w A n xs) : Ints w.heap.size w k A xs := fun i h0 h1 => by
  have hn : n = xs.length := h.1.symm
  obtain ⟨ad, hA, hc⟩ := Kd.at_int h i h0 (by omega)
  exact ⟨ad, hA, World.block_lt_of_cell? w _ hc, hc⟩
/-- What stands at a place of a row, if there is one. -/
def atP (xs : List Int) (t : Int) : Int × Bool := if 0 ≤ t ∧ t < xs.length then (xs.getD t.toNat 0, true) else (0, false)
theorem at_any (n₀ : Nat) (w : World) (A : Option Addr) (xs : List Int) (c : Nat) (t : Int) (hx : Ints n₀ w .i64 A xs) :
    Calls Try.prog 50 #[.slice A xs.length c, .int .i64 t] w fun e w' => e = .returned (.tuple #[.int .i64 (atP xs t).1, .bool (atP xs t).2]) ∧ Below w.heap.size w w' := by
  by_cases h0 : t < 0
  · have b0 : decide (t < 0) = true := decide_eq_true h0
    go_enter Try.func50, Try.ntmps50
    go_wp2
    go_ret2
    exact ⟨by simp [atP, show ¬ 0 ≤ t by omega], by repeat (first | exact Below.refl _ _ | (refine Below.alloc ?_ (by simp <;> omega) _) | apply pw_below_drewN | apply below_drew)⟩
  · have b0 : decide (t < 0) = false := decide_eq_false h0
    by_cases h1 : t < xs.length
    · have b1 : decide ((xs.length : Int) ≤ t) = false := decide_eq_false (by omega)
      have p0 : 0 ≤ t := by omega
      obtain ⟨ad, rfl, hl, hc⟩ := hx t p0 h1
      go_enter Try.func50, Try.ntmps50
      go_wp2
      go_ret2
      exact ⟨by simp [atP, p0, h1], by repeat (first | exact Below.refl _ _ | (refine Below.alloc ?_ (by simp <;> omega) _) | apply pw_below_drewN | apply below_drew)⟩
    · have b1 : decide ((xs.length : Int) ≤ t) = true := decide_eq_true (by omega)
      go_enter Try.func50, Try.ntmps50
      go_wp2
      go_ret2
      exact ⟨by rw [atP, if_neg (by omega)]; rfl, by repeat (first | exact Below.refl _ _ | (refine Below.alloc ?_ (by simp <;> omega) _) | apply pw_below_drewN | apply below_drew)⟩
/-- A row of interfaces' entries, with their maps. -/
def IfM (n₀ : Nat) (W : World) (A : Option Addr) (xs : List Int) (ms : Int → List Int) : Prop := ∀ i : Int, 0 ≤ i → i < xs.length → ∃ (ad : Addr) (A1 : Option Addr) (c1 : Nat), A = some ad ∧ (ad.add (i.toNat * 2)).block < n₀ ∧ W.cell? (ad.add (i.toNat * 2)) = some (.int .i64 (xs.getD i.toNat 0)) ∧
  W.cell? ⟨(ad.add (i.toNat * 2)).block, (ad.add (i.toNat * 2)).off + 1, none⟩ = some (.slice A1 (ms i).length c1) ∧ Ints n₀ W .i64 A1 (ms i)
theorem IfM.ifs {n₀ : Nat} {W : World} {A : Option Addr} {xs : List Int} {ms : Int → List Int} (h : IfM n₀ W A xs ms) : Ifs n₀ W A xs := fun i h0 h1 => by
  obtain ⟨ad, A1, c1, hA, hl, hc, hd, _⟩ := h i h0 h1
  exact ⟨ad, A1, _, c1, hA, hl, hc, hd⟩
theorem IfM.below {n₀ : Nat} {W W' : World} {A : Option Addr} {xs : List Int} {ms : Int → List Int} (h : IfM n₀ W A xs ms) (hb : Below n₀ W W') : IfM n₀ W' A xs ms := fun i h0 h1 => by
  obtain ⟨ad, A1, c1, hA, hl, hc, hd, hm⟩ := h i h0 h1
  exact ⟨ad, A1, c1, hA, hl, (hb.cell hl).trans hc, (hb.cell (p := ⟨(ad.add (i.toNat * 2)).block, (ad.add (i.toNat * 2)).off + 1, none⟩) hl).trans hd, hm.below hb⟩
def IfMAt (n₀ : Nat) (W : World) (A : Option Addr) (n : Nat) (ifs : Int → List Int) (ms : Int → Int → List Int) : Prop := ∀ i : Int, 0 ≤ i → i < n → ∃ (ad : Addr) (A3 : Option Addr) (c3 : Nat), A = some ad ∧ (ad.add (i.toNat * 7)).block < n₀ ∧ W.cell? ⟨(ad.add (i.toNat * 7)).block, (ad.add (i.toNat * 7)).off + 3, none⟩ = some (.slice A3 (ifs i).length c3) ∧ IfM n₀ W A3 (ifs i) (ms i)
theorem IfMAt.below {n₀ : Nat} {W W' : World} {A : Option Addr} {n : Nat} {ifs : Int → List Int} {ms : Int → Int → List Int} (h : IfMAt n₀ W A n ifs ms) (hb : Below n₀ W W') : IfMAt n₀ W' A n ifs ms := fun i h0 h1 => by
  obtain ⟨ad, A3, c3, hA, hl, hc, hd⟩ := h i h0 h1
  exact ⟨ad, A3, c3, hA, hl, (hb.cell (p := ⟨(ad.add (i.toNat * 7)).block, (ad.add (i.toNat * 7)).off + 3, none⟩) hl).trans hc, hd.below hb⟩
theorem iface1_any (w : World) (x : Int) (A1 : Option Addr) (n1 c1 : Nat) (Bb : Nat) (b : Int) (hb : w.heap[Bb]? = some (.cells #[.int .i64 b] 3 (0, 0))) :
    Calls Try.prog 52 #[.agg #[.int .i64 x, .slice A1 n1 c1], .pointer (some ⟨Bb, 0, none⟩)] w fun e w' => e = .returned (.bool (x == b)) ∧ w' = w.alloc (.cells #[.int .i64 x, .slice A1 n1 c1] 109) := by
  have hb3 : (w.alloc (.cells #[.int .i64 x, .slice A1 n1 c1] 109)).heap[Bb]? = some (.cells #[.int .i64 b] 3 (0, 0)) := (Below.heap_alloc w _ _ (Array.getElem?_eq_some_iff.1 hb).1).trans hb
  obtain ⟨d0, df⟩ := cell1 hb3
  go_enter Try.func52, Try.ntmps52
  go_wp2
  go_ret
  exact ⟨rfl, rfl⟩
/-- The first place that holds it, or -1. -/
def idx (xs : List Int) (b : Int) : Int := match xs.findIdx? (· == b) with
  | some i => i
  | none => -1
set_option maxRecDepth 100000 in
theorem index52_any (n₀ : Nat) (w : World) (A : Option Addr) (xs : List Int) (c : Nat) (hx : Ifs n₀ w A xs) (hlen : xs.length ≤ 9223372036854775807) (Bb : Nat) (b : Int) (hb : w.heap[Bb]? = some (.cells #[.int .i64 b] 3 (0, 0))) (hn : n₀ ≤ w.heap.size) :
    Calls Try.prog 51 #[.slice A xs.length c, .func (.func 52) #[] #[.pointer (some ⟨Bb, 0, none⟩)]] w fun e w' => e = .returned (.int .i64 (idx xs b)) ∧ Below w.heap.size w w' := by
  go_enter Try.func51, Try.ntmps51
  go_wp2
  go_loopg [8] xs.length (fun q v wr => ∃ j : Nat, j + q ≤ xs.length ∧ xs.length ≤ j + q ∧ v = .int .i64 j ∧ Below w.heap.size w wr ∧ ∀ i, i < j → xs.getD i 0 ≠ b)
  case atStart => exact ⟨0, by omega, by omega, rfl, Below.refl _ _, fun i h => by omega⟩
  case round =>
    obtain ⟨j, hj1, hj2, rfl, hB, hnone⟩ := hrel
    by_cases hlt : 0 < gk
    · have hi : (j : Int) < (xs.length : Int) := by omega
      have hj0 : (0 : Int) ≤ (j : Int) := by omega
      have hbr := (hB.block _ (Array.getElem?_eq_some_iff.1 hb).1).trans hb
      obtain ⟨ad, A1, n1, c1, rfl, hl, hc, hd⟩ := (hx.below (hB.mono hn)) (j : Int) hj0 hi
      simp only [Int.toNat_natCast] at hl hc hd
      have hm : xs.getD j 0 = xs[j]'(by omega) := by simp [List.getD_eq_getElem?_getD, List.getElem?_eq_getElem (show j < xs.length by omega)]
      have hB2 : ∀ o : Obj, Below w.heap.size w (wr.alloc o) := fun o => hB.alloc hB.size _
      have hjl : j < xs.length := by omega
      generalize hxj : xs.getD j 0 = x at *
      by_cases he : x = b
      · subst he
        have hbb : (x == x) = true := by simp
        go_wp2_with (go_at_call 52; refine (iface1_any _ _ _ _ _ Bb x hbr).mono ?_; rintro e w' ⟨rfl, rfl⟩)
        go_ret
        have hf : xs.findIdx? (· == x) = some j := by
          rw [List.findIdx?_eq_some_iff_getElem]
          refine ⟨hjl, by simp [← hm], fun i hi2 => ?_⟩
          have := hnone i hi2
          simpa [List.getD_eq_getElem?_getD, List.getElem?_eq_getElem (show i < xs.length by omega)] using this
        exact ⟨by simp [idx, hf], hB2 _⟩
      · have hbb : (x == b) = false := beq_eq_false_iff_ne.2 he
        go_wp2_with (go_at_call 52; refine (iface1_any _ _ _ _ _ Bb b hbr).mono ?_; rintro e w' ⟨rfl, rfl⟩)
        go_roundg (gk - 1)
        case rel =>
          refine ⟨j + 1, by omega, by omega, by go_num, hB2 _, fun i hi => ?_⟩
          by_cases e : i = j
          · subst e; rw [hxj]; exact he
          · exact hnone i (by omega)
        case measure => omega
    · have hi : ¬ (j : Int) < (xs.length : Int) := by omega
      go_wp2
      go_ret
      have hf : xs.findIdx? (· == b) = none := by
        rw [List.findIdx?_eq_none_iff]
        intro x hx
        obtain ⟨i, hi, rfl⟩ := List.getElem_of_mem hx
        have := hnone i (by omega)
        simpa [List.getD_eq_getElem?_getD, List.getElem?_eq_getElem hi] using this
      exact ⟨by simp [idx, hf], hB⟩
/-- The method of an interface's token, of a class and those above it. -/
def ifI {n : Nat} (ifs : Int → List Int) (ms : Int → Int → List Int) (virt : Int → Int) (b t : Int) : List (Cl n) → Int
  | [] => -1
  | x :: l => if 0 ≤ idx (ifs x.1) b then (if (atP (ms x.1 (idx (ifs x.1) b)) t).2 then virt (atP (ms x.1 (idx (ifs x.1) b)) t).1 else -1) else ifI ifs ms virt b t l
theorem ups_len (n : Nat) (sup : Int → Int) : ∀ (k : Nat) (a : Int), (ups n sup k a).length ≤ k
  | 0, _ => by simp [ups]
  | k + 1, a => by
    unfold ups
    split
    · simpa using ups_len n sup k (sup a)
    · simp
theorem idx_lt {xs : List Int} {b : Int} (h : 0 ≤ idx xs b) : idx xs b < xs.length := by
  unfold idx at *
  split
  · rename_i i hi
    rw [List.findIdx?_eq_some_iff_getElem] at hi
    obtain ⟨hl, _⟩ := hi
    omega
  · rename_i hi
    simp [hi] at h
theorem idx_neg {xs : List Int} {b : Int} (h : ¬ 0 ≤ idx xs b) : idx xs b < 0 := by omega
section
variable (w : World) (A : Option Addr) (n c : Nat) (A2 : Option Addr) (n2 c2 : Nat) (A3 : Option Addr) (n3 c3 : Nat) (A4 : Option Addr) (n4 c4 : Nat) (sup : Int → Int) (ifs : Int → List Int) (ms : Int → Int → List Int) (virt : Int → Int) (a b t : Int)
theorem ints_map {m : Nat} (l : List (Cl m)) (W : World) (v : Value) (B : Nat) (h : W.ownsRow B 3 1 v l.length (l.map fun x => .int .i64 x.1)) : ∃ A c, v = .slice A l.length c ∧ Ints W.heap.size W .i64 A (l.map (·.1)) := by
  have hr : Reps (fun (x : Int) cs => cs = [Value.int .i64 x]) 1 (l.map (·.1)) (l.map fun x => .int .i64 x.1) := by
    refine ⟨by simp, fun j p hj => ?_⟩
    rw [List.getElem?_map] at hj
    obtain ⟨x, hx, rfl⟩ := Option.map_eq_some_iff.1 hj
    have hl := (List.getElem?_eq_some_iff.1 hx).1
    obtain ⟨_, hx'⟩ := List.getElem?_eq_some_iff.1 hx
    rw [Nat.mul_one, List.drop_eq_getElem_cons (by simpa using hl)]
    simp [hx']
  obtain ⟨A, c, rfl, hd⟩ := own_reads_row h hr (by simp)
  exact ⟨A, c, rfl, ints_of (show (Kd.int .i64).C W A l.length (l.map (·.1)) from hd)⟩
set_option maxRecDepth 100000 in
theorem iface12_any (hn : n ≤ 10000000000000) (hS : Sup w.heap.size w A n sup) (hI : IfMAt w.heap.size w A n ifs ms) (hL : ∀ i, (ifs i).length ≤ 9223372036854775807)
    (hV : ∀ (w' : World) (k : Int), Below w.heap.size w w' → Calls Try.prog 11 #[.agg #[.slice A n c, .slice A2 n2 c2, .slice A3 n3 c3, .slice A4 n4 c4], .int .i64 a, .int .i64 k] w' fun e w'' => e = .returned (.int .i64 (virt k)) ∧ Below w'.heap.size w' w'') :
    Calls Try.prog 12 #[.agg #[.slice A n c, .slice A2 n2 c2, .slice A3 n3 c3, .slice A4 n4 c4], .int .i64 a, .int .i64 b, .int .i64 t] w fun e w' => e = .returned (.int .i64 (ifI ifs ms virt b t (ups n sup (n + 1) a))) ∧ Below w.heap.size w w' := by
  have hw0 := blk_alloc (blk_new w (.cells #[.slice A n c, .slice A2 n2 c2, .slice A3 n3 c3, .slice A4 n4 c4] 27)) (.cells #[.int .i64 b] 3)
  have hb0 := blk_new (w.alloc (.cells #[.slice A n c, .slice A2 n2 c2, .slice A3 n3 c3, .slice A4 n4 c4] 27)) (.cells #[.int .i64 b] 3)
  have hB0 : Below w.heap.size w ((w.alloc (.cells #[.slice A n c, .slice A2 n2 c2, .slice A3 n3 c3, .slice A4 n4 c4] 27)).alloc (.cells #[.int .i64 b] 3)) := below_alloc (below_alloc (Below.refl _ _) _) _
  rw [World.size_alloc] at hb0
  obtain ⟨d0, d1, d2, d3⟩ := cells4 hw0
  go_enter Try.func12, Try.ntmps12
  go_wp2_with (go_at_call 40; refine (up_any _ A n c _ _ _ _ _ _ _ _ _ sup a hn ((hS.below hB0).mono hB0.size)).mono ?_; rintro e w1 ⟨v, B, rfl, hle, hrow, hB1⟩; obtain ⟨A9, c9, rfl, hr9⟩ := ints_map _ _ _ _ hrow)
  have hw1 := (hB1.block _ (Array.getElem?_eq_some_iff.1 hw0).1).trans hw0
  have hb1 := (hB1.block _ (Array.getElem?_eq_some_iff.1 hb0).1).trans hb0
  have hBB := below_step hB0 hB1
  clear hw0 hb0 d0 d1 d2 d3 hB1
  have hul := ups_len n sup (n + 1) a
  generalize hU : ups n sup (n + 1) a = us at *
  go_loopg [19] us.length (fun q v wr => ∃ j : Nat, j + q ≤ us.length ∧ us.length ≤ j + q ∧ v = .int .i64 j ∧ Below w1.heap.size w1 wr ∧ ifI ifs ms virt b t us = ifI ifs ms virt b t (us.drop j))
  case atStart => exact ⟨0, by omega, by omega, rfl, Below.refl _ _, by simp⟩
  case round =>
    obtain ⟨j, hj1, hj2, rfl, hB, hf⟩ := hrel
    by_cases hlt : 0 < gk
    · have hi : (j : Int) < (us.length : Int) := by omega
      have hj0 : (0 : Int) ≤ (j : Int) := by omega
      have hjl : j < us.length := by omega
      obtain ⟨ad9, rfl, hl9, hc9⟩ := (hr9.below hB) (j : Int) hj0 (by simpa using hi)
      simp only [Int.toNat_natCast] at hl9 hc9
      rw [List.drop_eq_getElem_cons hjl] at hf
      have hg : (us.map (·.1)).getD j 0 = us[j].1 := by simp [List.getD_eq_getElem?_getD, List.getElem?_eq_getElem hjl]
      rw [hg] at hc9
      clear hg
      generalize us[j] = xx at hf hc9
      obtain ⟨x, hx0, hx1⟩ := xx
      have hw2 := (hB.block _ (Array.getElem?_eq_some_iff.1 hw1).1).trans hw1
      have hb2 := (hB.block _ (Array.getElem?_eq_some_iff.1 hb1).1).trans hb1
      have hBr := below_step hBB hB
      obtain ⟨d0, d1, d2, d3⟩ := cells4 hw2
      obtain ⟨ad, A5, c5, rfl, hl5, hc5, hi5⟩ := (hI.below hBr) x hx0 hx1
      dsimp only at hc9
      by_cases hk : 0 ≤ idx (ifs x) b
      · have hkd : decide (idx (ifs x) b < 0) = false := decide_eq_false (by omega)
        have hk1 := idx_lt hk
        rw [ifI, if_pos hk] at hf
        dsimp only at hf
        generalize hke : idx (ifs x) b = ki at *
        by_cases hat : (atP (ms x ki) t).2 = true
        · rw [if_pos hat] at hf
          go_wp2_with (first | (go_at_call 51; refine (index52_any w.heap.size _ _ (ifs x) _ hi5.ifs (hL x) (w.heap.size + 1) b hb2 hBr.size).mono ?_; rintro e w' ⟨rfl, hBc⟩; rw [hke]; obtain ⟨ad6, A6, c6, hA6, hl6, hc6, hd6, hm6⟩ := (hi5.below (hBc.mono hBr.size)) ki hk hk1; subst hA6) | (go_at_call 50; refine (at_any _ _ _ _ _ t hm6).mono ?_; rintro e w'' ⟨rfl, hBd⟩; have hw3 := ((hBc.trans (hBd.mono hBc.size)).block _ (Array.getElem?_eq_some_iff.1 hw2).1).trans hw2; obtain ⟨f0, f1, f2, f3⟩ := cells4 hw3) | (go_at_call 11; refine (hV _ _ (below_step (below_step hBr hBc) hBd)).mono ?_; rintro e w3 ⟨rfl, hBe⟩))
          go_ret
          exact ⟨by rw [hU, hf]; rfl, below_step (below_step (below_step hBr hBc) hBd) hBe⟩
        · rw [if_neg hat] at hf
          have hat' : (atP (ms x ki) t).2 = false := by simpa using hat
          go_wp2_with (first | (go_at_call 51; refine (index52_any w.heap.size _ _ (ifs x) _ hi5.ifs (hL x) (w.heap.size + 1) b hb2 hBr.size).mono ?_; rintro e w' ⟨rfl, hBc⟩; rw [hke]; obtain ⟨ad6, A6, c6, hA6, hl6, hc6, hd6, hm6⟩ := (hi5.below (hBc.mono hBr.size)) ki hk hk1; subst hA6) | (go_at_call 50; refine (at_any _ _ _ _ _ t hm6).mono ?_; rintro e w'' ⟨rfl, hBd⟩))
          go_ret
          exact ⟨by rw [hU, hf]; rfl, below_step (below_step hBr hBc) hBd⟩
      · have hkd : decide (idx (ifs x) b < 0) = true := decide_eq_true (by omega)
        rw [ifI, if_neg hk] at hf
        go_wp2_with (go_at_call 51; refine (index52_any w.heap.size _ _ (ifs x) _ hi5.ifs (hL x) (w.heap.size + 1) b hb2 hBr.size).mono ?_; rintro e w' ⟨rfl, hBc⟩)
        go_roundg (gk - 1)
        case rel => exact ⟨j + 1, by omega, by omega, by go_num, below_step hB hBc, hf⟩
        case measure => omega
    · have hi : ¬ (j : Int) < (us.length : Int) := by omega
      have hjl : us.length ≤ j := by omega
      rw [List.drop_eq_nil_of_le hjl] at hf
      go_wp2
      go_ret
      exact ⟨by first | rfl | (rw [hU, hf]; rfl), below_step hBB hB⟩
end
end Go.Proofs.Ytjknnifcbcdjiaa.Ups
