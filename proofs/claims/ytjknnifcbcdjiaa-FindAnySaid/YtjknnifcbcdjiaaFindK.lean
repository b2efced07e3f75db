/- find.Known: whose an applet's name is. -/
import Derived.Test.YtjknnifcbcdjiaaFindI
import Derived.Laws.BytesArg
set_option linter.unusedVariables false
set_option linter.unusedSimpArgs false
namespace Go.Proofs.Ytjknnifcbcdjiaa.Ups
open Go.RowKit Go.Shelf Go.Proofs.Ytjknnifcbcdjiaa.RangeC Go.Proofs.YtjknnifcbcdjiaaW.PrintWords
attribute [local go_sem] Oper.semAt_some
theorem conv_bytes (n₀ : Nat) (w : World) (A : Option Addr) (xs : List Int) (c : Nat) (hx : Ints n₀ w .u8 A xs) : (convert 39 9 (.slice A xs.length c)).run Try.prog w = .ok (.string (strOfNums xs)) w := by
  cases A with
  | none =>
    have hz : xs = [] := by
      cases xs with
      | nil => rfl
      | cons x l => obtain ⟨ad, h, _⟩ := hx 0 (by omega) (by simp only [List.length_cons]; omega); cases h
    subst hz
    exact run_convert_bytes_nil _ 39 _ Try.underlying39 (by kernel_rfl) _ _ 9 (by kernel_rfl)
  | some ad =>
    have hl : (loadCells ad xs.length).run Try.prog w = .ok (xs.map (Value.int .u8)).toArray w := by
      have := run_loadCells_list (P := Try.prog) w ad (xs.map (Value.int .u8)) (fun j v hj => by
        have hjl : j < xs.length := by
          rcases Nat.lt_or_ge j xs.length with h | h
          · exact h
          · simp [List.getElem?_eq_none (show (xs.map (Value.int .u8)).length ≤ j by simpa using h)] at hj
        obtain ⟨ad', he, _, hc⟩ := hx j (by omega) (by omega)
        cases he
        simp only [Int.toNat_natCast] at hc
        rw [hc]
        simp [List.getElem?_eq_getElem hjl] at hj
        subst hj
        simp [List.getD, List.getElem?_eq_getElem hjl])
      simpa using this
    rw [run_convert_bytes_string w 39 9 _ _ _ c Try.underlying39 (by kernel_rfl) (by kernel_rfl), run_bytesToString w _ _ c xs hl, foldl_push_bytes]
    simp [strOfNums, ByteArray.empty, ByteArray.emptyWithCapacity]
    rfl
/-- The same bytes? -/
def eqB (xs ys : List Int) : Bool := (strOfNums xs).toList == (strOfNums ys).toList
theorem equal_any (n₀ : Nat) (w : World) (A1 A2 : Option Addr) (xs ys : List Int) (c1 c2 : Nat) (h1 : Ints n₀ w .u8 A1 xs) (h2 : Ints n₀ w .u8 A2 ys) :
    Calls Try.prog 55 #[.slice A1 xs.length c1, .slice A2 ys.length c2] w fun e w' => e = .returned (.bool (eqB xs ys)) ∧ w' = w := by
  have g1 := conv_bytes n₀ w A1 xs c1 h1
  have g2 := conv_bytes n₀ w A2 ys c2 h2
  go_enter Try.func55, Try.ntmps55
  go_wp2
  go_ret
  exact ⟨rfl, rfl⟩
theorem known1_any (n₀ : Nat) (w : World) (A1 A2 : Option Addr) (xs ys : List Int) (c1 c2 : Nat) (k : Int) (Bn : Nat) (hb : w.heap[Bn]? = some (.cells #[.slice A2 ys.length c2] 39 (0, 0))) (h1 : Ints n₀ w .u8 A1 xs) (h2 : Ints n₀ w .u8 A2 ys) (hn : n₀ ≤ w.heap.size) :
    Calls Try.prog 54 #[.agg #[.slice A1 xs.length c1, .int .i64 k], .pointer (some ⟨Bn, 0, none⟩)] w fun e w' => e = .returned (.bool (eqB xs ys)) ∧ w' = w.alloc (.cells #[.slice A1 xs.length c1, .int .i64 k] 119) := by
  have hb3 := blk_alloc hb (.cells #[.slice A1 xs.length c1, .int .i64 k] 119)
  obtain ⟨d0, df⟩ := cell1 hb3
  have hB : Below n₀ w (w.alloc (.cells #[.slice A1 xs.length c1, .int .i64 k] 119)) := (Below.refl _ _).alloc hn _
  have h1' := h1.below hB
  have h2' := h2.below hB
  go_enter Try.func54, Try.ntmps54
  go_wp2_with (go_at_call 55; refine (equal_any n₀ _ _ _ xs ys _ _ h1' h2').mono ?_; rintro e w' ⟨rfl, rfl⟩)
  go_ret
  exact ⟨rfl, rfl⟩
/-- A row of applets: their names. -/
def Apl (n₀ : Nat) (W : World) (A : Option Addr) (m : Nat) (nm : Int → List Int) : Prop := ∀ i : Int, 0 ≤ i → i < m → ∃ (ad : Addr) (A1 : Option Addr) (c1 : Nat) (k : Int), A = some ad ∧ (ad.add (i.toNat * 2)).block < n₀ ∧ W.cell? (ad.add (i.toNat * 2)) = some (.slice A1 (nm i).length c1) ∧
  W.cell? ⟨(ad.add (i.toNat * 2)).block, (ad.add (i.toNat * 2)).off + 1, none⟩ = some (.int .i64 k) ∧ Ints n₀ W .u8 A1 (nm i)
theorem Apl.below {n₀ : Nat} {W W' : World} {A : Option Addr} {m : Nat} {nm : Int → List Int} (h : Apl n₀ W A m nm) (hb : Below n₀ W W') : Apl n₀ W' A m nm := fun i h0 h1 => by
  obtain ⟨ad, A1, c1, k, hA, hl, hc, hd, hm⟩ := h i h0 h1
  exact ⟨ad, A1, c1, k, hA, hl, (hb.cell hl).trans hc, (hb.cell (p := ⟨(ad.add (i.toNat * 2)).block, (ad.add (i.toNat * 2)).off + 1, none⟩) hl).trans hd, hm.below hb⟩
def idxN (nm : Int → List Int) (b : List Int) : Nat → Int → Int
  | 0, _ => -1
  | q + 1, i => if eqB (nm i) b = true then i else idxN nm b q (i + 1)
set_option maxRecDepth 100000 in
theorem index56_any (n₀ : Nat) (w : World) (A A2 : Option Addr) (m : Nat) (nm : Int → List Int) (c c2 : Nat) (ys : List Int) (hx : Apl n₀ w A m nm) (hlen : m ≤ 9223372036854775807) (Bn : Nat) (hb : w.heap[Bn]? = some (.cells #[.slice A2 ys.length c2] 39 (0, 0))) (h2 : Ints n₀ w .u8 A2 ys) (hn : n₀ ≤ w.heap.size) :
    Calls Try.prog 56 #[.slice A m c, .func (.func 54) #[] #[.pointer (some ⟨Bn, 0, none⟩)]] w fun e w' => e = .returned (.int .i64 (idxN nm ys m 0)) ∧ Below w.heap.size w w' := by
  go_enter Try.func56, Try.ntmps56
  go_wp2
  go_loopg [8] m (fun q v wr => ∃ j : Nat, j + q ≤ m ∧ m ≤ j + q ∧ v = .int .i64 j ∧ Below w.heap.size w wr ∧ idxN nm ys m 0 = idxN nm ys q j)
  case atStart => exact ⟨0, by omega, by omega, rfl, Below.refl _ _, rfl⟩
  case round =>
    obtain ⟨j, hj1, hj2, rfl, hB, hf⟩ := hrel
    by_cases hlt : 0 < gk
    · have hi : (j : Int) < (m : Int) := by omega
      have hj0 : (0 : Int) ≤ (j : Int) := by omega
      have hbr := (hB.block _ (Array.getElem?_eq_some_iff.1 hb).1).trans hb
      have hBn := hB.mono hn
      have hnr := Nat.le_trans hn hB.size
      obtain ⟨ad, A1, c1, k, rfl, hl, hc, hd, hm⟩ := (hx.below hBn) (j : Int) hj0 hi
      simp only [Int.toNat_natCast] at hl hc hd
      have hB2 : ∀ o : Obj, Below w.heap.size w (wr.alloc o) := fun o => hB.alloc hB.size _
      rw [show gk = (gk - 1) + 1 by omega, idxN] at hf
      by_cases he : eqB (nm j) ys = true
      · rw [if_pos he] at hf
        go_wp2_with (go_at_call 54; refine (known1_any n₀ _ _ _ (nm j) ys _ _ k Bn hbr hm (h2.below hBn) hnr).mono ?_; rintro e w' ⟨rfl, rfl⟩)
        go_ret
        exact ⟨by first | (rw [hf]; done) | (rw [hf]; rfl), hB2 _⟩
      · rw [if_neg he] at hf
        have he' : eqB (nm j) ys = false := by simpa using he
        go_wp2_with (go_at_call 54; refine (known1_any n₀ _ _ _ (nm j) ys _ _ k Bn hbr hm (h2.below hBn) hnr).mono ?_; rintro e w' ⟨rfl, rfl⟩)
        go_roundg (gk - 1)
        case rel => exact ⟨j + 1, by omega, by omega, by go_num, hB2 _, by rw [hf]; congr 1⟩
        case measure => omega
    · have hi : ¬ (j : Int) < (m : Int) := by omega
      obtain rfl : gk = 0 := by omega
      go_wp2
      go_ret
      exact ⟨by first | rfl | (rw [hf]; rfl), hB⟩
/-- The packages' row: is each one dead; its applets. -/
def Pks (n₀ : Nat) (W : World) (A : Option Addr) (m : Nat) (dead : Int → Bool) (al : Int → Nat) (nm : Int → Int → List Int) : Prop := ∀ i : Int, 0 ≤ i → i < m → ∃ (ad : Addr) (A0 A4 A5 : Option Addr) (n0 c0 n4 c4 c5 : Nat) (q1 q2 : Int), A = some ad ∧ (ad.add (i.toNat * 6)).block < n₀ ∧
  W.cell? (ad.add (i.toNat * 6)) = some (.slice A0 n0 c0) ∧ W.cell? ⟨(ad.add (i.toNat * 6)).block, (ad.add (i.toNat * 6)).off + 1, none⟩ = some (.int .u8 q1) ∧ W.cell? ⟨(ad.add (i.toNat * 6)).block, (ad.add (i.toNat * 6)).off + 2, none⟩ = some (.int .u8 q2) ∧
  W.cell? ⟨(ad.add (i.toNat * 6)).block, (ad.add (i.toNat * 6)).off + 3, none⟩ = some (.bool (dead i)) ∧ W.cell? ⟨(ad.add (i.toNat * 6)).block, (ad.add (i.toNat * 6)).off + 4, none⟩ = some (.slice A4 n4 c4) ∧
  W.cell? ⟨(ad.add (i.toNat * 6)).block, (ad.add (i.toNat * 6)).off + 5, none⟩ = some (.slice A5 (al i) c5) ∧ Apl n₀ W A5 (al i) (nm i)
theorem Pks.below {n₀ : Nat} {W W' : World} {A : Option Addr} {m : Nat} {dead : Int → Bool} {al : Int → Nat} {nm : Int → Int → List Int} (h : Pks n₀ W A m dead al nm) (hb : Below n₀ W W') : Pks n₀ W' A m dead al nm := fun i h0 h1 => by
  obtain ⟨ad, A0, A4, A5, n0, c0, n4, c4, c5, q1, q2, hA, hl, e0, e1, e2, e3, e4, e5, hm⟩ := h i h0 h1
  have k : ∀ j v, W.cell? ⟨(ad.add (i.toNat * 6)).block, (ad.add (i.toNat * 6)).off + j, none⟩ = some v → W'.cell? ⟨(ad.add (i.toNat * 6)).block, (ad.add (i.toNat * 6)).off + j, none⟩ = some v := fun j v hv => (hb.cell (p := ⟨(ad.add (i.toNat * 6)).block, (ad.add (i.toNat * 6)).off + j, none⟩) hl).trans hv
  exact ⟨ad, A0, A4, A5, n0, c0, n4, c4, c5, q1, q2, hA, hl, (hb.cell hl).trans e0, k _ _ e1, k _ _ e2, k _ _ e3, k _ _ e4, k _ _ e5, hm.below hb⟩
/-- Whose a name is: the package, the applet, is there one. -/
def knP (dead : Int → Bool) (al : Int → Nat) (nm : Int → Int → List Int) (b : List Int) : Nat → Int → Int × Int × Bool
  | 0, _ => (0, 0, false)
  | q + 1, i => if 0 ≤ idxN (nm i) b (al i) 0 ∧ dead i = false then (i, idxN (nm i) b (al i) 0, true) else knP dead al nm b q (i + 1)
section
variable (w : World) (A : Option Addr) (n c : Nat) (A2 : Option Addr) (n2 c2 : Nat) (A3 : Option Addr) (n3 c3 : Nat) (A4 : Option Addr) (n4 c4 : Nat) (dead : Int → Bool) (al : Int → Nat) (nm : Int → Int → List Int) (A5 : Option Addr) (ys : List Int) (c5 : Nat)
set_option maxRecDepth 100000 in
theorem known14_any (hn : n4 ≤ 9223372036854775807) (hP : Pks w.heap.size w A4 n4 dead al nm) (hL : ∀ i, al i ≤ 9223372036854775807) (h2 : Ints w.heap.size w .u8 A5 ys) :
    Calls Try.prog 14 #[.agg #[.slice A n c, .slice A2 n2 c2, .slice A3 n3 c3, .slice A4 n4 c4], .slice A5 ys.length c5] w fun e w' => e = .returned (.tuple #[.int .i64 (knP dead al nm ys n4 0).1, .int .i64 (knP dead al nm ys n4 0).2.1, .bool (knP dead al nm ys n4 0).2.2]) ∧ Below w.heap.size w w' := by
  have hw0 := blk_alloc (blk_new w (.cells #[.slice A n c, .slice A2 n2 c2, .slice A3 n3 c3, .slice A4 n4 c4] 27)) (.cells #[.slice A5 ys.length c5] 39)
  have hb0 := blk_new (w.alloc (.cells #[.slice A n c, .slice A2 n2 c2, .slice A3 n3 c3, .slice A4 n4 c4] 27)) (.cells #[.slice A5 ys.length c5] 39)
  have hB0 : Below w.heap.size w ((w.alloc (.cells #[.slice A n c, .slice A2 n2 c2, .slice A3 n3 c3, .slice A4 n4 c4] 27)).alloc (.cells #[.slice A5 ys.length c5] 39)) := below_alloc (below_alloc (Below.refl _ _) _) _
  rw [World.size_alloc] at hb0
  go_enter Try.func14, Try.ntmps14
  go_wp2
  go_loopg [14] n4 (fun q v wr => ∃ j : Nat, j + q ≤ n4 ∧ n4 ≤ j + q ∧ v = .int .i64 j ∧ Below w.heap.size w wr ∧ wr.heap[w.heap.size + 1]? = some (.cells #[.slice A5 ys.length c5] 39 (0, 0)) ∧ knP dead al nm ys n4 0 = knP dead al nm ys q j)
  case atStart => exact ⟨0, by omega, by omega, rfl, hB0, hb0, rfl⟩
  case round =>
    obtain ⟨j, hj1, hj2, rfl, hB, hb1, hf⟩ := hrel
    by_cases hlt : 0 < gk
    · have hi : (j : Int) < (n4 : Int) := by omega
      have hj0 : (0 : Int) ≤ (j : Int) := by omega
      obtain ⟨ad, A0, A8, A9, n0, c0, n8, c8, c9, q1, q2, rfl, hl, e0, e1, e2, e3, e4, e5, hm⟩ := (hP.below hB) (j : Int) hj0 hi
      simp only [Int.toNat_natCast] at hl e0 e1 e2 e3 e4 e5
      rw [show gk = (gk - 1) + 1 by omega, knP] at hf
      generalize hdj : dead j = dj at hf e3
      have hB3 : Below wr.heap.size wr (wr.alloc (.cells #[.slice A0 n0 c0, .int .u8 q1, .int .u8 q2, .bool dj, .slice A8 n8 c8, .slice A9 (al j) c9] 117)) := below_alloc (Below.refl _ _) _
      have hB2 := below_step hB hB3
      have hb2 := blk_alloc hb1 (.cells #[.slice A0 n0 c0, .int .u8 q1, .int .u8 q2, .bool dj, .slice A8 n8 c8, .slice A9 (al j) c9] 117)
      have hp2 := blk_new wr (.cells #[.slice A0 n0 c0, .int .u8 q1, .int .u8 q2, .bool dj, .slice A8 n8 c8, .slice A9 (al j) c9] 117)
      have hm2 := hm.below (hB3.mono hB.size)
      have h22 := h2.below hB2
      by_cases hk : 0 ≤ idxN (nm j) ys (al j) 0
      · have hkd : decide (0 ≤ idxN (nm j) ys (al j) 0) = true := decide_eq_true hk
        by_cases hd : dj = false
        · rw [if_pos ⟨hk, hd⟩] at hf
          subst hd
          go_wp2_with (go_at_call 56; refine (index56_any w.heap.size _ _ _ (al j) (nm j) _ _ ys hm2 (hL j) (w.heap.size + 1) hb2 h22 hB2.size).mono ?_; rintro e w' ⟨rfl, hBc⟩; have hp3 := (hBc.block _ (Array.getElem?_eq_some_iff.1 hp2).1).trans hp2; have hcell : w'.cell? ⟨wr.heap.size, 3, none⟩ = some (.bool false) := by simp [World.cell?, hp3])
          go_ret3
          exact ⟨by first | (rw [hf]; done) | (rw [hf]; rfl), below_step hB2 hBc⟩
        · rw [if_neg (fun h => hd h.2)] at hf
          obtain rfl : dj = true := by simpa using hd
          go_wp2_with (go_at_call 56; refine (index56_any w.heap.size _ _ _ (al j) (nm j) _ _ ys hm2 (hL j) (w.heap.size + 1) hb2 h22 hB2.size).mono ?_; rintro e w' ⟨rfl, hBc⟩; have hp3 := (hBc.block _ (Array.getElem?_eq_some_iff.1 hp2).1).trans hp2; have hcell : w'.cell? ⟨wr.heap.size, 3, none⟩ = some (.bool true) := by simp [World.cell?, hp3])
          go_roundg (gk - 1)
          case rel => exact ⟨j + 1, by omega, by omega, by go_num, below_step hB2 hBc, (hBc.block _ (Array.getElem?_eq_some_iff.1 hb2).1).trans hb2, by rw [hf]; congr 1⟩
          case measure => omega
      · rw [if_neg (fun h => hk h.1)] at hf
        have hkd : decide (0 ≤ idxN (nm j) ys (al j) 0) = false := decide_eq_false hk
        go_wp2_with (go_at_call 56; refine (index56_any w.heap.size _ _ _ (al j) (nm j) _ _ ys hm2 (hL j) (w.heap.size + 1) hb2 h22 hB2.size).mono ?_; rintro e w' ⟨rfl, hBc⟩; have hp3 := (hBc.block _ (Array.getElem?_eq_some_iff.1 hp2).1).trans hp2; have hcell : w'.cell? ⟨wr.heap.size, 3, none⟩ = some (.bool dj) := by simp [World.cell?, hp3])
        go_roundg (gk - 1)
        case rel => exact ⟨j + 1, by omega, by omega, by go_num, below_step hB2 hBc, (hBc.block _ (Array.getElem?_eq_some_iff.1 hb2).1).trans hb2, by rw [hf]; congr 1⟩
        case measure => omega
    · have hi : ¬ (j : Int) < (n4 : Int) := by omega
      obtain rfl : gk = 0 := by omega
      go_wp2
      go_ret3
      exact ⟨by first | rfl | (rw [hf]; rfl), hB⟩
end
end Go.Proofs.Ytjknnifcbcdjiaa.Ups
