/- hier.ups: a class, its Super, and so on. -/
import Derived.Test.YtjknnifcbcdjiaaProg
import Derived.Test.YtjknnifcbcdjiaaRangeC
import Derived.Shelf.Abstract
import Derived.Test.YtjknnifcbcdjiaaWWords
import Derived.Below
import Derived.KernelRfl
set_option linter.unusedVariables false
set_option linter.unusedSimpArgs false
namespace Go.Proofs.Ytjknnifcbcdjiaa.Ups
open Go.RowKit Go.Shelf Go.Proofs.Ytjknnifcbcdjiaa.RangeC Go.Proofs.YtjknnifcbcdjiaaW.PrintWords
attribute [local go_sem] Oper.semAt_some
/-- What comes of a class, in at most k steps. -/
abbrev Cl (n : Nat) := { x : Int // 0 ≤ x ∧ x < n }
def ups (n : Nat) (sup : Int → Int) : Nat → Int → List (Cl n)
  | 0, _ => []
  | k + 1, a => if h : 0 ≤ a ∧ a < n then ⟨a, h⟩ :: ups n sup k (sup a) else []
/-- The classes' row, as it is read here: each one's Super; it lies below n₀. -/
def Sup (n₀ : Nat) (W : World) (A : Option Addr) (n : Nat) (sup : Int → Int) : Prop := ∀ i : Int, 0 ≤ i → i < n → ∃ ad : Addr, A = some ad ∧ (ad.add (i.toNat * 7)).block < n₀ ∧ W.cell? ⟨(ad.add (i.toNat * 7)).block, (ad.add (i.toNat * 7)).off + 2, none⟩ = some (.int .i64 (sup i))
theorem Sup.below {n₀ : Nat} {W W' : World} {A : Option Addr} {n : Nat} {sup : Int → Int} (h : Sup n₀ W A n sup) (hb : Below n₀ W W') : Sup n₀ W' A n sup := fun i h0 h1 => by
  obtain ⟨ad, hA, hl, hc⟩ := h i h0 h1
  exact ⟨ad, hA, hl, (hb.cell (p := ⟨(ad.add (i.toNat * 7)).block, (ad.add (i.toNat * 7)).off + 2, none⟩) hl).trans hc⟩
/-- What a round that goes on keeps: the classes, the two captured variables. -/
def Kp (n₀ Bw Ba : Nat) (W W' : World) : Prop := Below n₀ W W' ∧ (∀ o, W.heap[Bw]? = some o → W'.heap[Bw]? = some o) ∧ ∀ o, W.heap[Ba]? = some o → W'.heap[Ba]? = some o
theorem cells4 {w : World} {B e : Nat} {a b c d : Value} (h : w.heap[B]? = some (.cells #[a, b, c, d] e (0, 0))) : w.cell? ⟨B, 0, none⟩ = some a ∧ w.cell? ⟨B, 1, none⟩ = some b ∧ w.cell? ⟨B, 2, none⟩ = some c ∧ w.cell? ⟨B, 3, none⟩ = some d :=
  ⟨by simp [World.cell?, h], by simp [World.cell?, h], by simp [World.cell?, h], by simp [World.cell?, h]⟩
theorem cell1 {w : World} {B e : Nat} {a : Value} (h : w.heap[B]? = some (.cells #[a] e (0, 0))) : w.cell? ⟨B, 0, none⟩ = some a ∧ w.frozen? ⟨B, 0, none⟩ = false :=
  ⟨by simp [World.cell?, h], by simp [World.frozen?, h]⟩
theorem ups_step {n : Nat} {sup : Int → Int} {k : Nat} {a : Int} (h : 0 ≤ a ∧ a < n) : ups n sup (k + 1) a = ⟨a, h⟩ :: ups n sup k (sup a) := by simp [ups, h]
theorem ups_end {n : Nat} {sup : Int → Int} {k : Nat} {a : Int} (h : ¬(0 ≤ a ∧ a < n)) : ups n sup k a = [] := by cases k <;> simp [ups, h]
theorem there_any (w : World) (A : Option Addr) (n c : Nat) (v2 v3 v4 : Value) (a : Int) :
    Calls Try.prog 77 #[.agg #[.slice A n c, v2, v3, v4], .int .i64 a] w fun e w' => e = .returned (.bool (decide (0 ≤ a ∧ a < n))) ∧ w' = w.alloc (.cells #[.slice A n c, v2, v3, v4] 27) := by
  by_cases h0 : 0 ≤ a
  · have b0 : decide (0 ≤ a) = true := decide_eq_true h0
    go_enter Try.func77, Try.ntmps77
    go_wp2
    go_ret
    exact ⟨by simp [h0], rfl⟩
  · have b0 : decide (0 ≤ a) = false := decide_eq_false h0
    go_enter Try.func77, Try.ntmps77
    go_wp2
    go_ret
    exact ⟨by simp [h0], rfl⟩
theorem ups1_seq (n₀ m : Nat) (A : Option Addr) (n c : Nat) (v2 v3 v4 : Value) (sup : Int → Int) (a : Int) (Bw Ba : Nat) (hne : Bw ≠ Ba) (w : World) (hm : 1 ≤ m) (hn : n ≤ 4611686018427387904)
    (hw : w.heap[Bw]? = some (.cells #[.slice A n c, v2, v3, v4] 27 (0, 0))) (ha : w.heap[Ba]? = some (.cells #[.int .i64 a] 3 (0, 0))) (hn₀ : n₀ ≤ Ba) (hS : Sup n₀ w A n sup) :
    SeqC Fence.wide m Try.prog 95 #[.pointer (some ⟨Bw, 0, none⟩), .pointer (some ⟨Ba, 0, none⟩)] (fun x : Cl n => #[.int .i64 x.1]) (Kp n₀ Bw Ba) (fun xs => xs = ups n sup (n + 1) a) (fun pre => pre <+: ups n sup (n + 1) a) (n + 2) Ba w := by
  intro l J Jx W hW hJ hJx hY h0
  have hsz := (Array.getElem?_eq_some_iff.1 ha).1
  have hw1 := (hW.block _ (Array.getElem?_eq_some_iff.1 hw).1).trans hw
  have ha1 := (hW.block _ hsz).trans ha
  have hS1 := hS.below (hW.mono (by omega))
  refine callsIn_of_wp Try.func95 rfl trivial ?_ rfl
  simp only [Try.ntmps95, List.size_toArray, List.length_cons, List.length_nil, Nat.reduceAdd, Nat.reduceSub, Array.replicate_succ, Array.replicate_zero, List.push_toArray, List.append_toArray, List.nil_append, List.cons_append]
  gi_wp2
  gi_loopw [4] (fun v wr => ∃ (k : Nat) (pre : List (Cl n)) (x : Int), v = .int .i64 k ∧ k ≤ n + 1 ∧ pre.length = k ∧ ups n sup (n + 1) a = pre ++ ups n sup (n + 1 - k) x ∧ J pre wr ∧
      wr.heap[Bw]? = some (.cells #[.slice A n c, v2, v3, v4] 27 (0, 0)) ∧ wr.heap[Ba]? = some (.cells #[.int .i64 x] 3 (0, 0)) ∧ Sup n₀ wr A n sup)
    (fun v _ => n + 1 - (intOf v).toNat)
  case atStart => exact ⟨0, [], a, rfl, Nat.zero_le _, rfl, rfl, h0, hw1, ha1, hS1⟩
  case round =>
    obtain ⟨k, pre, x, rfl, hk, hl, hU, hJs, hw2, ha2, hS2⟩ := hrel
    obtain ⟨c0, c1, c2, c3⟩ := cells4 hw2
    obtain ⟨a0, af⟩ := cell1 ha2
    by_cases hx : 0 ≤ x ∧ x < n
    · have hd : decide (0 ≤ x ∧ x < n) = true := decide_eq_true hx
      by_cases hkn : k ≤ n
      · have hkd : decide ((k : Int) ≤ (n : Int)) = true := by simpa using hkn
        obtain ⟨ad, rfl, hlt, hcx⟩ := hS2 x hx.1 hx.2
        have hU2 : ups n sup (n + 1 - k) x = ⟨x, hx⟩ :: ups n sup (n + 1 - (k + 1)) (sup x) := by
          rw [show n + 1 - k = (n + 1 - (k + 1)) + 1 by omega]
          exact ups_step hx
        obtain ⟨fn, tmps, assign, body, hy, hR⟩ := hY pre ⟨x, hx⟩ _ (hJ.alloc (.cells #[.slice (some ad) n c, v2, v3, v4] 27) hJs) (by omega)
        have hw3 : (wr.alloc (.cells #[.slice (some ad) n c, v2, v3, v4] 27)).heap[Bw]? = some (.cells #[.slice (some ad) n c, v2, v3, v4] 27 (0, 0)) := (Below.heap_alloc wr _ _ (Array.getElem?_eq_some_iff.1 hw2).1).trans hw2
        have ha3 : (wr.alloc (.cells #[.slice (some ad) n c, v2, v3, v4] 27)).heap[Ba]? = some (.cells #[.int .i64 x] 3 (0, 0)) := (Below.heap_alloc wr _ _ (Array.getElem?_eq_some_iff.1 ha2).1).trans ha2
        have hS3 : Sup n₀ (wr.alloc (.cells #[.slice (some ad) n c, v2, v3, v4] 27)) (some ad) n sup := hS2.below ((Below.refl _ _).alloc (by have := (Array.getElem?_eq_some_iff.1 ha2).1; omega) _)
        obtain ⟨d0, d1, d2, d3⟩ := cells4 hw3
        obtain ⟨b0, bf⟩ := cell1 ha3
        gi_wp2_with (refine ⟨trivial, ?_⟩; gi_at_call 77; refine (callsIn_wide.2 (there_any _ _ _ _ _ _ _ _)).mono ?_; rintro e w' ⟨rfl, rfl⟩)
        refine hR.mono ?_
        rintro e W3 (⟨rfl, hJ3, hk3⟩ | ⟨rfl, hJx3⟩)
        · have hw4 := hk3.2.1 _ hw3
          have ha4 := hk3.2.2 _ ha3
          have hS4 := hS3.below hk3.1
          obtain ⟨ad2, had, hlt4, hx4⟩ := hS4 x hx.1 hx.2
          cases had
          obtain ⟨e0, e1, e2, e3⟩ := cells4 hw4
          obtain ⟨f0, ff⟩ := cell1 ha4
          have hx0 := hx.1
          have hx1 := hx.2
          gi_wp2
          refine ⟨⟨k + 1, pre ++ [⟨x, hx⟩], sup x, by simp, by omega, by simp; omega, by rw [hU, hU2]; simp, hJ.set _ hJ3, blk_far hw4 hne _, blk_put ha4 0 (.int .i64 (sup x)) rfl, hS4.below ((Below.refl _ _).setCell (p := ⟨Ba, 0, none⟩) hn₀ _)⟩, by simp [intOf]; omega⟩
        · gi_wp2
          refine bodyPost_ret (results_none rfl _ _ _) rfl ?_
          exact ⟨⟨_, rfl⟩, .inr ⟨pre ++ [⟨x, hx⟩], ⟨_, by rw [hU, hU2]; simp; rfl⟩, hJx3⟩⟩
      · obtain rfl : k = n + 1 := by omega
        have hkd : decide (((n + 1 : Nat) : Int) ≤ (n : Int)) = false := by simp; omega
        have hw3 : (wr.alloc (.cells #[.slice A n c, v2, v3, v4] 27)).heap[Bw]? = some (.cells #[.slice A n c, v2, v3, v4] 27 (0, 0)) := (Below.heap_alloc wr _ _ (Array.getElem?_eq_some_iff.1 hw2).1).trans hw2
        obtain ⟨d0, d1, d2, d3⟩ := cells4 hw3
        gi_wp2_with (refine ⟨trivial, ?_⟩; gi_at_call 77; refine (callsIn_wide.2 (there_any _ _ _ _ _ _ _ _)).mono ?_; rintro e w' ⟨rfl, rfl⟩)
        go_end0
        exact ⟨⟨_, rfl⟩, .inl ⟨pre, by rw [hU]; simp [ups], hJ.alloc _ hJs⟩⟩
    · have hd : decide (0 ≤ x ∧ x < n) = false := decide_eq_false hx
      have hw3 : (wr.alloc (.cells #[.slice A n c, v2, v3, v4] 27)).heap[Bw]? = some (.cells #[.slice A n c, v2, v3, v4] 27 (0, 0)) := (Below.heap_alloc wr _ _ (Array.getElem?_eq_some_iff.1 hw2).1).trans hw2
      obtain ⟨d0, d1, d2, d3⟩ := cells4 hw3
      gi_wp2_with (refine ⟨trivial, ?_⟩; gi_at_call 77; refine (callsIn_wide.2 (there_any _ _ _ _ _ _ _ _)).mono ?_; rintro e w' ⟨rfl, rfl⟩)
      go_end0
      exact ⟨⟨_, rfl⟩, .inl ⟨pre, by rw [hU, ups_end hx]; simp, hJ.alloc _ hJs⟩⟩
/-- The iterator's closure: its two variables are new. -/
theorem ups_any (w : World) (A : Option Addr) (n c : Nat) (A2 : Option Addr) (n2 c2 : Nat) (A3 : Option Addr) (n3 c3 : Nat) (A4 : Option Addr) (n4 c4 : Nat) (a : Int) :
    Calls Try.prog 76 #[.agg #[.slice A n c, .slice A2 n2 c2, .slice A3 n3 c3, .slice A4 n4 c4], .int .i64 a] w fun e w' =>
      e = .returned (.func (.func 95) #[] #[.pointer (some ⟨w.heap.size, 0, none⟩), .pointer (some ⟨w.heap.size + 1, 0, none⟩)]) ∧ w' = (w.alloc (.cells #[.slice A n c, .slice A2 n2 c2, .slice A3 n3 c3, .slice A4 n4 c4] 27)).alloc (.cells #[.int .i64 a] 3) := by
  go_enter Try.func76, Try.ntmps76
  go_wp2
  go_ret
  exact ⟨rfl, rfl⟩
/-- A row of interfaces' entries, as it is read here: whose each is. -/
def Ifs (n₀ : Nat) (W : World) (A : Option Addr) (xs : List Int) : Prop := ∀ i : Int, 0 ≤ i → i < xs.length → ∃ (ad : Addr) (A1 : Option Addr) (n1 c1 : Nat), A = some ad ∧ (ad.add (i.toNat * 2)).block < n₀ ∧ W.cell? (ad.add (i.toNat * 2)) = some (.int .i64 (xs.getD i.toNat 0)) ∧ W.cell? ⟨(ad.add (i.toNat * 2)).block, (ad.add (i.toNat * 2)).off + 1, none⟩ = some (.slice A1 n1 c1)
theorem Ifs.below {n₀ : Nat} {W W' : World} {A : Option Addr} {xs : List Int} (h : Ifs n₀ W A xs) (hb : Below n₀ W W') : Ifs n₀ W' A xs := fun i h0 h1 => by
  obtain ⟨ad, A1, n1, c1, hA, hl, hc, hd⟩ := h i h0 h1
  exact ⟨ad, A1, n1, c1, hA, hl, (hb.cell hl).trans hc, (hb.cell (p := ⟨(ad.add (i.toNat * 2)).block, (ad.add (i.toNat * 2)).off + 1, none⟩) hl).trans hd⟩
theorem from1_any (w : World) (x : Int) (A1 : Option Addr) (n1 c1 : Nat) (Bb : Nat) (b : Int) (hb : w.heap[Bb]? = some (.cells #[.int .i64 b] 3 (0, 0))) :
    Calls Try.prog 79 #[.agg #[.int .i64 x, .slice A1 n1 c1], .pointer (some ⟨Bb, 0, none⟩)] w fun e w' => e = .returned (.bool (x == b)) ∧ w' = w.alloc (.cells #[.int .i64 x, .slice A1 n1 c1] 109) := by
  have hb3 : (w.alloc (.cells #[.int .i64 x, .slice A1 n1 c1] 109)).heap[Bb]? = some (.cells #[.int .i64 b] 3 (0, 0)) := (Below.heap_alloc w _ _ (Array.getElem?_eq_some_iff.1 hb).1).trans hb
  obtain ⟨d0, df⟩ := cell1 hb3
  go_enter Try.func79, Try.ntmps79
  go_wp2
  go_ret
  exact ⟨rfl, rfl⟩
set_option maxRecDepth 100000 in
theorem index_any (n₀ : Nat) (w : World) (A : Option Addr) (xs : List Int) (c : Nat) (hx : Ifs n₀ w A xs) (hlen : xs.length ≤ 9223372036854775807) (Bb : Nat) (b : Int) (hb : w.heap[Bb]? = some (.cells #[.int .i64 b] 3 (0, 0))) (hn : n₀ ≤ w.heap.size) :
    Calls Try.prog 51 #[.slice A xs.length c, .func (.func 79) #[] #[.pointer (some ⟨Bb, 0, none⟩)]] w fun e w' => (∃ r : Int, e = .returned (.int .i64 r) ∧ decide (0 ≤ r) = decide (b ∈ xs)) ∧ Below w.heap.size w w' := by
  go_enter Try.func51, Try.ntmps51
  go_wp2
  go_loopg [8] xs.length (fun q v wr => ∃ j : Nat, j + q ≤ xs.length ∧ xs.length ≤ j + q ∧ v = .int .i64 j ∧ Below w.heap.size w wr ∧ ∀ i, i < j → xs.getD i 0 ≠ b)
  case atStart => exact ⟨0, by omega, by omega, rfl, Below.refl _ _, fun i h => by omega⟩
  case round =>
    obtain ⟨j, hj1, hj2, rfl, hB, hnone⟩ := hrel
    by_cases hlt : 0 < gk
    · have hi : (j : Int) < (xs.length : Int) := by omega
      have hj0 : (0 : Int) ≤ (j : Int) := by omega
      have hbr := (hB.block _ (Array.getElem?_eq_some_iff.1 hb).1).trans hb
      obtain ⟨ad, A1, n1, c1, rfl, hl, hc, hd⟩ := (hx.below (hB.mono hn)) (j : Int) hj0 hi
      simp only [Int.toNat_natCast] at hl hc hd
      have hm : xs.getD j 0 = xs[j]'(by omega) := by simp [List.getD_eq_getElem?_getD, List.getElem?_eq_getElem (show j < xs.length by omega)]
      have hB2 : ∀ o : Obj, Below w.heap.size w (wr.alloc o) := fun o => hB.alloc hB.size _
      have hmem : xs.getD j 0 ∈ xs := by rw [hm]; exact List.getElem_mem _
      generalize hxj : xs.getD j 0 = x at *
      by_cases he : x = b
      · subst he
        have hbb : (x == x) = true := by simp
        go_wp2_with (go_at_call 79; refine (from1_any _ _ _ _ _ Bb x hbr).mono ?_; rintro e w' ⟨rfl, rfl⟩)
        go_ret
        exact ⟨⟨j, rfl, by simp [hmem]⟩, hB2 _⟩
      · have hbb : (x == b) = false := beq_eq_false_iff_ne.2 he
        go_wp2_with (go_at_call 79; refine (from1_any _ _ _ _ _ Bb b hbr).mono ?_; rintro e w' ⟨rfl, rfl⟩)
        go_roundg (gk - 1)
        case rel =>
          refine ⟨j + 1, by omega, by omega, by go_num, hB2 _, fun i hi => ?_⟩
          by_cases e : i = j
          · subst e; rw [hxj]; exact he
          · exact hnone i (by omega)
        case measure => omega
    · have hi : ¬ (j : Int) < (xs.length : Int) := by omega
      go_wp2
      go_ret
      refine ⟨⟨-1, rfl, ?_⟩, hB⟩
      have : b ∉ xs := fun hm => by
        obtain ⟨i, hi, he⟩ := List.getElem_of_mem hm
        exact hnone i (by omega) (by simp [List.getD_eq_getElem?_getD, hi, he])
      simp [this]
/-- Is one of a row of interfaces' entries b's? -/
theorem contains_any (n₀ : Nat) (w : World) (A : Option Addr) (xs : List Int) (c : Nat) (hx : Ifs n₀ w A xs) (hlen : xs.length ≤ 9223372036854775807) (Bb : Nat) (b : Int) (hb : w.heap[Bb]? = some (.cells #[.int .i64 b] 3 (0, 0))) (hn : n₀ ≤ w.heap.size) :
    Calls Try.prog 78 #[.slice A xs.length c, .func (.func 79) #[] #[.pointer (some ⟨Bb, 0, none⟩)]] w fun e w' => e = .returned (.bool (decide (b ∈ xs))) ∧ Below w.heap.size w w' := by
  go_enter Try.func78, Try.ntmps78
  go_wp2_with (go_at_call 51; refine (index_any n₀ _ _ xs _ hx hlen Bb b hb hn).mono ?_; rintro e w' ⟨⟨r, rfl, hr⟩, hB⟩)
  go_ret
  exact ⟨rfl, hB⟩
/-- The classes' rows of interfaces. -/
def IfsAt (n₀ : Nat) (W : World) (A : Option Addr) (n : Nat) (ifs : Int → List Int) : Prop := ∀ i : Int, 0 ≤ i → i < n → ∃ (ad : Addr) (A3 : Option Addr) (c3 : Nat), A = some ad ∧ (ad.add (i.toNat * 7)).block < n₀ ∧ W.cell? ⟨(ad.add (i.toNat * 7)).block, (ad.add (i.toNat * 7)).off + 3, none⟩ = some (.slice A3 (ifs i).length c3) ∧ Ifs n₀ W A3 (ifs i)
theorem IfsAt.below {n₀ : Nat} {W W' : World} {A : Option Addr} {n : Nat} {ifs : Int → List Int} (h : IfsAt n₀ W A n ifs) (hb : Below n₀ W W') : IfsAt n₀ W' A n ifs := fun i h0 h1 => by
  obtain ⟨ad, A3, c3, hA, hl, hc, hd⟩ := h i h0 h1
  exact ⟨ad, A3, c3, hA, hl, (hb.cell (p := ⟨(ad.add (i.toNat * 7)).block, (ad.add (i.toNat * 7)).off + 3, none⟩) hl).trans hc, hd.below hb⟩
/-- Is a class b, or one with b among its interfaces? -/
def hit (ifs : Int → List Int) (b x : Int) : Bool := x == b || decide (b ∈ ifs x)
/-- Does a class come from another one? -/
def fromP (n : Nat) (sup : Int → Int) (ifs : Int → List Int) (a b : Int) : Bool := decide (0 ≤ b ∧ b < n) && (ups n sup (n + 1) a).any (fun x => hit ifs b x.1)
theorem keepO {B : Nat} {W W' : World} {row : Option Nat} (hg : W.grownBy W' row) (hr : ∀ r, row = some r → B ≤ r ∧ ∃ o : Obj, W.heap[r]? = some o ∧ o.isCells = false) {k : Nat} {o : Obj} (hk : W.heap[k]? = some o) (hc : o.isCells = true) : W'.heap[k]? = some o :=
  (hg.block _ (Array.getElem?_eq_some_iff.1 hk).1 (fun e => by obtain ⟨_, o', ho, hn⟩ := hr _ e.symm; rw [hk] at ho; cases ho; rw [hc] at hn; cases hn)).trans hk
theorem keepC {c : Nat} {W W' : World} {row : Option Nat} (hg : W.grownBy W' row) (hr : ∀ r, row = some r → r = c) {k : Nat} {o : Obj} (hk : W.heap[k]? = some o) (hne : k ≠ c) : W'.heap[k]? = some o :=
  (hg.block _ (Array.getElem?_eq_some_iff.1 hk).1 (fun e => hne (hr _ e.symm))).trans hk
theorem kp_t {n₀ Bw Ba : Nat} {X Y Z : World} (h : Kp n₀ Bw Ba X Y) (k : Kp n₀ Bw Ba Y Z) : Kp n₀ Bw Ba X Z := ⟨h.1.trans k.1, fun o ho => k.2.1 o (h.2.1 o ho), fun o ho => k.2.2 o (h.2.2 o ho)⟩
theorem kp_b {n₀ Bw Ba : Nat} {w : World} (hw : Bw < w.heap.size) (ha : Ba < w.heap.size) (hn : n₀ ≤ w.heap.size) (W : World) (l : Nat) (o o' : Obj) (hl : w.heap.size ≤ l) (h : W.heap[l]? = some o) : Kp n₀ Bw Ba W (W.putObj l o') :=
  ⟨(Below.refl n₀ W).grown (grownBy_putObj' W l o') (by have := (Array.getElem?_eq_some_iff.1 h).1; omega) (fun k e => by cases e; omega), fun o2 h2 => (World.putObj_heap_other (by omega)).trans h2, fun o2 h2 => (World.putObj_heap_other (by omega)).trans h2⟩
theorem keepsB {W W' : World} (h : Below W.heap.size W W') : KeepsOthers W W' := ⟨h.size, fun k o hk _ => (h.block _ (Array.getElem?_eq_some_iff.1 hk).1).trans hk⟩
/-- Six new blocks. -/
structure Six (w : World) (o0 o1 o2 o3 o4 o5 : Obj) (W : World) : Prop where
  z : W.heap.size = w.heap.size + 6
  b0 : W.heap[w.heap.size]? = some o0
  b1 : W.heap[w.heap.size + 1]? = some o1
  b2 : W.heap[w.heap.size + 1 + 1]? = some o2
  b4 : W.heap[w.heap.size + 1 + 1 + 1 + 1]? = some o4
  b5 : W.heap[w.heap.size + 1 + 1 + 1 + 1 + 1]? = some o5
  bl : Below w.heap.size w W
theorem six (w : World) (o0 o1 o2 o3 o4 o5 : Obj) : Six w o0 o1 o2 o3 o4 o5 ((((((w.alloc o0).alloc o1).alloc o2).alloc o3).alloc o4).alloc o5) := by
  refine ⟨by simp, ?_, ?_, ?_, ?_, ?_, ?_⟩
  · have h := World.alloc_heap_new w o0
    exact (Below.heap_alloc _ _ _ (by simp <;> omega)).trans ((Below.heap_alloc _ _ _ (by simp <;> omega)).trans ((Below.heap_alloc _ _ _ (by simp <;> omega)).trans ((Below.heap_alloc _ _ _ (by simp <;> omega)).trans ((Below.heap_alloc _ _ _ (by simp)).trans h))))
  · have h := World.alloc_heap_new (w.alloc o0) o1
    rw [World.size_alloc] at h
    exact (Below.heap_alloc _ _ _ (by simp <;> omega)).trans ((Below.heap_alloc _ _ _ (by simp <;> omega)).trans ((Below.heap_alloc _ _ _ (by simp <;> omega)).trans ((Below.heap_alloc _ _ _ (by simp)).trans h)))
  · have h := World.alloc_heap_new ((w.alloc o0).alloc o1) o2
    rw [World.size_alloc, World.size_alloc] at h
    exact (Below.heap_alloc _ _ _ (by simp <;> omega)).trans ((Below.heap_alloc _ _ _ (by simp <;> omega)).trans ((Below.heap_alloc _ _ _ (by simp)).trans h))
  · have h := World.alloc_heap_new ((((w.alloc o0).alloc o1).alloc o2).alloc o3) o4
    rw [World.size_alloc, World.size_alloc, World.size_alloc, World.size_alloc] at h
    exact (Below.heap_alloc _ _ _ (by simp)).trans h
  · have h := World.alloc_heap_new (((((w.alloc o0).alloc o1).alloc o2).alloc o3).alloc o4) o5
    rw [World.size_alloc, World.size_alloc, World.size_alloc, World.size_alloc, World.size_alloc] at h
    exact h
  · exact ((((((Below.refl _ _).alloc (Nat.le_refl _) _).alloc (by simp) _).alloc (by simp <;> omega) _).alloc (by simp <;> omega) _).alloc (by simp <;> omega) _).alloc (by simp <;> omega) _
section
variable (w : World) (A : Option Addr) (n c : Nat) (A2 : Option Addr) (n2 c2 : Nat) (A3 : Option Addr) (n3 c3 : Nat) (A4 : Option Addr) (n4 c4 : Nat) (sup : Int → Int) (ifs : Int → List Int) (a b : Int)
set_option maxRecDepth 100000 in
theorem from_any (hn : n ≤ 4611686018427387904) (hS : Sup w.heap.size w A n sup) (hI : IfsAt w.heap.size w A n ifs) (hL : ∀ i, (ifs i).length ≤ 9223372036854775807) :
    Calls Try.prog 41 #[.agg #[.slice A n c, .slice A2 n2 c2, .slice A3 n3 c3, .slice A4 n4 c4], .int .i64 a, .int .i64 b] w fun e w' => e = .returned (.bool (fromP n sup ifs a b)) ∧ Below w.heap.size w w' := by
  refine (callsIn_wide (n := 3)).1 ?_
  refine callsIn_of_wp_marks Try.func41 rfl trivial ?_ rfl
  simp only [Try.ntmps41, List.size_toArray, List.length_cons, List.length_nil, Nat.reduceAdd, Nat.reduceSub, Array.replicate_succ, Array.replicate_zero, List.push_toArray, List.append_toArray, List.nil_append, List.cons_append]
  by_cases hb : 0 ≤ b ∧ b < n
  · have hd : decide (0 ≤ b ∧ b < n) = true := decide_eq_true hb
    gi_wp2_with (first | (refine ⟨trivial, ?_⟩; gi_at_call 77; refine (callsIn_wide.2 (there_any _ _ _ _ _ _ _ _)).mono ?_; rintro e w' ⟨rfl, rfl⟩) | (refine ⟨trivial, ?_⟩; gi_at_call 76; refine (callsIn_wide.2 (ups_any _ _ _ _ _ _ _ _ _ _ _ _ _ _)).mono ?_; rintro e w' ⟨rfl, rfl⟩))
    have H := six w (.cells #[.slice A n c, .slice A2 n2 c2, .slice A3 n3 c3, .slice A4 n4 c4] 27) (.cells #[.int .i64 b] 3) (.cells #[.bool false] 4) (.cells #[.slice A n c, .slice A2 n2 c2, .slice A3 n3 c3, .slice A4 n4 c4] 27) (.cells #[.slice A n c, .slice A2 n2 c2, .slice A3 n3 c3, .slice A4 n4 c4] 27) (.cells #[.int .i64 a] 3)
    generalize ((((((w.alloc (.cells #[.slice A n c, .slice A2 n2 c2, .slice A3 n3 c3, .slice A4 n4 c4] 27)).alloc (.cells #[.int .i64 b] 3)).alloc (.cells #[.bool false] 4)).alloc (.cells #[.slice A n c, .slice A2 n2 c2, .slice A3 n3 c3, .slice A4 n4 c4] 27)).alloc (.cells #[.slice A n c, .slice A2 n2 c2, .slice A3 n3 c3, .slice A4 n4 c4] 27)).alloc (.cells #[.int .i64 a] 3)) = WR at H ⊢
    have hz := H.z
    refine range_c (n := 3) rfl (by decide) (gf := 95) (lb := #[.pointer (some ⟨w.heap.size + 1 + 1 + 1 + 1, 0, none⟩), .pointer (some ⟨w.heap.size + 1 + 1 + 1 + 1 + 1, 0, none⟩)]) (c := w.heap.size + 1 + 1 + 1 + 1 + 1) rfl trivial (enters_of Try.func95 (by kernel_rfl) rfl) (by omega)
      (ups1_seq w.heap.size 2 A n c _ _ _ sup a (w.heap.size + 1 + 1 + 1 + 1) _ (by omega) WR (by decide) hn H.b4 H.b5 (by omega) (hS.below H.bl)) kp_t (kp_b (by omega) (by omega) (by omega)) (Below.refl _ _) (fun _ => rfl)
      (fun pre W => W.heap[w.heap.size]? = some (.cells #[.slice A n c, .slice A2 n2 c2, .slice A3 n3 c3, .slice A4 n4 c4] 27) ∧ W.heap[w.heap.size + 1]? = some (.cells #[.int .i64 b] 3) ∧ W.heap[w.heap.size + 1 + 1]? = some (.cells #[.bool false] 4) ∧ Below w.heap.size w W ∧ pre.any (fun x => hit ifs b x.1) = false)
      (fun pre W => W.heap[w.heap.size + 1 + 1]? = some (.cells #[.bool true] 4) ∧ Below w.heap.size w W ∧ pre.any (fun x => hit ifs b x.1) = true)
      (fun s X Y row hs hg hr => ⟨keepO hg hr hs.1 rfl, keepO hg hr hs.2.1 rfl, keepO hg hr hs.2.2.1 rfl, hs.2.2.2.1.grown hg hs.2.2.2.1.size (fun k e => by have := (hr k e).1; omega), hs.2.2.2.2⟩)
      (fun s X Y row hs hg hr => ⟨keepO hg hr hs.1 rfl, hs.2.1.grown hg hs.2.1.size (fun k e => by have := (hr k e).1; omega), hs.2.2⟩)
      (fun s X Y row hs hg hr => ⟨keepC hg hr hs.1 (by omega), keepC hg hr hs.2.1 (by omega), keepC hg hr hs.2.2.1 (by omega), hs.2.2.2.1.grown hg hs.2.2.2.1.size (fun k e => by have := hr k e; omega), hs.2.2.2.2⟩)
      (fun s X Y row hs hg hr => ⟨keepC hg hr hs.1 (by omega), hs.2.1.grown hg hs.2.1.size (fun k e => by have := hr k e; omega), hs.2.2⟩)
      ⟨H.b0, H.b1, H.b2, H.bl, rfl⟩
      (fun x => { tmps := #[.agg #[.slice A n c, .slice A2 n2 c2, .slice A3 n3 c3, .slice A4 n4 c4], .int .i64 a, .int .i64 b, .pointer (some ⟨w.heap.size, 0, none⟩), undef, .pointer (some ⟨w.heap.size + 1, 0, none⟩), .pointer (some ⟨w.heap.size + 1 + 1, 0, none⟩), .int .i64 x.1, .agg #[.slice A n c, .slice A2 n2 c2, .slice A3 n3 c3, .slice A4 n4 c4], .int .i64 b, .bool true, .bool false, .agg #[.slice A n c, .slice A2 n2 c2, .slice A3 n3 c3, .slice A4 n4 c4], .int .i64 a, .func (.func 95) #[] #[.pointer (some ⟨w.heap.size + 1 + 1 + 1 + 1, 0, none⟩), .pointer (some ⟨w.heap.size + 1 + 1 + 1 + 1 + 1, 0, none⟩)], .int .i64 x.1, undef, undef, undef, undef, undef, undef, undef, undef, undef, undef, undef, undef, undef], defers := [] }) ?assign ?body ?done ?stop
    case assign =>
      intro l x W K hK
      gi_wp2
      exact hK
    case body =>
      rintro l pre ⟨x, hx⟩ W ⟨h0, h1, h2, hB, hn0⟩ _
      obtain ⟨c0, c1, c2, c3⟩ := cells4 h0
      obtain ⟨d0, df⟩ := cell1 h1
      obtain ⟨e0, ef⟩ := cell1 h2
      have hx0 := hx.1
      have hx1 := hx.2
      obtain ⟨ad, A5, c5, rfl, hl5, hc5, hi5⟩ := (hI.below hB) x hx0 hx1
      dsimp only
      by_cases he : x = b
      · have hbb : (x == b) = true := by simp [he]
        gi_wp2_with (refine ⟨trivial, ?_⟩)
        exact ⟨KeepsOthers.setCell _ _ _, rfl, blk_put h2 0 (.bool true) rfl, hB.setCell (p := ⟨w.heap.size + 1 + 1, 0, none⟩) (by simp; omega) _, by simp [hit, he]⟩
      · have hbb : (x == b) = false := beq_eq_false_iff_ne.2 he
        by_cases hm : b ∈ ifs x
        · have hmd : decide (b ∈ ifs x) = true := decide_eq_true hm
          gi_wp2_with (refine ⟨trivial, ?_⟩; gi_at_call 78; refine (CallsIn.inRound l (callsIn_wide.2 (contains_any w.heap.size _ _ (ifs x) _ hi5 (hL x) (w.heap.size + 1) b h1 hB.size))).mono ?_; rintro e w' ⟨rfl, hBc⟩; have h2' := (hBc.block _ (Array.getElem?_eq_some_iff.1 h2).1).trans h2; obtain ⟨g0, gf⟩ := cell1 h2')
          exact ⟨(keepsB hBc).trans (KeepsOthers.setCell _ _ _), rfl, blk_put h2' 0 (.bool true) rfl, (hB.trans (hBc.mono hB.size)).setCell (p := ⟨w.heap.size + 1 + 1, 0, none⟩) (by simp; omega) _, by simp [hit, hm]⟩
        · have hmd : decide (b ∈ ifs x) = false := decide_eq_false hm
          gi_wp2_with (refine ⟨trivial, ?_⟩; gi_at_call 78; refine (CallsIn.inRound l (callsIn_wide.2 (contains_any w.heap.size _ _ (ifs x) _ hi5 (hL x) (w.heap.size + 1) b h1 hB.size))).mono ?_; rintro e w' ⟨rfl, hBc⟩)
          have kp : ∀ {k : Nat} {o : Obj}, W.heap[k]? = some o → w'.heap[k]? = some o := fun h => (hBc.block _ (Array.getElem?_eq_some_iff.1 h).1).trans h
          exact ⟨keepsB hBc, ⟨hBc.mono hB.size, fun o h => kp h, fun o h => kp h⟩, kp h0, kp h1, kp h2, hB.trans (hBc.mono hB.size), by simp [hn0, hit, he, hm]; simpa [hit] using hn0⟩
    case done =>
      rintro D ys W hD rfl ⟨h0, h1, h2, hB, hn0⟩ hK
      obtain ⟨e0, ef⟩ := cell1 h2
      gi_wp2
      have hK2 := (KeepsOthers.setCell W ⟨w.heap.size + 1 + 1, 0, none⟩ (.bool false)).same D _ hK rfl
      refine ⟨by simp, .inl ⟨_, _, rfl, run_takeDeferred hK2, ?_⟩⟩
      have h3 : ((W.setCell ⟨w.heap.size + 1 + 1, 0, none⟩ (.bool false)).putObj D (.deferred none)).heap[w.heap.size + 1 + 1]? = some (.cells #[.bool false] 4) := (World.putObj_heap_other (by omega)).trans (blk_put h2 0 (.bool false) rfl)
      obtain ⟨g0, gf⟩ := cell1 h3
      have hB2 := hB.setCell (p := ⟨w.heap.size + 1 + 1, 0, none⟩) (by simp; omega) (.bool false)
      refine ⟨.bool false, by simp [results, Try.f41, go_sem, g0], ?_, hB2.trans (belowK_b (w := w) (Nat.le_refl _) _ D _ _ (by omega) hK2 rfl rfl)⟩
      simp only [fromP, hd, hn0]
      rfl
    case stop =>
      rintro D pre W hD hp ⟨h2, hB, hn1⟩ hK
      gi_wp2
      refine ⟨by simp, .inl ⟨_, _, rfl, run_takeDeferred hK, ?_⟩⟩
      have h3 : (W.putObj D (.deferred none)).heap[w.heap.size + 1 + 1]? = some (.cells #[.bool true] 4) := (World.putObj_heap_other (by omega)).trans h2
      obtain ⟨g0, gf⟩ := cell1 h3
      refine ⟨.bool true, by simp [results, Try.f41, go_sem, g0], ?_, hB.trans (belowK_b (w := w) (Nat.le_refl _) W D _ _ (by omega) hK rfl rfl)⟩
      have ht : (ups n sup (n + 1) a).any (fun x => hit ifs b x.1) = true := by
        obtain ⟨q, hq⟩ := hp
        rw [← hq, List.any_append, hn1]; rfl
      simp only [fromP, hd, ht]
      rfl
  · have hd : decide (0 ≤ b ∧ b < n) = false := decide_eq_false hb
    gi_wp2_with (refine ⟨trivial, ?_⟩; gi_at_call 77; refine (callsIn_wide.2 (there_any _ _ _ _ _ _ _ _)).mono ?_; rintro e w' ⟨rfl, rfl⟩)
    refine ⟨.bool false, by simp [results, Try.f41, go_sem], by simp only [fromP, hd]; rfl, ?_⟩
    exact ((((Below.refl _ _).alloc (Nat.le_refl _) _).alloc (by simp) _).alloc (by simp <;> omega) _).alloc (by simp <;> omega) _
end
end Go.Proofs.Ytjknnifcbcdjiaa.Ups
