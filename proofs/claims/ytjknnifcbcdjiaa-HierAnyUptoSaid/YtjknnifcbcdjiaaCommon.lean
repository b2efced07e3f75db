/- hier.Common: the class of both. -/
import Derived.Test.YtjknnifcbcdjiaaUps
set_option linter.unusedVariables false
set_option linter.unusedSimpArgs false
namespace Go.Proofs.Ytjknnifcbcdjiaa.Ups
open Go.RowKit Go.Shelf Go.Proofs.Ytjknnifcbcdjiaa.RangeC Go.Proofs.YtjknnifcbcdjiaaW.PrintWords
attribute [local go_sem] Oper.semAt_some
/-- The classes' flags. -/
def Fl (n₀ : Nat) (W : World) (A : Option Addr) (n : Nat) (fl : Int → Int) : Prop := ∀ i : Int, 0 ≤ i → i < n → ∃ ad : Addr, A = some ad ∧ (ad.add (i.toNat * 7)).block < n₀ ∧ W.cell? ⟨(ad.add (i.toNat * 7)).block, (ad.add (i.toNat * 7)).off + 1, none⟩ = some (.int .u8 (fl i))
theorem Fl.below {n₀ : Nat} {W W' : World} {A : Option Addr} {n : Nat} {fl : Int → Int} (h : Fl n₀ W A n fl) (hb : Below n₀ W W') : Fl n₀ W' A n fl := fun i h0 h1 => by
  obtain ⟨ad, hA, hl, hc⟩ := h i h0 h1
  exact ⟨ad, hA, hl, (hb.cell (p := ⟨(ad.add (i.toNat * 7)).block, (ad.add (i.toNat * 7)).off + 1, none⟩) hl).trans hc⟩
/-- Is a class an interface? -/
def isI (fl : Int → Int) (a : Int) : Bool := bits .and .u8 (fl a) 1 != 0
theorem iface_any (n₀ : Nat) (w : World) (A : Option Addr) (n c : Nat) (A2 : Option Addr) (n2 c2 : Nat) (A3 : Option Addr) (n3 c3 : Nat) (A4 : Option Addr) (n4 c4 : Nat) (a : Int) (fl : Int → Int) (hF : Fl n₀ w A n fl) (hn : n₀ ≤ w.heap.size) (h0 : 0 ≤ a) (h1 : a < n) :
    Calls Try.prog 80 #[.agg #[.slice A n c, .slice A2 n2 c2, .slice A3 n3 c3, .slice A4 n4 c4], .int .i64 a] w fun e w' => e = .returned (.bool (isI fl a)) ∧ w' = w.alloc (.cells #[.slice A n c, .slice A2 n2 c2, .slice A3 n3 c3, .slice A4 n4 c4] 27) := by
  obtain ⟨ad, rfl, hl, hc⟩ := (hF.below (((Below.refl _ w).alloc hn (.cells #[.slice A n c, .slice A2 n2 c2, .slice A3 n3 c3, .slice A4 n4 c4] 27)))) a h0 h1
  go_enter Try.func80, Try.ntmps80
  go_wp2
  go_ret
  exact ⟨rfl, rfl⟩
theorem Sup.mono {n₀ n₁ : Nat} {W : World} {A : Option Addr} {n : Nat} {sup : Int → Int} (h : Sup n₀ W A n sup) (hn : n₀ ≤ n₁) : Sup n₁ W A n sup := fun i h0 h1 => by
  obtain ⟨ad, hA, hl, hc⟩ := h i h0 h1
  exact ⟨ad, hA, Nat.lt_of_lt_of_le hl hn, hc⟩
theorem Ifs.mono {n₀ n₁ : Nat} {W : World} {A : Option Addr} {xs : List Int} (h : Ifs n₀ W A xs) (hn : n₀ ≤ n₁) : Ifs n₁ W A xs := fun i h0 h1 => by
  obtain ⟨ad, A1, n1, c1, hA, hl, hc⟩ := h i h0 h1
  exact ⟨ad, A1, n1, c1, hA, Nat.lt_of_lt_of_le hl hn, hc⟩
theorem IfsAt.mono {n₀ n₁ : Nat} {W : World} {A : Option Addr} {n : Nat} {ifs : Int → List Int} (h : IfsAt n₀ W A n ifs) (hn : n₀ ≤ n₁) : IfsAt n₁ W A n ifs := fun i h0 h1 => by
  obtain ⟨ad, A3, c3, hA, hl, hc, hd⟩ := h i h0 h1
  exact ⟨ad, A3, c3, hA, Nat.lt_of_lt_of_le hl hn, hc, hd.mono hn⟩
/-- Three new blocks, and more. -/
structure Pre3 (w : World) (o0 o1 o2 : Obj) (W : World) : Prop where
  b0 : W.heap[w.heap.size]? = some o0
  b1 : W.heap[w.heap.size + 1]? = some o1
  b2 : W.heap[w.heap.size + 1 + 1]? = some o2
  bl : Below w.heap.size w W
theorem Pre3.alloc {w : World} {o0 o1 o2 : Obj} {W : World} (h : Pre3 w o0 o1 o2 W) (o : Obj) : Pre3 w o0 o1 o2 (W.alloc o) :=
  ⟨(Below.heap_alloc _ _ _ (Array.getElem?_eq_some_iff.1 h.b0).1).trans h.b0, (Below.heap_alloc _ _ _ (Array.getElem?_eq_some_iff.1 h.b1).1).trans h.b1, (Below.heap_alloc _ _ _ (Array.getElem?_eq_some_iff.1 h.b2).1).trans h.b2, h.bl.alloc h.bl.size _⟩
theorem Pre3.new (w : World) (o0 o1 o2 : Obj) : Pre3 w o0 o1 o2 (((w.alloc o0).alloc o1).alloc o2) := by
  refine ⟨?_, ?_, ?_, (((Below.refl _ _).alloc (Nat.le_refl _) _).alloc (by simp) _).alloc (by simp <;> omega) _⟩
  · exact (Below.heap_alloc _ _ _ (by simp <;> omega)).trans ((Below.heap_alloc _ _ _ (by simp)).trans (World.alloc_heap_new w o0))
  · have h := World.alloc_heap_new (w.alloc o0) o1
    rw [World.size_alloc] at h
    exact (Below.heap_alloc _ _ _ (by simp)).trans h
  · have h := World.alloc_heap_new ((w.alloc o0).alloc o1) o2
    rw [World.size_alloc, World.size_alloc] at h
    exact h
/-- The class of both. -/
def comP (n : Nat) (sup : Int → Int) (ifs : Int → List Int) (fl : Int → Int) (a b : Int) : Int :=
  if ¬(0 ≤ a ∧ a < n) ∨ ¬(0 ≤ b ∧ b < n) then -1 else if isI fl a = true ∨ isI fl b = true then 0
  else match (ups n sup (n + 1) a).find? (fun x => fromP n sup ifs b x.1) with
    | some x => x.1
    | none => 0
section
variable (w : World) (A : Option Addr) (n c : Nat) (A2 : Option Addr) (n2 c2 : Nat) (A3 : Option Addr) (n3 c3 : Nat) (A4 : Option Addr) (n4 c4 : Nat) (sup : Int → Int) (ifs : Int → List Int) (fl : Int → Int) (a b : Int)
set_option maxRecDepth 100000 in
theorem common_any (hn : n ≤ 4611686018427387904) (hS : Sup w.heap.size w A n sup) (hI : IfsAt w.heap.size w A n ifs) (hF : Fl w.heap.size w A n fl) (hL : ∀ i, (ifs i).length ≤ 9223372036854775807) :
    Calls Try.prog 42 #[.agg #[.slice A n c, .slice A2 n2 c2, .slice A3 n3 c3, .slice A4 n4 c4], .int .i64 a, .int .i64 b] w fun e w' => e = .returned (.int .i64 (comP n sup ifs fl a b)) ∧ Below w.heap.size w w' := by
  refine (callsIn_wide (n := 3)).1 ?_
  refine callsIn_of_wp_marks Try.func42 rfl trivial ?_ rfl
  simp only [Try.ntmps42, List.size_toArray, List.length_cons, List.length_nil, Nat.reduceAdd, Nat.reduceSub, Array.replicate_succ, Array.replicate_zero, List.push_toArray, List.append_toArray, List.nil_append, List.cons_append]
  by_cases ha : 0 ≤ a ∧ a < n
  · have hda : decide (0 ≤ a ∧ a < n) = true := decide_eq_true ha
    by_cases hb : 0 ≤ b ∧ b < n
    · have hdb : decide (0 ≤ b ∧ b < n) = true := decide_eq_true hb
      by_cases fa : isI fl a = true
      · gi_wp2_with (first | (refine ⟨trivial, ?_⟩; gi_at_call 77; refine (callsIn_wide.2 (there_any _ _ _ _ _ _ _ _)).mono ?_; rintro e w' ⟨rfl, rfl⟩) | (refine ⟨trivial, ?_⟩; gi_at_call 80; refine (callsIn_wide.2 (iface_any w.heap.size _ _ _ _ _ _ _ _ _ _ _ _ _ _ fl (hF.below (by repeat (first | exact Below.refl _ _ | (refine Below.alloc ?_ (by simp <;> omega) _) | (refine Below.setCell ?_ (by simp <;> omega) _)))) (by simp <;> omega) (by omega) (by omega))).mono ?_; rintro e w' ⟨rfl, rfl⟩) | (refine ⟨trivial, ?_⟩))
        refine ⟨.int .i64 0, by simp [results, Try.f42, go_sem], by simp only [comP, ha, hb, fa]; rfl, ?_⟩
        repeat (first | exact Below.refl _ _ | (refine Below.alloc ?_ (by simp <;> omega) _) | (refine Below.setCell ?_ (by simp <;> omega) _))
      · have fa' : isI fl a = false := by simpa using fa
        by_cases fb : isI fl b = true
        · gi_wp2_with (first | (refine ⟨trivial, ?_⟩; gi_at_call 77; refine (callsIn_wide.2 (there_any _ _ _ _ _ _ _ _)).mono ?_; rintro e w' ⟨rfl, rfl⟩) | (refine ⟨trivial, ?_⟩; gi_at_call 80; refine (callsIn_wide.2 (iface_any w.heap.size _ _ _ _ _ _ _ _ _ _ _ _ _ _ fl (hF.below (by repeat (first | exact Below.refl _ _ | (refine Below.alloc ?_ (by simp <;> omega) _) | (refine Below.setCell ?_ (by simp <;> omega) _)))) (by simp <;> omega) (by omega) (by omega))).mono ?_; rintro e w' ⟨rfl, rfl⟩) | (refine ⟨trivial, ?_⟩))
          refine ⟨.int .i64 0, by simp [results, Try.f42, go_sem], by simp only [comP, ha, hb, fa', fb]; rfl, ?_⟩
          repeat (first | exact Below.refl _ _ | (refine Below.alloc ?_ (by simp <;> omega) _) | (refine Below.setCell ?_ (by simp <;> omega) _))
        · have fb' : isI fl b = false := by simpa using fb
          have H := ((((Pre3.new w (.cells #[.slice A n c, .slice A2 n2 c2, .slice A3 n3 c3, .slice A4 n4 c4] 27) (.cells #[.int .i64 b] 3) (.cells #[.int .i64 0] 3)).alloc (.cells #[.slice A n c, .slice A2 n2 c2, .slice A3 n3 c3, .slice A4 n4 c4] 27)).alloc (.cells #[.slice A n c, .slice A2 n2 c2, .slice A3 n3 c3, .slice A4 n4 c4] 27)).alloc (.cells #[.slice A n c, .slice A2 n2 c2, .slice A3 n3 c3, .slice A4 n4 c4] 27)).alloc (.cells #[.slice A n c, .slice A2 n2 c2, .slice A3 n3 c3, .slice A4 n4 c4] 27)
          obtain ⟨W6, hW6⟩ : ∃ W6, W6 = (((((((w.alloc (.cells #[.slice A n c, .slice A2 n2 c2, .slice A3 n3 c3, .slice A4 n4 c4] 27)).alloc (.cells #[.int .i64 b] 3)).alloc (.cells #[.int .i64 0] 3)).alloc (.cells #[.slice A n c, .slice A2 n2 c2, .slice A3 n3 c3, .slice A4 n4 c4] 27)).alloc (.cells #[.slice A n c, .slice A2 n2 c2, .slice A3 n3 c3, .slice A4 n4 c4] 27)).alloc (.cells #[.slice A n c, .slice A2 n2 c2, .slice A3 n3 c3, .slice A4 n4 c4] 27)).alloc (.cells #[.slice A n c, .slice A2 n2 c2, .slice A3 n3 c3, .slice A4 n4 c4] 27)) := ⟨_, rfl⟩
          rw [← hW6] at H
          have HW6 := Aside0.mk hW6
          clear hW6
          gi_wp2_with (first | (refine ⟨trivial, ?_⟩; gi_at_call 77; refine (callsIn_wide.2 (there_any _ _ _ _ _ _ _ _)).mono ?_; rintro e w' ⟨rfl, rfl⟩) | (refine ⟨trivial, ?_⟩; gi_at_call 80; refine (callsIn_wide.2 (iface_any w.heap.size _ _ _ _ _ _ _ _ _ _ _ _ _ _ fl (hF.below (by repeat (first | exact Below.refl _ _ | (refine Below.alloc ?_ (by simp <;> omega) _) | (refine Below.setCell ?_ (by simp <;> omega) _)))) (by simp <;> omega) (by omega) (by omega))).mono ?_; rintro e w' ⟨rfl, rfl⟩) | (refine ⟨trivial, ?_⟩; gi_at_call 76; rw [← HW6.out]; clear HW6; refine (callsIn_wide.2 (ups_any W6 _ _ _ _ _ _ _ _ _ _ _ _ _)).mono ?_; rintro e w' ⟨rfl, rfl⟩))
          have hBw : ((W6.alloc (.cells #[.slice A n c, .slice A2 n2 c2, .slice A3 n3 c3, .slice A4 n4 c4] 27)).alloc (.cells #[.int .i64 a] 3)).heap[W6.heap.size]? = some (.cells #[.slice A n c, .slice A2 n2 c2, .slice A3 n3 c3, .slice A4 n4 c4] 27) := blk_alloc (blk_new W6 (.cells #[.slice A n c, .slice A2 n2 c2, .slice A3 n3 c3, .slice A4 n4 c4] 27)) _
          have hBa : ((W6.alloc (.cells #[.slice A n c, .slice A2 n2 c2, .slice A3 n3 c3, .slice A4 n4 c4] 27)).alloc (.cells #[.int .i64 a] 3)).heap[W6.heap.size + 1]? = some (.cells #[.int .i64 a] 3) := by have := blk_new (W6.alloc (.cells #[.slice A n c, .slice A2 n2 c2, .slice A3 n3 c3, .slice A4 n4 c4] 27)) (.cells #[.int .i64 a] 3); simpa using this
          have hz : ((W6.alloc (.cells #[.slice A n c, .slice A2 n2 c2, .slice A3 n3 c3, .slice A4 n4 c4] 27)).alloc (.cells #[.int .i64 a] 3)).heap.size = W6.heap.size + 2 := by simp
          have H2 := (H.alloc (.cells #[.slice A n c, .slice A2 n2 c2, .slice A3 n3 c3, .slice A4 n4 c4] 27)).alloc (.cells #[.int .i64 a] 3)
          have hz6 := H.bl.size
          have hlt := (Array.getElem?_eq_some_iff.1 H.b2).1
          generalize (W6.alloc (.cells #[.slice A n c, .slice A2 n2 c2, .slice A3 n3 c3, .slice A4 n4 c4] 27)).alloc (.cells #[.int .i64 a] 3) = WR at hBw hBa hz H2 ⊢
          refine range_c (n := 3) rfl (by decide) (gf := 95) (lb := #[.pointer (some ⟨W6.heap.size, 0, none⟩), .pointer (some ⟨W6.heap.size + 1, 0, none⟩)]) (c := W6.heap.size + 1) rfl trivial (enters_of Try.func95 (by kernel_rfl) rfl) (by omega)
            (ups1_seq w.heap.size 2 A n c _ _ _ sup a W6.heap.size _ (by omega) WR (by decide) hn hBw hBa (by omega) (hS.below H2.bl)) kp_t (kp_b (by omega) (by omega) (by omega)) (Below.refl _ _) (fun _ => rfl)
            (fun pre W => W.heap[w.heap.size]? = some (.cells #[.slice A n c, .slice A2 n2 c2, .slice A3 n3 c3, .slice A4 n4 c4] 27) ∧ W.heap[w.heap.size + 1]? = some (.cells #[.int .i64 b] 3) ∧ W.heap[w.heap.size + 1 + 1]? = some (.cells #[.int .i64 0] 3) ∧ Below w.heap.size w W ∧ pre.find? (fun x => fromP n sup ifs b x.1) = none)
            (fun pre W => ∃ (q : List (Cl n)) (x : Cl n), pre = q ++ [x] ∧ q.find? (fun x => fromP n sup ifs b x.1) = none ∧ fromP n sup ifs b x.1 = true ∧ W.heap[w.heap.size + 1 + 1]? = some (.cells #[.int .i64 x.1] 3) ∧ Below w.heap.size w W)
            (fun s X Y row hs hg hr => ⟨keepO hg hr hs.1 rfl, keepO hg hr hs.2.1 rfl, keepO hg hr hs.2.2.1 rfl, hs.2.2.2.1.grown hg hs.2.2.2.1.size (fun k e => by have := (hr k e).1; omega), hs.2.2.2.2⟩)
            (fun s X Y row hs hg hr => by obtain ⟨q, x, e1, e2, e3, e4, e5⟩ := hs; exact ⟨q, x, e1, e2, e3, keepO hg hr e4 rfl, e5.grown hg e5.size (fun k e => by have := (hr k e).1; omega)⟩)
            (fun s X Y row hs hg hr => ⟨keepC hg hr hs.1 (by omega), keepC hg hr hs.2.1 (by omega), keepC hg hr hs.2.2.1 (by omega), hs.2.2.2.1.grown hg hs.2.2.2.1.size (fun k e => by have := hr k e; omega), hs.2.2.2.2⟩)
            (fun s X Y row hs hg hr => by obtain ⟨q, x, e1, e2, e3, e4, e5⟩ := hs; exact ⟨q, x, e1, e2, e3, keepC hg hr e4 (by omega), e5.grown hg e5.size (fun k e => by have := hr k e; omega)⟩)
            ⟨H2.b0, H2.b1, H2.b2, H2.bl, rfl⟩
            (fun x => { tmps := #[.agg #[.slice A n c, .slice A2 n2 c2, .slice A3 n3 c3, .slice A4 n4 c4], .int .i64 a, .int .i64 b, .pointer (some ⟨w.heap.size, 0, none⟩), undef, .pointer (some ⟨w.heap.size + 1, 0, none⟩), .pointer (some ⟨w.heap.size + 1 + 1, 0, none⟩), .int .i64 x.1, .agg #[.slice A n c, .slice A2 n2 c2, .slice A3 n3 c3, .slice A4 n4 c4], .int .i64 a, .bool true, .bool false, .bool false, .agg #[.slice A n c, .slice A2 n2 c2, .slice A3 n3 c3, .slice A4 n4 c4], .int .i64 b, .bool true, .bool false, .bool false, .agg #[.slice A n c, .slice A2 n2 c2, .slice A3 n3 c3, .slice A4 n4 c4], .int .i64 a, .bool false, .bool false, .agg #[.slice A n c, .slice A2 n2 c2, .slice A3 n3 c3, .slice A4 n4 c4], .int .i64 b, .bool false, .bool false, .agg #[.slice A n c, .slice A2 n2 c2, .slice A3 n3 c3, .slice A4 n4 c4], .int .i64 a, .func (.func 95) #[] #[.pointer (some ⟨W6.heap.size, 0, none⟩), .pointer (some ⟨W6.heap.size + 1, 0, none⟩)], .int .i64 x.1, undef, undef, undef, undef, undef], defers := [] }) ?assign ?body ?done ?stop
          case assign =>
            intro l x W K hK
            gi_wp2
            exact hK
          case body =>
            rintro l pre ⟨x, hx⟩ W ⟨h0, h1, h2, hB, hn0⟩ _
            obtain ⟨c0, c1, c2, c3⟩ := cells4 h0
            obtain ⟨d0, df⟩ := cell1 h1
            have hS5 := (hS.below hB).mono hB.size
            have hI5 := (hI.below hB).mono hB.size
            dsimp only
            by_cases hf : fromP n sup ifs b x = true
            · gi_wp2_with (refine ⟨trivial, ?_⟩; gi_at_call 41; refine (CallsIn.inRound l (callsIn_wide.2 (from_any W A n _ _ _ _ _ _ _ _ _ _ sup ifs b x hn hS5 hI5 hL))).mono ?_; rintro e w' ⟨rfl, hBc⟩; have h2' := (hBc.block _ (Array.getElem?_eq_some_iff.1 h2).1).trans h2; obtain ⟨g0, gf⟩ := cell1 h2')
              exact ⟨(keepsB hBc).trans (KeepsOthers.setCell _ _ _), rfl, pre, ⟨x, hx⟩, rfl, hn0, hf, blk_put h2' 0 (.int .i64 x) rfl, (hB.trans (hBc.mono hB.size)).setCell (p := ⟨w.heap.size + 1 + 1, 0, none⟩) (by simp; omega) _⟩
            · have hf' : fromP n sup ifs b x = false := by simpa using hf
              gi_wp2_with (refine ⟨trivial, ?_⟩; gi_at_call 41; refine (CallsIn.inRound l (callsIn_wide.2 (from_any W A n _ _ _ _ _ _ _ _ _ _ sup ifs b x hn hS5 hI5 hL))).mono ?_; rintro e w' ⟨rfl, hBc⟩)
              have kp : ∀ {k : Nat} {o : Obj}, W.heap[k]? = some o → w'.heap[k]? = some o := fun h => (hBc.block _ (Array.getElem?_eq_some_iff.1 h).1).trans h
              exact ⟨keepsB hBc, ⟨hBc.mono hB.size, fun o h => kp h, fun o h => kp h⟩, kp h0, kp h1, kp h2, hB.trans (hBc.mono hB.size), by rw [List.find?_append, hn0]; simp [hf']⟩
          case done =>
            rintro D ys W hD rfl ⟨h0, h1, h2, hB, hn0⟩ hK
            obtain ⟨e0, ef⟩ := cell1 h2
            gi_wp2
            have hK2 := (KeepsOthers.setCell W ⟨w.heap.size + 1 + 1, 0, none⟩ (.int .i64 0)).same D _ hK rfl
            refine ⟨by simp, .inl ⟨_, _, rfl, run_takeDeferred hK2, ?_⟩⟩
            have h3 : ((W.setCell ⟨w.heap.size + 1 + 1, 0, none⟩ (.int .i64 0)).putObj D (.deferred none)).heap[w.heap.size + 1 + 1]? = some (.cells #[.int .i64 0] 3) := (World.putObj_heap_other (by omega)).trans (blk_put h2 0 (.int .i64 0) rfl)
            obtain ⟨g0, gf⟩ := cell1 h3
            have hB2 := hB.setCell (p := ⟨w.heap.size + 1 + 1, 0, none⟩) (by simp; omega) (.int .i64 0)
            refine ⟨.int .i64 0, by simp [results, Try.f42, go_sem, g0], ?_, hB2.trans (belowK_b (w := w) (Nat.le_refl _) _ D _ _ (by omega) hK2 rfl rfl)⟩
            simp [comP, ha, hb, fa', fb', hn0]
          case stop =>
            rintro D pre W hD hp ⟨q, x, rfl, hq, hfx, h2, hB⟩ hK
            gi_wp2
            refine ⟨by simp, .inl ⟨_, _, rfl, run_takeDeferred hK, ?_⟩⟩
            have h3 : (W.putObj D (.deferred none)).heap[w.heap.size + 1 + 1]? = some (.cells #[.int .i64 x.1] 3) := (World.putObj_heap_other (by omega)).trans h2
            obtain ⟨g0, gf⟩ := cell1 h3
            refine ⟨.int .i64 x.1, by simp [results, Try.f42, go_sem, g0], ?_, hB.trans (belowK_b (w := w) (Nat.le_refl _) W D _ _ (by omega) hK rfl rfl)⟩
            have ht : (ups n sup (n + 1) a).find? (fun x => fromP n sup ifs b x.1) = some x := by
              obtain ⟨r, hr⟩ := hp
              rw [← hr, List.find?_append, List.find?_append, hq]
              simp [hfx]
            simp [comP, ha, hb, fa', fb', ht]
    · have hdb : decide (0 ≤ b ∧ b < n) = false := decide_eq_false hb
      gi_wp2_with (first | (refine ⟨trivial, ?_⟩; gi_at_call 77; refine (callsIn_wide.2 (there_any _ _ _ _ _ _ _ _)).mono ?_; rintro e w' ⟨rfl, rfl⟩) | (refine ⟨trivial, ?_⟩))
      refine ⟨.int .i64 (-1), by simp [results, Try.f42, go_sem], by simp only [comP, ha, hb]; rfl, ?_⟩
      repeat (first | exact Below.refl _ _ | (refine Below.alloc ?_ (by simp <;> omega) _) | (refine Below.setCell ?_ (by simp <;> omega) _))
  · have hda : decide (0 ≤ a ∧ a < n) = false := decide_eq_false ha
    gi_wp2_with (first | (refine ⟨trivial, ?_⟩; gi_at_call 77; refine (callsIn_wide.2 (there_any _ _ _ _ _ _ _ _)).mono ?_; rintro e w' ⟨rfl, rfl⟩) | (refine ⟨trivial, ?_⟩))
    refine ⟨.int .i64 (-1), by simp [results, Try.f42, go_sem], by simp only [comP, ha]; rfl, ?_⟩
    repeat (first | exact Below.refl _ _ | (refine Below.alloc ?_ (by simp <;> omega) _) | (refine Below.setCell ?_ (by simp <;> omega) _))
end
end Go.Proofs.Ytjknnifcbcdjiaa.Ups
