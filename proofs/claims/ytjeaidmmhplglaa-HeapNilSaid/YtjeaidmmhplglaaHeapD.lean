/- The walks of heap: the iterator over objects. -/
import Derived.Test.YtjeaidmmhplglaaHeapC
import Derived.RangeFuncNested
import Derived.RangeFuncBound
import Derived.RangeFuncCalls
import Derived.RangeFuncLeaves
import Derived.RangeFuncBox
import Derived.OwnWalkIn
import Derived.TacticsInMore
import Derived.LoopNIn
import Derived.LoopIn
set_option linter.unusedVariables false
set_option linter.unusedSimpArgs false
namespace Go.Proofs.Ytjeaidmmhplglaa.Nvm
open Go.RowKit Go.Proofs.Ytjeaidmmhplglaa.Base
attribute [local go_sem] Oper.semAt_some
/-- A place of an object. -/
abbrev Pl := { x : Int // 512 ≤ x ∧ x ≤ 32768 }
/-- What the iterator reads: the heap, its memory, its own variable. -/
structure It (w : World) (F : Nat → Prop) (H T N R L : Nat) (s : St) (X : Nat) : Prop where
  h : Blk w H #[.pointer (some ⟨T, 0, none⟩), .pointer (some ⟨R, 0, none⟩)] 33
  t : Tx w F T N L s
  x : Blk w X #[.pointer (some ⟨H, 0, none⟩)] 25
  r : R < w.heap.size
theorem It.ch {w w' : World} {F S : Nat → Prop} {H T N R L X : Nat} {s : St} (h : It w F H T N R L s X) (c : Ch S w w') (hs : ∀ k, F k ∨ k = H ∨ k = T ∨ k = X → ¬ S k) : It w' F H T N R L s X :=
  ⟨h.h.ch c (hs _ (Or.inr (Or.inl rfl))), h.t.ch c (fun k hk => hs k (Or.inl hk)) (hs _ (Or.inr (Or.inr (Or.inl rfl)))), h.x.ch c (hs _ (Or.inr (Or.inr (Or.inr rfl)))), Nat.lt_of_lt_of_le h.r c.size⟩
theorem It.gr {w w' : World} {F : Nat → Prop} {H T N R L X : Nat} {s : St} (h : It w F H T N R L s X) (c : Ch (fun _ => False) w w') : It w' F H T N R L s X := h.ch c (fun _ _ h => h)
/-- What a round that goes on may change: the ram, and what the caller has laid, but no head that the iterator keeps. -/
def Kq (B R X : Nat) (W : World) (k : Nat) : Prop := k = R ∨ (B ≤ k ∧ k ≠ X ∧ ∀ cs fz, W.heap[k]? ≠ some (.cells cs 46 fz))
def Kh (B R X : Nat) (W W' : World) : Prop := Ch (Kq B R X W) W W'
theorem kh_t {B R X : Nat} {a b c : World} (h : Kh B R X a b) (k : Kh B R X b c) : Kh B R X a c :=
  ⟨k.os.trans h.os, k.tape.trans h.tape, k.output.trans h.output, Nat.le_trans h.size k.size, fun i hi hn => (k.block i (Nat.lt_of_lt_of_le hi h.size) (fun hk => hn (by
    rcases hk with hk | ⟨h1, h2, h3⟩
    · exact Or.inl hk
    · exact Or.inr ⟨h1, h2, fun cs fz e => h3 cs fz ((h.block i hi hn).trans e)⟩))).trans (h.block i hi hn)⟩
theorem kh_b {B R X : Nat} {w : World} (hB : B ≤ w.heap.size) (hX : X < w.heap.size) (W : World) (l : Nat) (o o' : Obj) (hl : w.heap.size ≤ l) (h : W.heap[l]? = some o) (hc : o.isCells = false) (_ : o.isWalk = false) : Kh B R X W (W.putObj l o') :=
  (grown_ch (grownBy_putObj' W l o')).mono (fun k hk => by
    cases hk
    exact Or.inr ⟨by omega, by omega, fun cs fz e => by rw [h] at e; cases e; cases hc⟩)
theorem It.kh {w w' : World} {F : Nat → Prop} {H T N R L X B : Nat} {s : St} (h : It w F H T N R L s X) (c : Kh B R X w w') (hF : ∀ k, F k → k < B) (hH : H < B) (hT : T < B) (hR : ¬ F R ∧ R ≠ H ∧ R ≠ T ∧ R ≠ X) : It w' F H T N R L s X :=
  h.ch c (fun k hk hq => by
    rcases hq with rfl | ⟨h1, h2, _⟩
    · rcases hk with hk | hk | hk | hk
      · exact hR.1 hk
      · exact hR.2.1 hk
      · exact hR.2.2.1 hk
      · exact hR.2.2.2 hk
    · rcases hk with hk | hk | hk | hk
      · have := hF k hk; omega
      · omega
      · omega
      · exact h2 hk)
set_option maxHeartbeats 400000 in
set_option maxRecDepth 100000 in
theorem hobj_any (w : World) (H : Nat) :
    Calls Try.prog 37 #[.pointer (some ⟨H, 0, none⟩)] w fun e w' => e = .returned (.func (.func 58) #[] #[.pointer (some ⟨w.heap.size, 0, none⟩)]) ∧ w' = w.alloc (.cells #[.pointer (some ⟨H, 0, none⟩)] 25) := by
  go_enter Try.func37, Try.ntmps37
  go_wp2
  go_ret
  exact ⟨rfl, rfl⟩
theorem hword_tx {w : World} {F : Nat → Prop} {H T N L : Nat} {s : St} (c0 : w.cell? ⟨H, 0, none⟩ = some (.pointer (some ⟨T, 0, none⟩))) (ht : Tx w F T N L s) (at_ : Int) :
    Calls Try.prog 27 #[.pointer (some ⟨H, 0, none⟩), .int .i64 at_] w fun e w' => e = .returned (.int .i64 (hw s at_)) ∧ Ch (fun _ => False) w w' := by
  have hb := hw_b ht.ok at_
  exact hword_core w H T at_ _ _ hb.1 hb.2 c0 (word_tx ht at_)
theorem It.word {w : World} {F : Nat → Prop} {H T N R L X : Nat} {s : St} (h : It w F H T N R L s X) (at_ : Int) :
    Calls Try.prog 27 #[.pointer (some ⟨H, 0, none⟩), .int .i64 at_] w fun e w' => e = .returned (.int .i64 (hw s at_)) ∧ Ch (fun _ => False) w w' := hword_tx (h.h.cell 0) h.t at_
theorem It.head {w : World} {F : Nat → Prop} {H T N R L X : Nat} {s : St} (h : It w F H T N R L s X) (at_ : Int) (a0 : 0 ≤ at_) (a1 : at_ ≤ 1000000) :
    Calls Try.prog 40 #[.pointer (some ⟨H, 0, none⟩), .int .i64 at_] w fun e w' => e = .returned (.tuple #[enc (hd s at_), .int .i64 (hpl s at_)]) ∧ Ch (fun _ => False) w w' :=
  hhead_core w H at_ (hw s) (hw_b h.t.ok) a0 a1 (fun w1 k c => (h.gr c).word k)
theorem objs_step {s : St} {top : Int} {k : Nat} {a : Int} (h : a + 4 ≤ top) : objs s top (k + 1) a = a :: objs s top k (a + hlen (hd s a)) := if_pos h
theorem objs_end {s : St} {top : Int} {k : Nat} {a : Int} (h : ¬ a + 4 ≤ top) : objs s top k a = [] := by cases k <;> simp [objs, h]
set_option maxHeartbeats 4000000 in
set_option maxRecDepth 100000 in
theorem hobj1_seq (w : World) (F : Nat → Prop) (H T N R L B X m : Nat) (s : St) (hm : 1 ≤ m) (h : It w F H T N R L s X) (hF : ∀ k, F k → k < B) (hH : H < B) (hT : T < B) (hR : ¬ F R ∧ R ≠ H ∧ R ≠ T ∧ R ≠ X) (hX : B ≤ X) :
    SeqStopsK Fence.wide m Try.prog 58 #[.pointer (some ⟨X, 0, none⟩)] (fun x : Pl => #[.int .i64 x.1]) (Kh B R X) (fun xs => xs.map (·.1) = places s) (fun pre => pre.map (·.1) <+: places s) 8192 w := by
  intro l J Jx W hW hJ hJx hY h0
  have hok := h.t.ok
  have hR0 := hR
  have hI0 : It W F H T N R L s X := h.ch (S := fun k => w.heap.size ≤ k) ⟨hW.os, hW.tape, hW.output, hW.size, fun k hk _ => hW.block k hk⟩ (fun k hk => by
    have : k < w.heap.size := by
      rcases hk with hk | rfl | rfl | rfl
      · exact h.t.n.fb k hk
      · exact h.h.lt
      · exact h.t.t.lt
      · exact h.x.lt
    omega)
  have hJg : ∀ (pre : List Pl) (A C : World), J pre A → Ch (fun _ => False) A C → J pre C := fun pre A C hj c => hJ pre A C none hj ⟨c.os, c.tape, c.output, c.size, fun k hk _ => c.block k hk (fun h => h)⟩ (fun r e => by cases e)
  have hJ2 := Lib.hid hJg
  clear hJg
  have hl1 := hok.len1
  have htp : htop s = min (hw s 256) ((s.l.length : Int) / 2) := rfl
  have hw0 := hw_b hok 256
  have hL := h.t.len
  subst hL
  refine callsIn_wide.2 ?_
  have K := Lib.hid (fun (wy : World) (c : Ch (fun _ => False) W wy) => show wy.cell? ⟨X, 0, none⟩ = some (.pointer (some ⟨H, 0, none⟩)) ∧ wy.cell? ⟨H, 0, none⟩ = some (.pointer (some ⟨T, 0, none⟩)) from ⟨(hI0.gr c).x.cell 0, (hI0.gr c).h.cell 0⟩)
  go_enter Try.func58, Try.ntmps58
  go_wp2_with (fail)
  obtain ⟨z0, z1⟩ := K.out _ (Ch.refl _ _)
  have d1 := Ch.refl (fun _ => False) W
  go_region_held3 (fun w' => w'.cell? ⟨X, 0, none⟩ = some (.pointer (some ⟨H, 0, none⟩)) ∧ w'.cell? ⟨H, 0, none⟩ = some (.pointer (some ⟨T, 0, none⟩))) (first | exact ⟨z0, z1⟩ | exact K.out _ d1 | exact K.out _ d1.drew | exact K.out _ (d1.drewN _)) (first | (go_at_call 27; refine ((hI0.gr (by first | exact d1 | exact d1.drew | exact d1.drewN _)).word 256).mono ?_; rintro e w1 ⟨rfl, c1⟩; replace d1 : Ch (fun _ => False) W w1 := Ch.then (by first | exact d1 | exact d1.drew | exact d1.drewN _) c1) | (go_at_call 19; refine (nvm_core _ T N ((hI0.gr (by first | exact d1 | exact d1.drew | exact d1.drewN _)).t.c0)).mono ?_; rintro e w1 ⟨rfl, rfl⟩) | (go_at_call 23; refine (size_any ((hI0.gr (by first | exact d1 | exact d1.drew | exact d1.drewN _)).t.n)).mono ?_; rintro e w1 ⟨rfl, rfl⟩))
  have hWr : IntKind.i64.wrap ((s.l.length : Int) / 2) = (s.l.length : Int) / 2 := wr64 (by omega) (by omega)
  rw [hWr, ← htp]
  have htb : htop s ≤ 32768 := by omega
  have hI1 := hI0.gr d1
  have hj1 := hJ2.out _ _ _ h0 d1
  have HI := Lib.hid hI1
  have HJ := Lib.hid hj1
  have hpl : places s = objs s (htop s) 8192 512 := rfl
  generalize htop s = top at *
  have HP := Lib.hid (show places s = ([] : List Pl).map (·.1) ++ objs s top 8192 512 from hpl)
  clear hI1 hj1 hI0 h0 K z0 z1 htp hw0 hWr hpl
  go_wp2
  go_loopw [4] (fun p wr => ∃ (k : Nat) (pre : List Pl) (a : Int), p = .int .i64 a ∧ k ≤ 8192 ∧ 512 + 4 * (8192 - (k : Int)) ≤ a ∧ a ≤ 1000000 ∧ pre.length + k = 8192 ∧ Hid (places s = pre.map (·.1) ++ objs s top k a) ∧ J pre wr ∧ It wr F H T N R s.l.length s X)
    (fun p _ => 1000000 - (intOf p).toNat)
  case atStart => exact ⟨8192, [], 512, rfl, Nat.le_refl _, by omega, by omega, rfl, HP, HJ.out, HI.out⟩
  case round =>
    obtain ⟨k, pre, a, rfl, hk, ha0, ha1, hpk, hU, hJs, hIw⟩ := hrel
    by_cases hlt : a + 4 ≤ top
    · refine (wpIn_wide (n := m)).1 ?_
      obtain ⟨k, rfl⟩ : ∃ j, k = j + 1 := ⟨k - 1, by omega⟩
      have hx0 : 512 ≤ a ∧ a ≤ 32768 := by omega
      have hU2 := hU.out
      rw [objs_step hlt] at hU2
      have x0 : wr.cell? ⟨X, 0, none⟩ = some (.pointer (some ⟨H, 0, none⟩)) := hIw.x.cell 0
      have hb := hd_b hok a
      have hlb := hlen_b hb
      have hhd := hIw.head a (by omega) (by omega)
      have hln := fun w3 => hlen_any w3 (hd s a) hb
      have hla := hok.len1
      generalize hd s a = x at hb hlb hhd hln hU2
      generalize hlen x = z at hlb hln hU2
      obtain ⟨kd, cl, el, ow, fl, cn⟩ := x
      have HU := Lib.hid hU2
      clear hU2 hU
      simp only [enc] at hhd hln
      have HH := Lib.hid hhd
      have HL := Lib.hid hln
      clear hhd hln
      gi_wp2_with (refine ⟨trivial, ?_⟩; gi_at_call 40; refine (callsIn_wide.2 HH.out).mono ?_; rintro e w2 ⟨rfl, c2⟩; obtain ⟨fn, tmps, assign, body, hy, hR⟩ := hY pre ⟨a, hx0⟩ (w2.alloc (.cells #[.int .u8 kd, .int .i64 cl, .int .i64 el, .int .i64 ow, .int .u8 fl, .int .i64 cn] 46)) (hJ2.out _ _ _ hJs (c2.alloc _)) (by omega))
      refine hR.mono ?_
      rintro e W3 (⟨rfl, hJ3, hk3⟩ | ⟨rfl, hJx3⟩)
      · have hI3 := (hIw.gr (c2.alloc (.cells #[.int .u8 kd, .int .i64 cl, .int .i64 el, .int .i64 ow, .int .u8 fl, .int .i64 cn] 46))).kh hk3 hF hH hT hR0
        have hb2 := Blk.new w2 #[.int .u8 kd, .int .i64 cl, .int .i64 el, .int .i64 ow, .int .u8 fl, .int .i64 cn] 46
        have hb3 : Blk W3 w2.heap.size #[.int .u8 kd, .int .i64 cl, .int .i64 el, .int .i64 ow, .int .u8 fl, .int .i64 cn] 46 := ⟨(hk3.block _ hb2.lt (by
          rintro (hq | ⟨_, _, hq⟩)
          · have := hIw.r
            have := c2.size
            omega
          · exact hq _ _ hb2.heap)).trans hb2.heap⟩
        have e0 : W3.cell? ⟨w2.heap.size, 0, none⟩ = some (.int .u8 kd) := hb3.cell 0
        have e1 : W3.cell? ⟨w2.heap.size, 1, none⟩ = some (.int .i64 cl) := hb3.cell 1
        have e2 : W3.cell? ⟨w2.heap.size, 2, none⟩ = some (.int .i64 el) := hb3.cell 2
        have e3 : W3.cell? ⟨w2.heap.size, 3, none⟩ = some (.int .i64 ow) := hb3.cell 3
        have e4 : W3.cell? ⟨w2.heap.size, 4, none⟩ = some (.int .u8 fl) := hb3.cell 4
        have e5 : W3.cell? ⟨w2.heap.size, 5, none⟩ = some (.int .i64 cn) := hb3.cell 5
        gi_wp2_with (refine ⟨trivial, ?_⟩; gi_at_call 29; refine (callsIn_wide.2 (HL.out _)).mono ?_; rintro e w4 ⟨rfl, c4⟩)
        have hj4 := hJ2.out _ _ _ hJ3 c4
        have hi4 := hI3.gr c4
        refine ⟨⟨k, pre ++ [⟨a, hx0⟩], a + z, rfl, by omega, by omega, by omega, by simp; omega, Lib.hid (by rw [HU.out]; simp), hj4, hi4⟩, by simp [intOf]; omega⟩
      · gi_wp2
        refine bodyPost_ret (results_none rfl _ _ _) rfl ?_
        exact ⟨⟨_, rfl⟩, .inr ⟨pre ++ [⟨a, hx0⟩], ⟨_, by rw [HU.out]; simp; rfl⟩, hJx3⟩⟩
    · have hn : ¬ a + 4 ≤ top := hlt
      go_wp2
      go_end0
      exact ⟨⟨_, rfl⟩, .inl ⟨pre, by rw [hU.out, objs_end (by omega)]; simp, hJs⟩⟩
end Go.Proofs.Ytjeaidmmhplglaa.Nvm
