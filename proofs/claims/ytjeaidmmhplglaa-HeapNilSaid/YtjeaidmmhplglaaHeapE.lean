/- The walks of heap: an object is found. -/
import Derived.Test.YtjeaidmmhplglaaHeapD
set_option linter.unusedVariables false
set_option linter.unusedSimpArgs false
namespace Go.Proofs.Ytjeaidmmhplglaa.Nvm
open Go.RowKit Go.Proofs.Ytjeaidmmhplglaa.Base
attribute [local go_sem] Oper.semAt_some
/-- The variables of find: six new blocks. -/
structure Fr (w W : World) (H : Nat) (at_ : Int) (x : Hd) (p : Int) (r : Bool) (e : Int) : Prop where
  b0 : Blk W w.heap.size #[.pointer (some ⟨H, 0, none⟩)] 25
  b1 : Blk W (w.heap.size + 1) #[.int .i64 at_] 3
  b2 : Blk W (w.heap.size + 1 + 1) #[.int .u8 x.kind, .int .i64 x.cls, .int .i64 x.elem, .int .i64 x.owner, .int .u8 x.flags, .int .i64 x.count] 46
  b3 : Blk W (w.heap.size + 1 + 1 + 1) #[.int .i64 p] 3
  b4 : Blk W (w.heap.size + 1 + 1 + 1 + 1) #[.bool r] 4
  b5 : Blk W (w.heap.size + 1 + 1 + 1 + 1 + 1) #[.int .i64 e] 34
theorem Fr.gr {w W W' : World} {H : Nat} {at_ p e : Int} {x : Hd} {r : Bool} {S : Nat → Prop} (h : Fr w W H at_ x p r e) (c : Ch S W W') (hs : ∀ k, w.heap.size ≤ k → k ≤ w.heap.size + 5 → ¬ S k) : Fr w W' H at_ x p r e :=
  ⟨h.b0.ch c (hs _ (by omega) (by omega)), h.b1.ch c (hs _ (by omega) (by omega)), h.b2.ch c (hs _ (by omega) (by omega)), h.b3.ch c (hs _ (by omega) (by omega)), h.b4.ch c (hs _ (by omega) (by omega)), h.b5.ch c (hs _ (by omega) (by omega))⟩
/-- What is read and written of them. -/
structure Fc (w W : World) (H : Nat) (at_ : Int) (x : Hd) (p : Int) (r : Bool) (e : Int) : Prop where
  c0 : W.cell? ⟨w.heap.size, 0, none⟩ = some (.pointer (some ⟨H, 0, none⟩))
  c1 : W.cell? ⟨w.heap.size + 1, 0, none⟩ = some (.int .i64 at_)
  x0 : W.cell? ⟨w.heap.size + 1 + 1, 0, none⟩ = some (.int .u8 x.kind)
  x1 : W.cell? ⟨w.heap.size + 1 + 1, 1, none⟩ = some (.int .i64 x.cls)
  x2 : W.cell? ⟨w.heap.size + 1 + 1, 2, none⟩ = some (.int .i64 x.elem)
  x3 : W.cell? ⟨w.heap.size + 1 + 1, 3, none⟩ = some (.int .i64 x.owner)
  x4 : W.cell? ⟨w.heap.size + 1 + 1, 4, none⟩ = some (.int .u8 x.flags)
  x5 : W.cell? ⟨w.heap.size + 1 + 1, 5, none⟩ = some (.int .i64 x.count)
  c3 : W.cell? ⟨w.heap.size + 1 + 1 + 1, 0, none⟩ = some (.int .i64 p)
  c4 : W.cell? ⟨w.heap.size + 1 + 1 + 1 + 1, 0, none⟩ = some (.bool r)
  c5 : W.cell? ⟨w.heap.size + 1 + 1 + 1 + 1 + 1, 0, none⟩ = some (.int .i64 e)
  f2 : ∀ j, W.frozen? ⟨w.heap.size + 1 + 1, j, none⟩ = false
  f3 : W.frozen? ⟨w.heap.size + 1 + 1 + 1, 0, none⟩ = false
  f4 : W.frozen? ⟨w.heap.size + 1 + 1 + 1 + 1, 0, none⟩ = false
  f5 : W.frozen? ⟨w.heap.size + 1 + 1 + 1 + 1 + 1, 0, none⟩ = false
theorem Fr.fc {w W : World} {H : Nat} {at_ p e : Int} {x : Hd} {r : Bool} (h : Fr w W H at_ x p r e) : Fc w W H at_ x p r e :=
  ⟨h.b0.cell 0, h.b1.cell 0, h.b2.cell 0, h.b2.cell 1, h.b2.cell 2, h.b2.cell 3, h.b2.cell 4, h.b2.cell 5, h.b3.cell 0, h.b4.cell 0, h.b5.cell 0, fun j => h.b2.free j, h.b3.free 0, h.b4.free 0, h.b5.free 0⟩
theorem blk_at {w : World} {B B' : Nat} {cs : Array Value} {T : TypeId} (h : Blk w B cs T) (e : B = B') : Blk w B' cs T := e ▸ h
theorem fr_new (w : World) (H : Nat) (at_ : Int) : Fr w ((((((w.alloc (.cells #[.pointer (some ⟨H, 0, none⟩)] 25)).alloc (.cells #[.int .i64 at_] 3)).alloc (.cells #[.int .u8 0, .int .i64 0, .int .i64 0, .int .i64 0, .int .u8 0, .int .i64 0] 46)).alloc (.cells #[.int .i64 0] 3)).alloc (.cells #[.bool false] 4)).alloc (.cells #[.int .i64 0] 34)) H at_ .zero 0 false 0 := by
  refine ⟨((((((Blk.new w _ _).alloc _).alloc _).alloc _).alloc _).alloc _), blk_at (((((Blk.new _ _ _).alloc _).alloc _).alloc _).alloc _) (by simp), blk_at ((((Blk.new _ _ _).alloc _).alloc _).alloc _) (by simp), blk_at (((Blk.new _ _ _).alloc _).alloc _) (by simp), blk_at ((Blk.new _ _ _).alloc _) (by simp), blk_at (Blk.new _ _ _) (by simp)⟩
theorem _root_.Go.Proofs.Ytjeaidmmhplglaa.Base.Blk.oth {w : World} {B : Nat} {cs : Array Value} {T : TypeId} (h : Base.Blk w B cs T) {p : Addr} (hn : B ≠ p.block) (v : Value) : Base.Blk (w.setCell p v) B cs T := Blk.other h hn v
theorem Fr.put {w W : World} {H : Nat} {at_ p e : Int} {x : Hd} {r : Bool} (h : Fr w W H at_ x p r e) (x' : Hd) (p' : Int) : Fr w (((((((W.setCell ⟨w.heap.size + 1 + 1, 0, none⟩ (.int .u8 x'.kind)).setCell ⟨w.heap.size + 1 + 1, 1, none⟩ (.int .i64 x'.cls)).setCell ⟨w.heap.size + 1 + 1, 2, none⟩ (.int .i64 x'.elem)).setCell ⟨w.heap.size + 1 + 1, 3, none⟩ (.int .i64 x'.owner)).setCell ⟨w.heap.size + 1 + 1, 4, none⟩ (.int .u8 x'.flags)).setCell ⟨w.heap.size + 1 + 1, 5, none⟩ (.int .i64 x'.count)).setCell ⟨w.heap.size + 1 + 1 + 1, 0, none⟩ (.int .i64 p')) H at_ x' p' r e := by
  refine ⟨?_, ?_, ?_, ?_, ?_, ?_⟩
  · exact (((((((h.b0.oth (by dsimp only; omega) _).oth (by dsimp only; omega) _).oth (by dsimp only; omega) _).oth (by dsimp only; omega) _).oth (by dsimp only; omega) _).oth (by dsimp only; omega) _).oth (by dsimp only; omega) _)
  · exact (((((((h.b1.oth (by dsimp only; omega) _).oth (by dsimp only; omega) _).oth (by dsimp only; omega) _).oth (by dsimp only; omega) _).oth (by dsimp only; omega) _).oth (by dsimp only; omega) _).oth (by dsimp only; omega) _)
  · exact (((((((h.b2.set 0 _).set 1 _).set 2 _).set 3 _).set 4 _).set 5 _).oth (by dsimp only; omega) _)
  · exact (((((((h.b3.oth (by dsimp only; omega) _).oth (by dsimp only; omega) _).oth (by dsimp only; omega) _).oth (by dsimp only; omega) _).oth (by dsimp only; omega) _).oth (by dsimp only; omega) _).set 0 _)
  · exact (((((((h.b4.oth (by dsimp only; omega) _).oth (by dsimp only; omega) _).oth (by dsimp only; omega) _).oth (by dsimp only; omega) _).oth (by dsimp only; omega) _).oth (by dsimp only; omega) _).oth (by dsimp only; omega) _)
  · exact (((((((h.b5.oth (by dsimp only; omega) _).oth (by dsimp only; omega) _).oth (by dsimp only; omega) _).oth (by dsimp only; omega) _).oth (by dsimp only; omega) _).oth (by dsimp only; omega) _).oth (by dsimp only; omega) _)
theorem Fr.put4 {w W : World} {H : Nat} {at_ p e : Int} {x : Hd} {r : Bool} (h : Fr w W H at_ x p r e) (r' : Bool) : Fr w (W.setCell ⟨w.heap.size + 1 + 1 + 1 + 1, 0, none⟩ (.bool r')) H at_ x p r' e :=
  ⟨h.b0.oth (by dsimp only; omega) _, h.b1.oth (by dsimp only; omega) _, h.b2.oth (by dsimp only; omega) _, h.b3.oth (by dsimp only; omega) _, h.b4.set 0 _, h.b5.oth (by dsimp only; omega) _⟩
theorem Fr.put5 {w W : World} {H : Nat} {at_ p e : Int} {x : Hd} {r : Bool} (h : Fr w W H at_ x p r e) (e' : Int) : Fr w (W.setCell ⟨w.heap.size + 1 + 1 + 1 + 1 + 1, 0, none⟩ (.int .i64 e')) H at_ x p r e' :=
  ⟨h.b0.oth (by dsimp only; omega) _, h.b1.oth (by dsimp only; omega) _, h.b2.oth (by dsimp only; omega) _, h.b3.oth (by dsimp only; omega) _, h.b4.oth (by dsimp only; omega) _, h.b5.set 0 _⟩
theorem Fr.drewN {w W : World} {H : Nat} {at_ p e : Int} {x : Hd} {r : Bool} (h : Fr w W H at_ x p r e) (n : Nat) : Fr w (W.drewN n) H at_ x p r e := ⟨h.b0.drewN n, h.b1.drewN n, h.b2.drewN n, h.b3.drewN n, h.b4.drewN n, h.b5.drewN n⟩
theorem Fr.drew {w W : World} {H : Nat} {at_ p e : Int} {x : Hd} {r : Bool} (h : Fr w W H at_ x p r e) : Fr w W.drew H at_ x p r e := ⟨h.b0.drew, h.b1.drew, h.b2.drew, h.b3.drew, h.b4.drew, h.b5.drew⟩
theorem keeps_drewN (W : World) (n : Nat) : KeepsOthers W (W.drewN n) := ⟨Nat.le_refl _, fun _ _ h _ => h⟩
theorem keeps_drew (W : World) : KeepsOthers W W.drew := ⟨Nat.le_refl _, fun _ _ h _ => h⟩
theorem ch_keeps {W W' : World} (c : Ch (fun _ => False) W W') : KeepsOthers W W' := ⟨c.size, fun k o hk _ => (c.block k (Array.getElem?_eq_some_iff.1 hk).1 (fun h => h)).trans hk⟩
theorem keeps9 (W : World) (a0 a1 a2 a3 a4 a5 a6 a7 a8 : Addr) (v0 v1 v2 v3 v4 v5 v6 v7 v8 : Value) : KeepsOthers W (((((((((W.setCell a0 v0).setCell a1 v1).setCell a2 v2).setCell a3 v3).setCell a4 v4).setCell a5 v5).setCell a6 v6).setCell a7 v7).setCell a8 v8) :=
  ((((((((KeepsOthers.setCell W a0 v0).trans (KeepsOthers.setCell _ _ _)).trans (KeepsOthers.setCell _ _ _)).trans (KeepsOthers.setCell _ _ _)).trans (KeepsOthers.setCell _ _ _)).trans (KeepsOthers.setCell _ _ _)).trans (KeepsOthers.setCell _ _ _)).trans (KeepsOthers.setCell _ _ _)).trans (KeepsOthers.setCell _ _ _)
theorem Ch.sets7 {w W : World} (C : Ch (fun _ => False) w W) (x' : Hd) (p' : Int) : Ch (fun _ => False) w (((((((W.setCell ⟨w.heap.size + 1 + 1, 0, none⟩ (.int .u8 x'.kind)).setCell ⟨w.heap.size + 1 + 1, 1, none⟩ (.int .i64 x'.cls)).setCell ⟨w.heap.size + 1 + 1, 2, none⟩ (.int .i64 x'.elem)).setCell ⟨w.heap.size + 1 + 1, 3, none⟩ (.int .i64 x'.owner)).setCell ⟨w.heap.size + 1 + 1, 4, none⟩ (.int .u8 x'.flags)).setCell ⟨w.heap.size + 1 + 1, 5, none⟩ (.int .i64 x'.count)).setCell ⟨w.heap.size + 1 + 1 + 1, 0, none⟩ (.int .i64 p')) :=
  ((((((C.setCell (Or.inr (by dsimp only; omega)) _).setCell (Or.inr (by dsimp only; omega)) _).setCell (Or.inr (by dsimp only; omega)) _).setCell (Or.inr (by dsimp only; omega)) _).setCell (Or.inr (by dsimp only; omega)) _).setCell (Or.inr (by dsimp only; omega)) _).setCell (Or.inr (by dsimp only; omega)) _
theorem Keeps.sets7 {w X W : World} (C : KeepsOthers X W) (x' : Hd) (p' : Int) : KeepsOthers X (((((((W.setCell ⟨w.heap.size + 1 + 1, 0, none⟩ (.int .u8 x'.kind)).setCell ⟨w.heap.size + 1 + 1, 1, none⟩ (.int .i64 x'.cls)).setCell ⟨w.heap.size + 1 + 1, 2, none⟩ (.int .i64 x'.elem)).setCell ⟨w.heap.size + 1 + 1, 3, none⟩ (.int .i64 x'.owner)).setCell ⟨w.heap.size + 1 + 1, 4, none⟩ (.int .u8 x'.flags)).setCell ⟨w.heap.size + 1 + 1, 5, none⟩ (.int .i64 x'.count)).setCell ⟨w.heap.size + 1 + 1 + 1, 0, none⟩ (.int .i64 p')) :=
  ((((((C.trans (KeepsOthers.setCell _ _ _)).trans (KeepsOthers.setCell _ _ _)).trans (KeepsOthers.setCell _ _ _)).trans (KeepsOthers.setCell _ _ _)).trans (KeepsOthers.setCell _ _ _)).trans (KeepsOthers.setCell _ _ _)).trans (KeepsOthers.setCell _ _ _)
/-- Behind the stores of a find's end. -/
theorem Fr.fin2 {w X W : World} {H : Nat} {at_ p e : Int} {x : Hd} {r : Bool} (h : Fr w W H at_ x p r e) (C : Ch (fun _ => False) w W) (K : KeepsOthers X W) (x' : Hd) (p' p'' : Int) (r' : Bool) (e' : Int) :
    Fr w ((((((((((((((((W.setCell ⟨w.heap.size + 1 + 1, 0, none⟩ (.int .u8 x'.kind)).setCell ⟨w.heap.size + 1 + 1, 1, none⟩ (.int .i64 x'.cls)).setCell ⟨w.heap.size + 1 + 1, 2, none⟩ (.int .i64 x'.elem)).setCell ⟨w.heap.size + 1 + 1, 3, none⟩ (.int .i64 x'.owner)).setCell ⟨w.heap.size + 1 + 1, 4, none⟩ (.int .u8 x'.flags)).setCell ⟨w.heap.size + 1 + 1, 5, none⟩ (.int .i64 x'.count)).setCell ⟨w.heap.size + 1 + 1 + 1, 0, none⟩ (.int .i64 p')).setCell ⟨w.heap.size + 1 + 1, 0, none⟩ (.int .u8 x'.kind)).setCell ⟨w.heap.size + 1 + 1, 1, none⟩ (.int .i64 x'.cls)).setCell ⟨w.heap.size + 1 + 1, 2, none⟩ (.int .i64 x'.elem)).setCell ⟨w.heap.size + 1 + 1, 3, none⟩ (.int .i64 x'.owner)).setCell ⟨w.heap.size + 1 + 1, 4, none⟩ (.int .u8 x'.flags)).setCell ⟨w.heap.size + 1 + 1, 5, none⟩ (.int .i64 x'.count)).setCell ⟨w.heap.size + 1 + 1 + 1, 0, none⟩ (.int .i64 p'')).setCell ⟨w.heap.size + 1 + 1 + 1 + 1, 0, none⟩ (.bool r')).setCell ⟨w.heap.size + 1 + 1 + 1 + 1 + 1, 0, none⟩ (.int .i64 e')).drew H at_ x' p'' r' e' ∧ Ch (fun _ => False) w ((((((((((((((((W.setCell ⟨w.heap.size + 1 + 1, 0, none⟩ (.int .u8 x'.kind)).setCell ⟨w.heap.size + 1 + 1, 1, none⟩ (.int .i64 x'.cls)).setCell ⟨w.heap.size + 1 + 1, 2, none⟩ (.int .i64 x'.elem)).setCell ⟨w.heap.size + 1 + 1, 3, none⟩ (.int .i64 x'.owner)).setCell ⟨w.heap.size + 1 + 1, 4, none⟩ (.int .u8 x'.flags)).setCell ⟨w.heap.size + 1 + 1, 5, none⟩ (.int .i64 x'.count)).setCell ⟨w.heap.size + 1 + 1 + 1, 0, none⟩ (.int .i64 p')).setCell ⟨w.heap.size + 1 + 1, 0, none⟩ (.int .u8 x'.kind)).setCell ⟨w.heap.size + 1 + 1, 1, none⟩ (.int .i64 x'.cls)).setCell ⟨w.heap.size + 1 + 1, 2, none⟩ (.int .i64 x'.elem)).setCell ⟨w.heap.size + 1 + 1, 3, none⟩ (.int .i64 x'.owner)).setCell ⟨w.heap.size + 1 + 1, 4, none⟩ (.int .u8 x'.flags)).setCell ⟨w.heap.size + 1 + 1, 5, none⟩ (.int .i64 x'.count)).setCell ⟨w.heap.size + 1 + 1 + 1, 0, none⟩ (.int .i64 p'')).setCell ⟨w.heap.size + 1 + 1 + 1 + 1, 0, none⟩ (.bool r')).setCell ⟨w.heap.size + 1 + 1 + 1 + 1 + 1, 0, none⟩ (.int .i64 e')).drew ∧ KeepsOthers X ((((((((((((((((W.setCell ⟨w.heap.size + 1 + 1, 0, none⟩ (.int .u8 x'.kind)).setCell ⟨w.heap.size + 1 + 1, 1, none⟩ (.int .i64 x'.cls)).setCell ⟨w.heap.size + 1 + 1, 2, none⟩ (.int .i64 x'.elem)).setCell ⟨w.heap.size + 1 + 1, 3, none⟩ (.int .i64 x'.owner)).setCell ⟨w.heap.size + 1 + 1, 4, none⟩ (.int .u8 x'.flags)).setCell ⟨w.heap.size + 1 + 1, 5, none⟩ (.int .i64 x'.count)).setCell ⟨w.heap.size + 1 + 1 + 1, 0, none⟩ (.int .i64 p')).setCell ⟨w.heap.size + 1 + 1, 0, none⟩ (.int .u8 x'.kind)).setCell ⟨w.heap.size + 1 + 1, 1, none⟩ (.int .i64 x'.cls)).setCell ⟨w.heap.size + 1 + 1, 2, none⟩ (.int .i64 x'.elem)).setCell ⟨w.heap.size + 1 + 1, 3, none⟩ (.int .i64 x'.owner)).setCell ⟨w.heap.size + 1 + 1, 4, none⟩ (.int .u8 x'.flags)).setCell ⟨w.heap.size + 1 + 1, 5, none⟩ (.int .i64 x'.count)).setCell ⟨w.heap.size + 1 + 1 + 1, 0, none⟩ (.int .i64 p'')).setCell ⟨w.heap.size + 1 + 1 + 1 + 1, 0, none⟩ (.bool r')).setCell ⟨w.heap.size + 1 + 1 + 1 + 1 + 1, 0, none⟩ (.int .i64 e')).drew :=
  ⟨((((h.put x' p').put x' p'').put4 r').put5 e').drew, (((Ch.sets7 (Ch.sets7 C x' p') x' p'').setCell (Or.inr (by dsimp only; omega)) _).setCell (Or.inr (by dsimp only; omega)) _).drew, (((Keeps.sets7 (w := w) (Keeps.sets7 (w := w) K x' p') x' p'').trans (KeepsOthers.setCell _ _ _)).trans (KeepsOthers.setCell _ _ _)).trans (keeps_drew _)⟩
/-- What is told of an object. -/
def fdv (f : Fd) : Value := .tuple #[enc f.x, .int .i64 f.p, .bool f.ram, .int .i64 f.e]
theorem ch6 (w : World) (o0 o1 o2 o3 o4 o5 : Obj) : Ch (fun _ => False) w ((((((w.alloc o0).alloc o1).alloc o2).alloc o3).alloc o4).alloc o5) := ((((((Ch.refl _ w).alloc _).alloc _).alloc _).alloc _).alloc _).alloc _
set_option maxHeartbeats 4000000 in
set_option maxRecDepth 100000 in
theorem hfind_dark (w : World) (H : Nat) (at_ : Int) 
    (ha : Hid (∀ w1, Ch (fun _ => False) w w1 → Calls Try.prog 26 #[.pointer (some ⟨H, 0, none⟩)] w1 fun e w' => e = .returned (.int .i64 13) ∧ Ch (fun _ => False) w1 w')) :
    Calls Try.prog 32 #[.pointer (some ⟨H, 0, none⟩), .int .i64 at_] w fun e w' => e = .returned (fdv ⟨.zero, 0, false, 13⟩) ∧ Ch (fun _ => False) w w' := by
  have F0 := Lib.hid (fr_new w H at_)
  have C0 := Lib.hid (ch6 w (.cells #[.pointer (some ⟨H, 0, none⟩)] 25) (.cells #[.int .i64 at_] 3) (.cells #[.int .u8 0, .int .i64 0, .int .i64 0, .int .i64 0, .int .u8 0, .int .i64 0] 46) (.cells #[.int .i64 0] 3) (.cells #[.bool false] 4) (.cells #[.int .i64 0] 34))
  go_enter Try.func32, Try.ntmps32
  go_wp2_with (go_at_call 26; refine (ha.out _ C0.out).mono ?_; rintro e w1 ⟨rfl, c1⟩; obtain ⟨c0, _, x0, x1, x2, x3, x4, x5, c3, c4, c5, f2, f3, f4, f5⟩ := (F0.out.gr c1 (fun _ _ _ h => h)).fc; simp only [Hd.zero] at x0 x1 x2 x3 x4 x5)
  refine bodyPost_ret (v := fdv ⟨.zero, 0, false, 13⟩) (by simp [results, Try.results32, go_sem, fdv, enc, Hd.zero, *]) rfl ⟨rfl, ?_⟩
  have C1 := C0.out.then c1
  repeat refine Ch.setCell ?_ (Or.inr (by dsimp only; omega)) _
  exact C1
set_option maxHeartbeats 4000000 in
set_option maxRecDepth 100000 in
theorem hfind_card (w : World) (H : Nat) (at_ : Int) (x : Hd) (p : Int) (hc : crd at_ = some (x, p))
    (ha : Hid (∀ w1, Ch (fun _ => False) w w1 → Calls Try.prog 26 #[.pointer (some ⟨H, 0, none⟩)] w1 fun e w' => e = .returned (.int .i64 0) ∧ Ch (fun _ => False) w1 w')) :
    Calls Try.prog 32 #[.pointer (some ⟨H, 0, none⟩), .int .i64 at_] w fun e w' => e = .returned (fdv ⟨x, p, true, 0⟩) ∧ Ch (fun _ => False) w w' := by
  have F0 := Lib.hid (fr_new w H at_)
  have C0 := Lib.hid (ch6 w (.cells #[.pointer (some ⟨H, 0, none⟩)] 25) (.cells #[.int .i64 at_] 3) (.cells #[.int .u8 0, .int .i64 0, .int .i64 0, .int .i64 0, .int .u8 0, .int .i64 0] 46) (.cells #[.int .i64 0] 3) (.cells #[.bool false] 4) (.cells #[.int .i64 0] 34))
  have hk := fun w1 => hcard_any w1 at_
  rw [hc] at hk
  obtain ⟨kd, cl, el, ow, fl, cn⟩ := x
  simp only [crdv, enc] at hk
  have HK := Lib.hid hk
  clear hk hc
  go_enter Try.func32, Try.ntmps32
  go_wp2_with (first | (go_at_call 26; refine (ha.out _ C0.out).mono ?_; rintro e w1 ⟨rfl, c1⟩; obtain ⟨c0, ca, x0, x1, x2, x3, x4, x5, c3, c4, c5, f2, f3, f4, f5⟩ := (F0.out.gr c1 (fun _ _ _ h => h)).fc) | (go_at_call 55; refine (HK.out _).mono ?_; rintro e w2 ⟨rfl, c2⟩; have FA := fun o => ((F0.out.gr c1 (fun _ _ _ h => h)).gr (c2.alloc o) (fun _ _ _ h => h)).fc; have y0 := fun o => (FA o).x0; have y1 := fun o => (FA o).x1; have y2 := fun o => (FA o).x2; have y3 := fun o => (FA o).x3; have y4 := fun o => (FA o).x4; have y5 := fun o => (FA o).x5; have d3 := fun o => (FA o).c3; have d4 := fun o => (FA o).c4; have d5 := fun o => (FA o).c5; have g2 := fun o => (FA o).f2; have g3 := fun o => (FA o).f3; have g4 := fun o => (FA o).f4; have g5 := fun o => (FA o).f5; clear FA))
  refine bodyPost_ret (v := fdv ⟨⟨kd, cl, el, ow, fl, cn⟩, p, true, 0⟩) (by simp [results, Try.results32, go_sem, fdv, enc, *]) rfl ⟨rfl, ?_⟩
  repeat refine Ch.setCell ?_ (Or.inr (by dsimp only; omega)) _
  exact (C0.out.then c1).then (c2.alloc _)
/-- What the range over objects holds to in find. -/
def FI (w : World) (F : Nat → Prop) (H T N R L : Nat) (s : St) (at_ : Int) (X : Nat) (pre : List Pl) (W : World) : Prop :=
  Fr w W H at_ .zero 0 false 0 ∧ It W F H T N R L s X ∧ Ch (fun _ => False) w W ∧ at_ ∉ pre.map (·.1)
def FX (w : World) (H : Nat) (s : St) (at_ : Int) (pre : List Pl) (W : World) : Prop :=
  (∃ H', Fr w W H' at_ (hd s at_) (if lst (hd s at_).flags = true then hpl s at_ else 2 * (at_ + 4)) (lst (hd s at_).flags) 0) ∧ Ch (fun _ => False) w W ∧ at_ ∈ pre.map (·.1)
set_option maxHeartbeats 4000000 in
set_option maxRecDepth 100000 in
theorem hfind_loop {w : World} {F : Nat → Prop} {H T N R L : Nat} {s : St} {m : List Int} (h : Hx w F H T N R L s m) (at_ : Int) (hc : crd at_ = none) (hd0 : s.dark = false) :
    Calls Try.prog 32 #[.pointer (some ⟨H, 0, none⟩), .int .i64 at_] w fun e w' => e = .returned (fdv (hfind s at_)) ∧ Ch (fun _ => False) w w' := by
  have F0 := Lib.hid (fr_new w H at_)
  have C0 := Lib.hid (ch6 w (.cells #[.pointer (some ⟨H, 0, none⟩)] 25) (.cells #[.int .i64 at_] 3) (.cells #[.int .u8 0, .int .i64 0, .int .i64 0, .int .i64 0, .int .u8 0, .int .i64 0] 46) (.cells #[.int .i64 0] 3) (.cells #[.bool false] 4) (.cells #[.int .i64 0] 34))
  have hk := fun w1 => hcard_any w1 at_
  rw [hc] at hk
  simp only [crdv, enc, Hd.zero] at hk
  have HK := Lib.hid hk
  clear hk
  have hp0 : s.pow = 0 := by simp [St.pow, hd0]
  refine (callsIn_wide (n := 3)).1 ?_
  refine callsIn_of_wp_marks Try.func32 rfl trivial ?_ rfl
  simp only [Try.ntmps32, List.size_toArray, List.length_cons, List.length_nil, Nat.reduceAdd, Nat.reduceSub, Array.replicate_succ, Array.replicate_zero, List.push_toArray, List.append_toArray, List.nil_append, List.cons_append]
  have ha := fun w1 (c : Ch (fun _ => False) w w1) => halive_any (h.gr c)
  rw [hp0] at ha
  have HA := Lib.hid ha
  clear ha
  gi_wp2_with (first | (refine ⟨trivial, ?_⟩; gi_at_call 26; refine (callsIn_wide.2 (HA.out _ C0.out)).mono ?_; rintro e w1 ⟨rfl, c1⟩; obtain ⟨c0, ca, _, _, _, _, _, _, _, _, _, _, _, _, _⟩ := (F0.out.gr c1 (fun _ _ _ h => h)).fc) | (refine ⟨trivial, ?_⟩; gi_at_call 55; refine (callsIn_wide.2 (HK.out _)).mono ?_; rintro e w2 ⟨rfl, c2⟩; have FA := fun o => ((F0.out.gr c1 (fun _ _ _ h => h)).gr (c2.alloc o) (fun _ _ _ h => h)).fc; have y0 := fun o => (FA o).c0; have y1 := fun o => (FA o).c1; clear FA) | (refine ⟨trivial, ?_⟩; gi_at_call 37; refine (callsIn_wide.2 (hobj_any _ H)).mono ?_; rintro e w3 ⟨rfl, rfl⟩))
  have h2 := h.gr ((C0.out.then c1).then c2)
  have hC2 := (C0.out.then c1).then c2
  have hsz := hC2.size
  have hw6 : w.heap.size + 6 ≤ w2.heap.size := Nat.le_trans (by simp) (c1.then c2).size
  have FR : Fr w ((w2.alloc (.cells #[.int .u8 0, .int .i64 0, .int .i64 0, .int .i64 0, .int .u8 0, .int .i64 0] 46)).alloc (.cells #[.pointer (some ⟨H, 0, none⟩)] 25)) H at_ .zero 0 false 0 := ((F0.out.gr c1 (fun _ _ _ h => h)).gr ((c2.alloc _).alloc _) (fun _ _ _ h => h))
  have CR : Ch (fun _ => False) w ((w2.alloc (.cells #[.int .u8 0, .int .i64 0, .int .i64 0, .int .i64 0, .int .u8 0, .int .i64 0] 46)).alloc (.cells #[.pointer (some ⟨H, 0, none⟩)] 25)) := (hC2.alloc _).alloc _
  have hwr : ((w2.alloc (.cells #[.int .u8 0, .int .i64 0, .int .i64 0, .int .i64 0, .int .u8 0, .int .i64 0] 46)).alloc (.cells #[.pointer (some ⟨H, 0, none⟩)] 25)).heap.size = w2.heap.size + 2 := by simp
  have hX : Blk ((w2.alloc (.cells #[.int .u8 0, .int .i64 0, .int .i64 0, .int .i64 0, .int .u8 0, .int .i64 0] 46)).alloc (.cells #[.pointer (some ⟨H, 0, none⟩)] 25)) (w2.heap.size + 1) #[.pointer (some ⟨H, 0, none⟩)] 25 := blk_at (Blk.new _ _ _) (by simp)
  have HR := h.gr CR
  generalize (w2.alloc (.cells #[.int .u8 0, .int .i64 0, .int .i64 0, .int .i64 0, .int .u8 0, .int .i64 0] 46)).alloc (.cells #[.pointer (some ⟨H, 0, none⟩)] 25) = WR at *
  have IR : It WR F H T N R L s (w2.heap.size + 1) := ⟨HR.h, HR.t, hX, HR.r.lt⟩
  have hlt := h.lt
  have hFb : ∀ k, F k → k < w.heap.size := fun k hk => hlt k (Or.inl hk)
  have hHb : H < w.heap.size := hlt _ (Or.inr (Or.inl rfl))
  have hTb : T < w.heap.size := hlt _ (Or.inr (Or.inr (Or.inl rfl)))
  have hRb : R < w.heap.size := hlt _ (Or.inr (Or.inr (Or.inr rfl)))
  have hok := h.ok
  have own : ∀ (S : Prop) {A C : World} {row : Option Nat}, A.grownBy C row → (∀ r, row = some r → WR.heap.size ≤ r ∧ ∃ o : Obj, A.heap[r]? = some o ∧ o.isCells = false) → Ch (fun k => w2.heap.size + 2 ≤ k) A C := fun _ {A C row} hg hr => (grown_ch hg).mono (fun k hk => by have := (hr k hk.symm).1; omega)
  have chw : ∀ {A C : World}, Ch (fun _ => False) w A → Ch (fun k => w2.heap.size + 2 ≤ k) A C → Ch (fun _ => False) w C := fun a c => a.trans c (fun _ h => h) (fun k hk => Or.inr (by omega))
  clear HA HK F0 C0 y0 y1 c0 ca
  refine wpIn_rangeFunc_ownF (n := 3) rfl (by decide) (gf := 58) (lb := #[.pointer (some ⟨w2.heap.size + 1, 0, none⟩)]) rfl trivial (enters_of Try.func58 (by kernel_rfl) rfl)
    (hobj1_seq WR F H T N R L w.heap.size (w2.heap.size + 1) 2 s (by decide) IR hFb hHb hTb ⟨h.fr, h.rh, h.rt, by omega⟩ (by omega)) kh_t (kh_b (by omega) (by omega)) (Below.refl _ _) (fun _ => rfl)
    (FI w F H T N R L s at_ (w2.heap.size + 1)) (fun c pre W => c = .ret ∧ FX w H s at_ pre W)
    (fun p A C row hs hg hr => by
      have c := own True hg hr
      exact ⟨hs.1.gr c (fun k _ _ => by omega), hs.2.1.ch c (fun k hk => by rcases hk with hk | rfl | rfl | rfl <;> first | omega | (have := hFb k hk; omega)), chw hs.2.2.1 c, hs.2.2.2⟩)
    (fun c0 p A C row hs hg hr => by
      have c := own True hg hr
      obtain ⟨h0, ⟨H', hf⟩, h1, h2⟩ := hs
      exact ⟨h0, ⟨H', hf.gr c (fun k _ _ => by omega)⟩, chw h1 c, h2⟩)
    ⟨FR, IR, CR, by simp⟩
    (fun x => { tmps := #[.pointer (some ⟨H, 0, none⟩), .int .i64 at_, .pointer (some ⟨w.heap.size, 0, none⟩), .pointer (some ⟨w.heap.size + 1, 0, none⟩), .pointer (some ⟨w.heap.size + 1 + 1, 0, none⟩), .pointer (some ⟨w.heap.size + 1 + 1 + 1, 0, none⟩), .pointer (some ⟨w.heap.size + 1 + 1 + 1 + 1, 0, none⟩), .pointer (some ⟨w.heap.size + 1 + 1 + 1 + 1 + 1, 0, none⟩), .int .i64 0, .pointer (some ⟨w2.heap.size, 0, none⟩), .int .i64 0, .bool false, .int .i64 x.1, .pointer (some ⟨H, 0, none⟩), .int .i64 0, .int .i64 0, .bool false, undef, undef, .tuple #[.agg #[.int .u8 0, .int .i64 0, .int .i64 0, .int .i64 0, .int .u8 0, .int .i64 0], .int .i64 0, .bool false], .int .i64 at_, .tuple #[.agg #[.int .u8 0, .int .i64 0, .int .i64 0, .int .i64 0, .int .u8 0, .int .i64 0], .int .i64 0, .bool false], .agg #[.int .u8 0, .int .i64 0, .int .i64 0, .int .i64 0, .int .u8 0, .int .i64 0], .int .i64 0, .bool false, .bool false, undef, undef, .pointer (some ⟨H, 0, none⟩), .func (.func 58) #[] #[.pointer (some ⟨w2.heap.size + 1, 0, none⟩)], .int .i64 x.1, undef, undef, undef, undef, undef, undef, undef, undef, undef, undef, undef, undef, undef, undef, undef, undef, undef, undef, undef, undef], defers := [] }) ?assign ?body ?done ?stop
  case assign =>
    intro l x W K hK
    gi_wp2
    exact hK
  case body =>
    rintro l pre ⟨x, hx⟩ W ⟨hF, hI, hC, hn⟩ _
    obtain ⟨d0, da, x0, x1, x2, x3, x4, x5, d3, d4, d5, f2, f3, f4, f5⟩ := hF.fc
    dsimp only
    by_cases he : x = at_
    · subst he
      have hb := hd_b hok x
      have hpb := hpl_b hok x
      have hhd := hI.head x (by omega) (by omega)
      have hfx : ∀ W', FX w H s x (pre ++ [⟨x, hx⟩]) W' ↔ (∃ H', Fr w W' H' x (hd s x) (if lst (hd s x).flags = true then hpl s x else 2 * (x + 4)) (lst (hd s x).flags) 0) ∧ Ch (fun _ => False) w W' := fun W' => by simp [FX]
      have HX := Lib.hid hfx
      generalize hd s x = y at *
      generalize hpl s x = pl at *
      obtain ⟨kd, cl, el, ow, fl, cn⟩ := y
      simp only [enc] at hhd
      have HH := Lib.hid hhd
      have A3 := and3 hb.f0 hb.f1
      clear hhd hfx
      dsimp only at A3
      by_cases hl : lst fl = true
      · have b : (fl % 4 != 0) = true := hl
        gi_wp2_with (refine ⟨trivial, ?_⟩; gi_at_call 40; refine (CallsIn.inRound l (callsIn_wide.2 HH.out)).mono ?_; rintro e w4 ⟨rfl, c4⟩; obtain ⟨_, _, y0, y1, y2, y3, y4, y5, e3, e4, e5, g2, g3, g4, g5⟩ := (hF.gr c4 (fun _ _ _ h => h)).fc)
        gi_region
        all_goals gi_wp2
        all_goals
          obtain ⟨q0, q1, q2⟩ := Fr.fin2 (hF.gr c4 (fun _ _ _ h => h)) (hC.then c4) (ch_keeps c4) ⟨kd, cl, el, ow, fl, cn⟩ pl pl true 0
          exact ⟨q2, rfl, (HX.out _).2 ⟨⟨H, by simp only [hl, if_true, if_false, Bool.false_eq_true]; exact q0⟩, q1⟩⟩
      · have b : (fl % 4 != 0) = false := by simpa [lst] using hl
        have hl2 : lst fl = false := by simpa using hl
        have hw1 : IntKind.i64.wrap (x + 4) = x + 4 := wr64 (by omega) (by omega)
        have hw2 : IntKind.i64.wrap (2 * (x + 4)) = 2 * (x + 4) := wr64 (by omega) (by omega)
        gi_wp2_with (refine ⟨trivial, ?_⟩; gi_at_call 40; refine (CallsIn.inRound l (callsIn_wide.2 HH.out)).mono ?_; rintro e w4 ⟨rfl, c4⟩; obtain ⟨_, _, y0, y1, y2, y3, y4, y5, e3, e4, e5, g2, g3, g4, g5⟩ := (hF.gr c4 (fun _ _ _ h => h)).fc)
        have z1 := (hF.gr c4 (fun _ _ _ h => h)).fc.c1
        gi_region
        all_goals gi_wp2
        all_goals
          obtain ⟨q0, q1, q2⟩ := Fr.fin2 (hF.gr c4 (fun _ _ _ h => h)) (hC.then c4) (ch_keeps c4) ⟨kd, cl, el, ow, fl, cn⟩ pl (2 * (x + 4)) false 0
          exact ⟨q2, rfl, (HX.out _).2 ⟨⟨H, by simp only [hl2, if_true, if_false, Bool.false_eq_true]; exact q0⟩, q1⟩⟩
    · have hbb : (x == at_) = false := beq_eq_false_iff_ne.2 he
      gi_wp2
      exact ⟨KeepsOthers.refl _, Ch.refl _ _, hF, hI, hC, by simp; exact ⟨by simpa using hn, fun h => he h.symm⟩⟩
  case done =>
    rintro D xs W hD hxs ⟨hF, hI, hC, hn⟩ hK
    obtain ⟨d0, da, x0, x1, x2, x3, x4, x5, d3, d4, d5, f2, f3, f4, f5⟩ := hF.fc
    simp only [Hd.zero] at x0 x1 x2 x3 x4 x5
    gi_wp2
    have F3 := ((hF.put .zero 0).put4 false).put5 6
    simp only [Hd.zero] at F3
    refine ⟨by simp, .inl ⟨_, _, rfl, run_takeDeferred ((keeps9 W _ _ _ _ _ _ _ _ _ _ _ _ _ _ _ _ _ _).same D _ hK rfl), ?_⟩⟩
    obtain ⟨_, _, q0, q1, q2, q3, q4, q5, q6, q7, q8, _, _, _, _⟩ := (F3.gr (grown_ch (grownBy_putObj' _ D (.deferred none))) (fun k _ _ e => by cases e; omega)).fc
    dsimp only at q0 q1 q2 q3 q4 q5
    have hfd : hfind s at_ = ⟨.zero, 0, false, 6⟩ := by
      unfold hfind
      rw [if_neg (by simp [hd0]), hc]
      simp only []
      rw [if_neg (by rw [← hxs]; exact hn)]
    rw [hfd]
    refine ⟨fdv ⟨.zero, 0, false, 6⟩, by simp [results, Try.f32, go_sem, fdv, enc, Hd.zero, q0, q1, q2, q3, q4, q5, q6, q7, q8], rfl, ?_⟩
    refine chw ?_ ((grown_ch (grownBy_putObj' _ D (.deferred none))).mono (fun k e => by cases e; omega))
    repeat refine Ch.setCell ?_ (Or.inr (by dsimp only; omega)) _
    exact hC
  case stop =>
    rintro D c pre W hD hp ⟨rfl, ⟨H', hF⟩, hC, hm⟩ hK
    have hm2 : at_ ∈ places s := hp.subset hm
    gi_wp2
    refine ⟨by simp, .inl ⟨_, _, rfl, run_takeDeferred hK, ?_⟩⟩
    have F2 := (hF.gr (grown_ch (grownBy_putObj' W D (.deferred none))) (fun k _ _ e => by cases e; omega)).fc
    have C2 : Ch (fun _ => False) w (W.putObj D (.deferred none)) := chw hC ((grown_ch (grownBy_putObj' W D (.deferred none))).mono (fun k e => by cases e; omega))
    have hfd : hfind s at_ = ⟨hd s at_, (if lst (hd s at_).flags = true then hpl s at_ else 2 * (at_ + 4)), lst (hd s at_).flags, 0⟩ := by
      unfold hfind
      rw [if_neg (by simp [hd0]), hc]
      simp only [if_pos hm2]
      by_cases hl : lst (hd s at_).flags = true
      · simp [hl]
      · simp [hl]
    rw [hfd]
    refine ⟨_, by simp [results, Try.f32, go_sem, fdv, enc, F2.x0, F2.x1, F2.x2, F2.x3, F2.x4, F2.x5, F2.c3, F2.c4, F2.c5], rfl, C2⟩
theorem hfind_any {w : World} {F : Nat → Prop} {H T N R L : Nat} {s : St} {m : List Int} (h : Hx w F H T N R L s m) (at_ : Int) :
    Calls Try.prog 32 #[.pointer (some ⟨H, 0, none⟩), .int .i64 at_] w fun e w' => e = .returned (fdv (hfind s at_)) ∧ Ch (fun _ => False) w w' := by
  have hp := fun w1 (c : Ch (fun _ => False) w w1) => halive_any (h.gr c)
  by_cases hd : s.dark = true
  · have e : hfind s at_ = ⟨.zero, 0, false, 13⟩ := if_pos hd
    rw [show s.pow = 13 by simp [St.pow, hd]] at hp
    rw [e]
    exact hfind_dark w H at_ hp
  · rw [show s.pow = 0 by simp [St.pow, hd]] at hp
    cases hc : crd at_ with
    | none => exact hfind_loop h at_ hc (by simpa using hd)
    | some q =>
      obtain ⟨x, p⟩ := q
      have e : hfind s at_ = ⟨x, p, true, 0⟩ := by unfold hfind; rw [if_neg hd, hc]
      rw [e]
      exact hfind_card w H at_ x p hc hp
end Go.Proofs.Ytjeaidmmhplglaa.Nvm
