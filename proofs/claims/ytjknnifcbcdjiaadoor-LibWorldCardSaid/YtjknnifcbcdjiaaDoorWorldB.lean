/- Words for the walk of the card's world: what a round of its loop holds, and what keeps it. -/
import Derived.Test.YtjknnifcbcdjiaaDoorTabDefs
set_option linter.unusedVariables false
set_option linter.unusedSimpArgs false
namespace Go.Proofs.YtjknnifcbcdjiaaDoor.Tab
open Go.RowKit Go.Proofs.YtjknnifcbcdjiaaDoor.Base Go.Proofs.YtjknnifcbcdjiaaDoorW.PrintWords Go.Proofs.YtjknnifcbcdjiaaDoorW.PrintLast
/-- A linked class, a linked method, an export, of the card's package. -/
structure ClsM where
  flags : Int
  super : Int
  fields : List (Int × Int)
  virtuals : List Int
structure MetM where
  f : Int
  cl : Int
  ps : List (Int × Int)
  k : Int
  c : Int
  n : Int
structure ExpM where
  cl : Int
  ms : List Int
def icells (xs : List Int) : List Value := xs.map (.int .i64)
def Ints (w : World) (base : Nat) (v : Value) (xs : List Int) : Prop := w.ownsRow base 3 1 v xs.length (icells xs)
def ClsRep (w : World) (base : Nat) (c : ClsM) (cs : List Value) : Prop := ∃ vf vv, cs = [.int .i64 0, .int .u8 c.flags, .int .i64 c.super, .slice none 0 0, vf, vv, .slice none 0 0] ∧ Ty w base vf c.fields ∧ Ints w base vv c.virtuals
def MetRep (w : World) (base : Nat) (m : MetM) (cs : List Value) : Prop := ∃ v, cs = [.int .i64 0, .int .u8 m.f, .int .i64 m.cl, v, .int .u8 m.k, .int .u16 m.c, .int .i64 0, .int .i64 0, .slice none 0 0, .slice none 0 0, .int .i64 m.n] ∧ Ty w base v m.ps
def ExpRep (w : World) (base : Nat) (x : ExpM) (cs : List Value) : Prop := ∃ v, cs = [.int .i64 x.cl, .slice none 0 0, v] ∧ Ints w base v x.ms
/-- What was there at wr, of these types, is there. -/
def Oq (wr w : World) : Prop := ∀ (k : Nat) (cs : Array Value) (t : TypeId), (t = 33 ∨ t = 3 ∨ t = 77 ∨ t = 75) → wr.heap[k]? = some (Obj.cells cs t (0, 0)) → w.heap[k]? = some (Obj.cells cs t (0, 0))
theorem Oq.refl (w : World) : Oq w w := fun _ _ _ _ h => h
theorem Oq.kp {wr w w' : World} {T : TypeId} (h : Oq wr w) (k : Kp T w w') (h1 : 33 ≠ T) (h2 : 3 ≠ T) (h3 : 77 ≠ T) (h4 : 75 ≠ T) : Oq wr w' := fun b cs t ht hb => by
  refine k b cs t (h b cs t ht hb) ?_
  rcases ht with rfl | rfl | rfl | rfl
  · exact h1
  · exact h2
  · exact h3
  · exact h4
theorem Oq.gr {wr w w' : World} (h : Oq wr w) (c : Ch (fun _ => False) w w') : Oq wr w' := h.kp (T := 0) (kp_ch c) (by decide) (by decide) (by decide) (by decide)
theorem Oq.row {wr w w' : World} {e : TypeId} {size n : Nat} {v : Value} {xs : List Value} (h : Oq wr w) (o : w.ownsRow wr.heap.size e size v n xs) (g : w.grownBy w' v.ownBlock) : Oq wr w' := fun b cs t ht hb => by
  have h1 := h b cs t ht hb
  refine (g.block b (Array.getElem?_eq_some_iff.1 h1).1 (fun e => ?_)).trans h1
  have := own_base o b e.symm
  have := (Array.getElem?_eq_some_iff.1 hb).1
  omega
theorem own_oq {wr w : World} {base n size : Nat} {e : TypeId} {v : Value} {xs : List Value} (o : wr.ownsRow base e size v n xs) (h : Oq wr w) (he : e = 33 ∨ e = 3 ∨ e = 77 ∨ e = 75) : w.ownsRow base e size v n xs :=
  own_move o (fun b hb => by
    obtain ⟨cells, hc⟩ := own_typed o b hb
    rw [h b cells e he hc, hc])
theorem Ty.oq {wr w : World} {base : Nat} {v : Value} {ts : List (Int × Int)} (h : Ty wr base v ts) (q : Oq wr w) : Ty w base v ts := own_oq h q (Or.inl rfl)
theorem Ints.oq {wr w : World} {base : Nat} {v : Value} {ts : List Int} (h : Ints wr base v ts) (q : Oq wr w) : Ints w base v ts := own_oq h q (Or.inr (Or.inl rfl))
theorem NatRep.oq {wr w : World} {base : Nat} {x : NatM} {cs : List Value} (h : NatRep wr base x cs) (q : Oq wr w) : NatRep w base x cs := by
  obtain ⟨v, e, t⟩ := h
  exact ⟨v, e, t.oq q⟩
theorem Nt.oq {wr w : World} {base : Nat} {v : Value} {ns : List NatM} (h : Nt wr base v ns) (q : Oq wr w) : Nt w base v ns := by
  obtain ⟨xs, o, r⟩ := h
  exact ⟨xs, own_oq o q (Or.inr (Or.inr (Or.inl rfl))), r.imp_ (fun _ _ h => h.oq q)⟩
theorem RowRep.oq {wr w : World} {base : Nat} {r : RowM} {cs : List Value} (h : RowRep wr base r cs) (q : Oq wr w) : RowRep w base r cs := by
  obtain ⟨vf, vv, vo, e, a, b, c⟩ := h
  exact ⟨vf, vv, vo, e, a.oq q, b.oq q, c.oq q⟩
theorem Out.oq {wr w : World} {base : Nat} {v : Value} {rs : List RowM} (h : Out wr base v rs) (q : Oq wr w) : Out w base v rs := by
  obtain ⟨xs, o, r⟩ := h
  exact ⟨xs, own_oq o q (Or.inr (Or.inr (Or.inr rfl))), r.imp_ (fun _ _ h => h.oq q)⟩
theorem ClsRep.oq {wr w : World} {base : Nat} {r : ClsM} {cs : List Value} (h : ClsRep wr base r cs) (q : Oq wr w) : ClsRep w base r cs := by
  obtain ⟨vf, vv, e, a, b⟩ := h
  exact ⟨vf, vv, e, a.oq q, b.oq q⟩
theorem MetRep.oq {wr w : World} {base : Nat} {r : MetM} {cs : List Value} (h : MetRep wr base r cs) (q : Oq wr w) : MetRep w base r cs := by
  obtain ⟨v, e, a⟩ := h
  exact ⟨v, e, a.oq q⟩
theorem ExpRep.oq {wr w : World} {base : Nat} {r : ExpM} {cs : List Value} (h : ExpRep wr base r cs) (q : Oq wr w) : ExpRep w base r cs := by
  obtain ⟨v, e, a⟩ := h
  exact ⟨v, e, a.oq q⟩
theorem _root_.Go.Proofs.YtjknnifcbcdjiaaDoor.Base.Blk.kp {w w' : World} {B : Nat} {cs : Array Value} {U T : TypeId} (h : Blk w B cs U) (k : Kp T w w') (hT : U ≠ T) : Blk w' B cs U := ⟨k _ _ _ h.heap hT⟩
theorem set_kp {w : World} {B : Nat} {cs : Array Value} {T : TypeId} (h : Blk w B cs T) (j : Nat) (v : Value) : Kp T w (w.setCell ⟨B, j, none⟩ v) := fun k ds t hk ht => by
  refine (Below.heap_setCell w ⟨B, j, none⟩ v k (fun e => ?_)).trans hk
  subst e
  have := h.heap.symm.trans hk
  injection this with this
  injection this with _ this _
  exact ht this.symm
theorem blk_other {w : World} {B : Nat} {cs : Array Value} {T : TypeId} (h : Blk w B cs T) {p : Addr} (hn : B ≠ p.block) (v : Value) : Blk (w.setCell p v) B cs T := ⟨(Below.heap_setCell w p v B hn).trans h.heap⟩
theorem own_far {w : World} {base n size g j : Nat} {e : TypeId} {v : Value} {xs : List Value} (o : w.ownsRow base e size v n xs) (h : v.ownBlock ≠ some g) (u : Value) : (w.setCell ⟨g, j, none⟩ u).ownsRow base e size v n xs :=
  own_move o (fun k hk => Below.heap_setCell w ⟨g, j, none⟩ u k (fun e => h (by rw [hk, e])))
theorem blk_row {w w' : World} {B : Nat} {cs : Array Value} {T : TypeId} {row : Option Nat} (h : Blk w B cs T) (g : w.grownBy w' row) (hn : row ≠ some B) : Blk w' B cs T := ⟨(g.block B h.lt (Ne.symm hn)).trans h.heap⟩
theorem own_row {w w' : World} {base n size : Nat} {e : TypeId} {v : Value} {xs : List Value} {row : Option Nat} (o : w.ownsRow base e size v n xs) (g : w.grownBy w' row) (hn : ∀ k, v.ownBlock = some k → row ≠ some k) : w'.ownsRow base e size v n xs :=
  own_move o (fun k hk => g.block k (own_lt o k hk) (Ne.symm (hn k hk)))
/-- What a round holds: wr the world at its head, w0 the call's. -/
structure Rd (q : Bool) (w0 wr : World) (Z W1 NB P R Cb X : Nat) (rc : Array Value) (fl su i : Int) (v1 v3 cf cv cx cm vf vv vx v2 : Value) (nc ne : Nat) (xc xe xm : List Value) (fs : List (Int × Int)) (vs xs : List Int) (ms : List MetM) (w : World) : Prop where
  oq : Oq wr w
  ch : Ch (fun _ => False) w0 w
  z : Blk w Z #[.slice none 0 0, .slice none 0 0, .slice none 0 0, .slice none 0 0] 27
  w1 : Blk w W1 #[v1, cm, .slice none 0 0, .slice none 0 0] 27
  nb : Blk w NB #[.int .u8 160, .int .u8 0, .int .u8 0, .int .u8 0, .int .u8 98, .int .u8 1, .int .u8 1] 5
  p : Blk w P #[.slice (some ⟨NB, 0, none⟩) 7 7, .int .u8 1, .int .u8 0, .bool false, v3, .slice none 0 0] 56
  r : Blk w R rc 75
  c : Blk w Cb #[.int .i64 0, .int .u8 fl, .int .i64 su, .slice none 0 0, cf, cv, .slice none 0 0] 44
  x : q = true → Blk w X #[.int .i64 i, .slice none 0 0, cx] 67
  of : w.ownsRow wr.heap.size 33 2 vf fs.length (tcells fs)
  ov : w.ownsRow wr.heap.size 3 1 vv vs.length (icells vs)
  ox : w.ownsRow wr.heap.size 3 1 vx xs.length (icells xs)
  oc : w.ownsRow w0.heap.size 44 7 v1 nc xc
  oe : w.ownsRow w0.heap.size 67 3 v3 ne xe
  om : w.ownsRow w0.heap.size 39 11 v2 ms.length xm
  mr : Reps (MetRep wr w0.heap.size) 11 ms xm
  zw : Z ≠ W1
  hw : w0.heap.size ≤ W1
  hp : w0.heap.size ≤ P
  hr : wr.heap.size ≤ R
  hc : wr.heap.size ≤ Cb
  hx : q = true → wr.heap.size ≤ X
  vx_ : ∀ k, vv.ownBlock = some k → vx.ownBlock ≠ some k
  lc : ∀ k, v1.ownBlock = some k → k < wr.heap.size
  le : ∀ k, v3.ownBlock = some k → k < wr.heap.size
  hz : w0.heap.size ≤ wr.heap.size
section
variable {q : Bool} {w0 wr : World} {Z W1 NB P R Cb X : Nat} {rc : Array Value} {fl su i : Int} {v1 v3 cf cv cx cm vf vv vx v2 : Value} {nc ne : Nat} {xc xe xm : List Value} {fs : List (Int × Int)} {vs xs : List Int} {ms : List MetM} {w w' : World}
theorem Rd.gr (h : Rd q w0 wr Z W1 NB P R Cb X rc fl su i v1 v3 cf cv cx cm vf vv vx v2 nc ne xc xe xm fs vs xs ms w) (c : Ch (fun _ => False) w w') : Rd q w0 wr Z W1 NB P R Cb X rc fl su i v1 v3 cf cv cx cm vf vv vx v2 nc ne xc xe xm fs vs xs ms w' :=
  have k : Kp 0 w w' := kp_ch c
  { h with oq := h.oq.gr c, ch := h.ch.then c, z := h.z.kp k (by decide), w1 := h.w1.kp k (by decide), nb := h.nb.kp k (by decide), p := h.p.kp k (by decide), r := h.r.kp k (by decide), c := h.c.kp k (by decide), x := fun e => (h.x e).kp k (by decide)
           of := own_kp h.of k (by decide), ov := own_kp h.ov k (by decide), ox := own_kp h.ox k (by decide), oc := own_kp h.oc k (by decide), oe := own_kp h.oe k (by decide), om := own_kp h.om k (by decide) }
theorem grow_base {base n size : Nat} {e : TypeId} {v : Value} {ys : List Value} (hb : w0.heap.size ≤ base) (c : Ch (fun _ => False) w0 w) (o : w.ownsRow base e size v n ys) (g : w.grownBy w' v.ownBlock) : Ch (fun _ => False) w0 w' :=
  c.trans (T := fun k => some k = v.ownBlock) ⟨g.os, g.tape, g.output, g.size, fun k hk hn => g.block k hk hn⟩ (fun _ h => h) (fun k hk => Or.inr (Nat.le_trans hb (own_base o k hk.symm)))
theorem set_base {g j : Nat} (hb : w0.heap.size ≤ g) (c : Ch (fun _ => False) w0 w) (u : Value) : Ch (fun _ => False) w0 (w.setCell ⟨g, j, none⟩ u) := c.setCell (p := ⟨g, j, none⟩) (Or.inr hb) u
/-- c.Fields has grown. -/
theorem Rd.growF (h : Rd q w0 wr Z W1 NB P R Cb X rc fl su i v1 v3 cf cv cx cm vf vv vx v2 nc ne xc xe xm fs vs xs ms w) {vf' : Value} {fs' : List (Int × Int)} (g : w.grownBy w' vf.ownBlock) (o : w'.ownsRow wr.heap.size 33 2 vf' fs'.length (tcells fs')) :
    Rd q w0 wr Z W1 NB P R Cb X rc fl su i v1 v3 cf cv cx cm vf' vv vx v2 nc ne xc xe xm fs' vs xs ms w' :=
  have k := kp_row h.of g
  { h with oq := h.oq.row h.of g, ch := grow_base h.hz h.ch h.of g, z := h.z.kp k (by decide), w1 := h.w1.kp k (by decide), nb := h.nb.kp k (by decide), p := h.p.kp k (by decide), r := h.r.kp k (by decide), c := h.c.kp k (by decide), x := fun e => (h.x e).kp k (by decide)
           of := o, ov := own_kp h.ov k (by decide), ox := own_kp h.ox k (by decide), oc := own_kp h.oc k (by decide), oe := own_kp h.oe k (by decide), om := own_kp h.om k (by decide) }
theorem apart_own {base : Nat} {ys : List Value} {v v' u : Value} {m : Nat} {e : TypeId} {s : Nat} (hu : w.ownsRow base e s u m ys) (hat : v'.ownBlock = v.ownBlock ∨ ∃ b, v'.ownBlock = some b ∧ w.heap.size ≤ b) (h : ∀ k, v.ownBlock = some k → u.ownBlock ≠ some k) : ∀ k, v'.ownBlock = some k → u.ownBlock ≠ some k := fun k hk hu' => by
  rcases hat with e1 | ⟨b, e1, hb⟩
  · exact h k (e1 ▸ hk) hu'
  · rw [hk] at e1
    injection e1 with e1
    have := own_lt hu k hu'
    omega
/-- c.Virtuals has grown. -/
theorem Rd.growV (h : Rd q w0 wr Z W1 NB P R Cb X rc fl su i v1 v3 cf cv cx cm vf vv vx v2 nc ne xc xe xm fs vs xs ms w) {vv' : Value} {vs' : List Int} (g : w.grownBy w' vv.ownBlock) (o : w'.ownsRow wr.heap.size 3 1 vv' vs'.length (icells vs'))
    (hat : vv'.ownBlock = vv.ownBlock ∨ ∃ b, vv'.ownBlock = some b ∧ w.heap.size ≤ b) : Rd q w0 wr Z W1 NB P R Cb X rc fl su i v1 v3 cf cv cx cm vf vv' vx v2 nc ne xc xe xm fs vs' xs ms w' :=
  have k := kp_row h.ov g
  { h with oq := h.oq.row h.ov g, ch := grow_base h.hz h.ch h.ov g, z := h.z.kp k (by decide), w1 := h.w1.kp k (by decide), nb := h.nb.kp k (by decide), p := h.p.kp k (by decide), r := h.r.kp k (by decide), c := h.c.kp k (by decide), x := fun e => (h.x e).kp k (by decide)
           of := own_kp h.of k (by decide), ov := o, ox := own_row h.ox g (fun b hb e => h.vx_ b e hb), oc := own_kp h.oc k (by decide), oe := own_kp h.oe k (by decide), om := own_kp h.om k (by decide)
           vx_ := apart_own h.ox hat h.vx_ }
/-- x.Methods has grown. -/
theorem Rd.growX (h : Rd q w0 wr Z W1 NB P R Cb X rc fl su i v1 v3 cf cv cx cm vf vv vx v2 nc ne xc xe xm fs vs xs ms w) {vx' : Value} {xs' : List Int} (g : w.grownBy w' vx.ownBlock) (o : w'.ownsRow wr.heap.size 3 1 vx' xs'.length (icells xs'))
    (hat : vx'.ownBlock = vx.ownBlock ∨ ∃ b, vx'.ownBlock = some b ∧ w.heap.size ≤ b) : Rd q w0 wr Z W1 NB P R Cb X rc fl su i v1 v3 cf cv cx cm vf vv vx' v2 nc ne xc xe xm fs vs xs' ms w' :=
  have k := kp_row h.ox g
  { h with oq := h.oq.row h.ox g, ch := grow_base h.hz h.ch h.ox g, z := h.z.kp k (by decide), w1 := h.w1.kp k (by decide), nb := h.nb.kp k (by decide), p := h.p.kp k (by decide), r := h.r.kp k (by decide), c := h.c.kp k (by decide), x := fun e => (h.x e).kp k (by decide)
           of := own_kp h.of k (by decide), ox := o, ov := own_row h.ov g (fun b hb e => h.vx_ b hb e), oc := own_kp h.oc k (by decide), oe := own_kp h.oe k (by decide), om := own_kp h.om k (by decide)
           vx_ := fun b hb e => apart_own h.ov hat (fun b hb e => h.vx_ b e hb) b e hb }
/-- w.Methods has grown. -/
theorem Rd.growM (h : Rd q w0 wr Z W1 NB P R Cb X rc fl su i v1 v3 cf cv cx cm vf vv vx v2 nc ne xc xe xm fs vs xs ms w) {v2' : Value} {m : MetM} {cs : List Value} (g : w.grownBy w' v2.ownBlock) (o : w'.ownsRow w0.heap.size 39 11 v2' (ms.length + 1) (xm ++ cs)) (hm : MetRep wr w0.heap.size m cs) :
    Rd q w0 wr Z W1 NB P R Cb X rc fl su i v1 v3 cf cv cx cm vf vv vx v2' nc ne xc xe (xm ++ cs) fs vs xs (ms ++ [m]) w' :=
  have k := kp_row h.om g
  { h with oq := h.oq.kp k (by decide) (by decide) (by decide) (by decide), ch := grow_base (Nat.le_refl _) h.ch h.om g, z := h.z.kp k (by decide), w1 := h.w1.kp k (by decide), nb := h.nb.kp k (by decide), p := h.p.kp k (by decide), r := h.r.kp k (by decide), c := h.c.kp k (by decide), x := fun e => (h.x e).kp k (by decide)
           of := own_kp h.of k (by decide), ov := own_kp h.ov k (by decide), ox := own_kp h.ox k (by decide), oc := own_kp h.oc k (by decide), oe := own_kp h.oe k (by decide), om := by rw [List.length_append, List.length_singleton]; exact o
           mr := h.mr.snoc hm (by obtain ⟨_, rfl, _⟩ := hm; rfl) }
/-- A variable of the round's is written. -/
theorem Rd.setF (h : Rd q w0 wr Z W1 NB P R Cb X rc fl su i v1 v3 cf cv cx cm vf vv vx v2 nc ne xc xe xm fs vs xs ms w) (u : Value) : Rd q w0 wr Z W1 NB P R Cb X rc fl su i v1 v3 u cv cx cm vf vv vx v2 nc ne xc xe xm fs vs xs ms (w.setCell ⟨Cb, 4, none⟩ u) :=
  have k := set_kp h.c 4 u
  { h with oq := h.oq.kp k (by decide) (by decide) (by decide) (by decide), ch := set_base (Nat.le_trans h.hz h.hc) h.ch u, z := h.z.kp k (by decide), w1 := h.w1.kp k (by decide), nb := h.nb.kp k (by decide), p := h.p.kp k (by decide), r := h.r.kp k (by decide), c := h.c.set 4 u, x := fun e => (h.x e).kp k (by decide)
           of := own_kp h.of k (by decide), ov := own_kp h.ov k (by decide), ox := own_kp h.ox k (by decide), oc := own_far h.oc (fun e => by have := h.lc _ e; have := h.hc; omega) u, oe := own_kp h.oe k (by decide), om := own_kp h.om k (by decide) }
theorem Rd.setV (h : Rd q w0 wr Z W1 NB P R Cb X rc fl su i v1 v3 cf cv cx cm vf vv vx v2 nc ne xc xe xm fs vs xs ms w) (u : Value) : Rd q w0 wr Z W1 NB P R Cb X rc fl su i v1 v3 cf u cx cm vf vv vx v2 nc ne xc xe xm fs vs xs ms (w.setCell ⟨Cb, 5, none⟩ u) :=
  have k := set_kp h.c 5 u
  { h with oq := h.oq.kp k (by decide) (by decide) (by decide) (by decide), ch := set_base (Nat.le_trans h.hz h.hc) h.ch u, z := h.z.kp k (by decide), w1 := h.w1.kp k (by decide), nb := h.nb.kp k (by decide), p := h.p.kp k (by decide), r := h.r.kp k (by decide), c := h.c.set 5 u, x := fun e => (h.x e).kp k (by decide)
           of := own_kp h.of k (by decide), ov := own_kp h.ov k (by decide), ox := own_kp h.ox k (by decide), oc := own_far h.oc (fun e => by have := h.lc _ e; have := h.hc; omega) u, oe := own_kp h.oe k (by decide), om := own_kp h.om k (by decide) }
theorem Rd.setX (hq : q = true) (h : Rd q w0 wr Z W1 NB P R Cb X rc fl su i v1 v3 cf cv cx cm vf vv vx v2 nc ne xc xe xm fs vs xs ms w) (u : Value) : Rd q w0 wr Z W1 NB P R Cb X rc fl su i v1 v3 cf cv u cm vf vv vx v2 nc ne xc xe xm fs vs xs ms (w.setCell ⟨X, 2, none⟩ u) :=
  have k := set_kp (h.x hq) 2 u
  { h with oq := h.oq.kp k (by decide) (by decide) (by decide) (by decide), ch := set_base (Nat.le_trans h.hz (h.hx hq)) h.ch u, z := h.z.kp k (by decide), w1 := h.w1.kp k (by decide), nb := h.nb.kp k (by decide), p := h.p.kp k (by decide), r := h.r.kp k (by decide), c := h.c.kp k (by decide), x := fun _ => (h.x hq).set 2 u
           of := own_kp h.of k (by decide), ov := own_kp h.ov k (by decide), ox := own_kp h.ox k (by decide), oc := own_kp h.oc k (by decide), oe := own_far h.oe (fun e => by have := h.le _ e; have := h.hx hq; omega) u, om := own_kp h.om k (by decide) }
theorem Rd.setM (h : Rd q w0 wr Z W1 NB P R Cb X rc fl su i v1 v3 cf cv cx cm vf vv vx v2 nc ne xc xe xm fs vs xs ms w) (u : Value) : Rd q w0 wr Z W1 NB P R Cb X rc fl su i v1 v3 cf cv cx u vf vv vx v2 nc ne xc xe xm fs vs xs ms (w.setCell ⟨W1, 1, none⟩ u) :=
  have k := set_kp h.w1 1 u
  { h with oq := h.oq.kp k (by decide) (by decide) (by decide) (by decide), ch := set_base h.hw h.ch u, z := blk_other h.z h.zw u, w1 := h.w1.set 1 u, nb := h.nb.kp k (by decide), p := h.p.kp k (by decide), r := h.r.kp k (by decide), c := h.c.kp k (by decide), x := fun e => (h.x e).kp k (by decide)
           of := own_kp h.of k (by decide), ov := own_kp h.ov k (by decide), ox := own_kp h.ox k (by decide), oc := own_kp h.oc k (by decide), oe := own_kp h.oe k (by decide), om := own_kp h.om k (by decide) }
/-- c.Virtuals has grown, x.Methods being nil. -/
theorem Rd.growV0 (h : Rd q w0 wr Z W1 NB P R Cb X rc fl su i v1 v3 cf cv cx cm vf vv (.slice none 0 0) v2 nc ne xc xe xm fs vs xs ms w) {vv' : Value} {vs' : List Int} (g : w.grownBy w' vv.ownBlock) (o : w'.ownsRow wr.heap.size 3 1 vv' vs'.length (icells vs')) :
    Rd q w0 wr Z W1 NB P R Cb X rc fl su i v1 v3 cf cv cx cm vf vv' (.slice none 0 0) v2 nc ne xc xe xm fs vs' xs ms w' :=
  have k := kp_row h.ov g
  { h with oq := h.oq.row h.ov g, ch := grow_base h.hz h.ch h.ov g, z := h.z.kp k (by decide), w1 := h.w1.kp k (by decide), nb := h.nb.kp k (by decide), p := h.p.kp k (by decide), r := h.r.kp k (by decide), c := h.c.kp k (by decide), x := fun e => (h.x e).kp k (by decide)
           of := own_kp h.of k (by decide), ov := o, ox := own_move h.ox (fun k hk => by simp [Value.ownBlock] at hk), oc := own_kp h.oc k (by decide), oe := own_kp h.oe k (by decide), om := own_kp h.om k (by decide)
           vx_ := fun k _ hk => by simp [Value.ownBlock] at hk }
end
/-- append of a slice that is read: nil, or a row of old. -/
theorem run_append_src {P : Program} (w : World) (base : Nat) (t ty e : TypeId) (i : TypeInfo) (z : Value) (size bytes : Nat) (ht : P.underlying t = some (.slice e)) (hi : P.info? e = some i) (hz : i.zero = some z) (hsize : i.size = size) (hby : i.bytes = bytes) (hzs : z.cells.size = size) (hsz : 0 < size)
    (v : Value) (n : Nat) (xs : List Value) (hown : w.ownsRow base e size v n xs) (b2 : Nat) (u : Value) (m : Nat) (ys : List Value) (hsrc : w.ownsRow b2 e size u m ys) (h1 : ∀ y ∈ ys, y.oneCell' = true) (h63 : n + m ≤ maxLen) (hbytes : (n + m) * bytes ≤ 140737488355328) (hbase : base ≤ w.heap.size) :
    ∃ v' w', (Builtin.append_ #[t, t] ty #[v, u]).run P w = .ok v' w' ∧ w'.ownsRow base e size v' (n + m) (xs ++ ys) ∧ w.grownBy w' v.ownBlock := by
  obtain ⟨hl, hf⟩ := hsrc
  rcases hf with ⟨rfl, rfl⟩ | ⟨g, cap, cur, rfl, hg, hh, hcap, hmx, hsz2, htk⟩
  · have hn : ys = [] := List.eq_nil_of_length_eq_zero (by simpa using hl)
    subst hn
    refine ⟨v, w, ?_, by simpa using hown, World.grownBy.refl w _⟩
    rcases hown.2 with ⟨rfl, rfl⟩ | ⟨g, cap, cur, rfl, _, _, hnc, _⟩
    · simp [Builtin.append_, run_underlying ht, sizeOf, typeInfo, hi, Builtin.lenOf, Builtin.firstCells]
    · simp [Builtin.append_, run_underlying ht, sizeOf, typeInfo, hi, Builtin.lenOf, Builtin.firstCells, hnc, storeCells]
  · obtain ⟨v', w', hr, h2, h3, _⟩ := run_append_own (P := P) w base t ty e i z size bytes ht hi hz hsize hby hzs hsz v n xs hown ⟨g, 0, none⟩ m cap ys hl (fun j y hy => by
      rw [add_plain, cell_of_row w g j cur e (0, 0) hh]
      rw [← htk] at hy
      have hlt : j < m * size := by
        have := (List.getElem?_eq_some_iff.1 hy).1
        rw [List.length_take] at this
        omega
      rw [List.getElem?_take_of_lt hlt] at hy
      simpa using hy) h1 h63 hbytes hbase
    exact ⟨v', w', hr, h2, h3⟩
theorem wp_append_src {P : Program} {w : World} {o : Oper} {a : Act} {K : Act → World → Prop} {Q : Exit → Act → World → Prop} (s x : Operand) (t : TypeId) (ho : o.op = .call { callee := .builtin .append, args := #[s, x], argTypes := #[t, t] })
    (base : Nat) (e : TypeId) (i : TypeInfo) (z : Value) (size bytes : Nat) (ht : P.underlying t = some (.slice e)) (hi : P.info? e = some i) (hz : i.zero = some z) (hsize : i.size = size) (hby : i.bytes = bytes) (hzs : z.cells.size = size) (hsz : 0 < size)
    (v : Value) (n : Nat) (xs : List Value) (hs : a.eval s = v) (hown : w.ownsRow base e size v n xs) (b2 : Nat) (u : Value) (m : Nat) (ys : List Value) (hx : a.eval x = u) (hsrc : w.ownsRow b2 e size u m ys) (h1 : ∀ y ∈ ys, y.oneCell' = true) (h63 : n + m ≤ maxLen) (hbytes : (n + m) * bytes ≤ 140737488355328) (hbase : base ≤ w.heap.size)
    (h : ∀ v' w', w'.ownsRow base e size v' (n + m) (xs ++ ys) → w.grownBy w' v.ownBlock → K (a.put o.dst v') w') : o.wp P a w K Q := by
  obtain ⟨v', w', hr, h2, h3⟩ := run_append_src (P := P) w base t o.type e i z size bytes ht hi hz hsize hby hzs hsz v n xs hown b2 u m ys hsrc h1 h63 hbytes hbase
  unfold Oper.wp execOp
  simp only [ho, resolve, invoke, builtin, Sem.run_bind, Sem.run_pure, Result.andThen_ok, List.map_toArray, List.map_cons, List.map_nil, hs, hx, hr]
  exact h v' w' h2 h3
theorem wpList_append_src {P : Program} {w : World} {ops : Array Oper} {rest : List Oper} {o : Oper} {a : Act} {Q : Exit → Act → World → Prop} (hgd : o.guard = none) (s x : Operand) (t : TypeId) (ho : o.op = .call { callee := .builtin .append, args := #[s, x], argTypes := #[t, t] })
    (base : Nat) (e : TypeId) (i : TypeInfo) (z : Value) (size bytes : Nat) (ht : P.underlying t = some (.slice e)) (hi : P.info? e = some i) (hz : i.zero = some z) (hsize : i.size = size) (hby : i.bytes = bytes) (hzs : z.cells.size = size) (hsz : 0 < size)
    (v : Value) (n : Nat) (xs : List Value) (hs : a.eval s = v) (hown : w.ownsRow base e size v n xs) (b2 : Nat) (u : Value) (m : Nat) (ys : List Value) (hx : a.eval x = u) (hsrc : w.ownsRow b2 e size u m ys) (h1 : ∀ y ∈ ys, y.oneCell' = true) (h63 : n + m ≤ maxLen) (hbytes : (n + m) * bytes ≤ 140737488355328) (hbase : base ≤ w.heap.size)
    (h : ∀ v' w', w'.ownsRow base e size v' (n + m) (xs ++ ys) → w.grownBy w' v.ownBlock → wpList P ops Q rest (a.put o.dst v') w') : wpList P ops Q (o :: rest) a w :=
  wpList_plain hgd fun _ hK => wp_append_src s x t ho base e i z size bytes ht hi hz hsize hby hzs hsz v n xs hs hown b2 u m ys hx hsrc h1 h63 hbytes hbase fun v' w' h2 h3 => hK _ _ (h v' w' h2 h3)
theorem step_append_src {P : Program} {w : World} {ops : Array Oper} {o : Oper} {a : Act} {K : Act → World → Prop} {Q : Exit → Act → World → Prop} {E : Prop} (hgd : o.guard = none) (s x : Operand) (t : TypeId) (ho : o.op = .call { callee := .builtin .append, args := #[s, x], argTypes := #[t, t] })
    (base : Nat) (e : TypeId) (i : TypeInfo) (z : Value) (size bytes : Nat) (ht : P.underlying t = some (.slice e)) (hi : P.info? e = some i) (hz : i.zero = some z) (hsize : i.size = size) (hby : i.bytes = bytes) (hzs : z.cells.size = size) (hsz : 0 < size)
    (v : Value) (n : Nat) (xs : List Value) (hs : a.eval s = v) (hown : w.ownsRow base e size v n xs) (b2 : Nat) (u : Value) (m : Nat) (ys : List Value) (hx : a.eval x = u) (hsrc : w.ownsRow b2 e size u m ys) (h1 : ∀ y ∈ ys, y.oneCell' = true) (h63 : n + m ≤ maxLen) (hbytes : (n + m) * bytes ≤ 140737488355328) (hbase : base ≤ w.heap.size)
    (h : ∀ v' w', w'.ownsRow base e size v' (n + m) (xs ++ ys) → w.grownBy w' v.ownBlock → K (a.put o.dst v') w') : if Region.wanted o (yielded ops a.tmps) = true then Oper.wp P o a w K Q else E := by
  have hw : Region.wanted o (yielded ops a.tmps) = true := by simp [Region.wanted, hgd]
  rw [if_pos hw]
  exact wp_append_src s x t ho base e i z size bytes ht hi hz hsize hby hzs hsz v n xs hs hown b2 u m ys hx hsrc h1 h63 hbytes hbase h
/-- An element of a row, and where its cells stand. -/
theorem reps_cell {α : Type} {R : α → List Value → Prop} {w : World} {base sz n : Nat} {e : TypeId} {v : Value} {xs : List Value} {ps : List α} (o : w.ownsRow base e sz v n xs) (r : Reps R sz ps xs) (hn : ps.length = n) (i : Nat) (hi : i < ps.length) :
    ∃ g cap cs, v = .slice (some ⟨g, 0, none⟩) n cap ∧ g < w.heap.size ∧ R ps[i] cs ∧ ∀ (j : Nat) (u : Value), j < sz → cs[j]? = some u → w.cell? ⟨g, i * sz + j, none⟩ = some u := by
  obtain ⟨g, cap, hv, _, hlt⟩ := o.form (by omega)
  refine ⟨g, cap, (xs.drop (i * sz)).take sz, hv, hlt, r.2 i _ (List.getElem?_eq_getElem hi), fun j u hj hu => ?_⟩
  rw [List.getElem?_take_of_lt hj, List.getElem?_drop] at hu
  have := o.cells (g := g) (by rw [hv]; rfl) _ u hu
  rwa [add_plain] at this
theorem own_len {w : World} {base sz n : Nat} {e : TypeId} {v : Value} {xs : List Value} (o : w.ownsRow base e sz v n xs) : ∃ A c, v = .slice A n c := by
  rcases o.2 with ⟨rfl, rfl⟩ | ⟨g, cap, cur, rfl, _⟩
  · exact ⟨none, 0, rfl⟩
  · exact ⟨_, _, rfl⟩
theorem one_tcells (ts : List (Int × Int)) : ∀ y ∈ tcells ts, y.oneCell' = true := fun y hy => by
  unfold tcells at hy
  obtain ⟨p, _, hp⟩ := List.mem_flatMap.1 hy
  simp at hp
  rcases hp with rfl | rfl <;> rfl
theorem one_icells (ts : List Int) : ∀ y ∈ icells ts, y.oneCell' = true := fun y hy => by
  unfold icells at hy
  obtain ⟨p, _, rfl⟩ := List.mem_map.1 hy
  rfl
theorem tcells_append (a b : List (Int × Int)) : tcells (a ++ b) = tcells a ++ tcells b := by simp [tcells]
theorem icells_append (a b : List Int) : icells (a ++ b) = icells a ++ icells b := by simp [icells]
/-- The head of a round: the world so far. -/
structure Hd (w0 : World) (Z W1 NB P : Nat) (v1 v2 v3 : Value) (cl : List ClsM) (ms : List MetM) (ex : List ExpM) (w : World) : Prop where
  ch : Ch (fun _ => False) w0 w
  z : Blk w Z #[.slice none 0 0, .slice none 0 0, .slice none 0 0, .slice none 0 0] 27
  w1 : Blk w W1 #[v1, v2, .slice none 0 0, .slice none 0 0] 27
  nb : Blk w NB #[.int .u8 160, .int .u8 0, .int .u8 0, .int .u8 0, .int .u8 98, .int .u8 1, .int .u8 1] 5
  p : Blk w P #[.slice (some ⟨NB, 0, none⟩) 7 7, .int .u8 1, .int .u8 0, .bool false, v3, .slice none 0 0] 56
  oc : ∃ xs, w.ownsRow w0.heap.size 44 7 v1 cl.length xs ∧ Reps (ClsRep w w0.heap.size) 7 cl xs
  om : ∃ xs, w.ownsRow w0.heap.size 39 11 v2 ms.length xs ∧ Reps (MetRep w w0.heap.size) 11 ms xs
  oe : ∃ xs, w.ownsRow w0.heap.size 67 3 v3 ex.length xs ∧ Reps (ExpRep w w0.heap.size) 3 ex xs
  zw : Z ≠ W1
  hw : w0.heap.size ≤ W1
  hp : w0.heap.size ≤ P
  hz : w0.heap.size ≤ Z
/-- A round begins: its row's variable and its class's are there. -/
theorem Rd.start {w0 wr : World} {Z W1 NB P : Nat} {v1 v2 v3 : Value} {cl : List ClsM} {ms : List MetM} {ex : List ExpM} (h : Hd w0 Z W1 NB P v1 v2 v3 cl ms ex wr) (rc : Array Value) (fl su i : Int) (X : Nat) (cx : Value) :
    ∃ xc xm xe, Reps (ClsRep wr w0.heap.size) 7 cl xc ∧ Reps (ExpRep wr w0.heap.size) 3 ex xe ∧
      Rd false w0 wr Z W1 NB P wr.heap.size (wr.heap.size + 1) X rc fl su i v1 v3 (.slice none 0 0) (.slice none 0 0) cx v2 (.slice none 0 0) (.slice none 0 0) (.slice none 0 0) v2 cl.length ex.length xc xe xm [] [] [] ms
        ((wr.alloc (.cells rc 75)).alloc (.cells #[.int .i64 0, .int .u8 fl, .int .i64 su, .slice none 0 0, .slice none 0 0, .slice none 0 0, .slice none 0 0] 44)) := by
  obtain ⟨xc, oc, rcl⟩ := h.oc
  obtain ⟨xm, om, rm⟩ := h.om
  obtain ⟨xe, oe, re⟩ := h.oe
  have c : Ch (fun _ => False) wr ((wr.alloc (.cells rc 75)).alloc (.cells #[.int .i64 0, .int .u8 fl, .int .i64 su, .slice none 0 0, .slice none 0 0, .slice none 0 0, .slice none 0 0] 44)) := ((Ch.refl _ _).alloc _).alloc _
  have k : Kp 0 wr _ := kp_ch c
  have hR := (Blk.new wr rc 75).alloc (.cells #[.int .i64 0, .int .u8 fl, .int .i64 su, .slice none 0 0, .slice none 0 0, .slice none 0 0, .slice none 0 0] 44)
  have hC := Blk.new (wr.alloc (.cells rc 75)) #[.int .i64 0, .int .u8 fl, .int .i64 su, .slice none 0 0, .slice none 0 0, .slice none 0 0, .slice none 0 0] 44
  rw [size_alloc] at hC
  refine ⟨xc, xm, xe, rcl, re, ?_⟩
  exact { oq := (Oq.refl wr).gr c, ch := h.ch.then c, z := h.z.kp k (by decide), w1 := h.w1.kp k (by decide), nb := h.nb.kp k (by decide), p := h.p.kp k (by decide), r := hR, c := hC, x := fun e => (by cases e), of := own_nil _ _ _ _, ov := own_nil _ _ _ _, ox := own_nil _ _ _ _, oc := own_kp oc k (by decide), oe := own_kp oe k (by decide), om := own_kp om k (by decide), mr := rm, zw := h.zw, hw := h.hw, hp := h.hp, hr := Nat.le_refl _, hc := by omega, hx := fun e => (by cases e), vx_ := fun k hk => by simp [Value.ownBlock] at hk, lc := fun k hk => own_lt oc k hk, le := fun k hk => own_lt oe k hk, hz := h.ch.size }
/-- The export's variable comes in. -/
theorem Rd.withX {w0 wr : World} {Z W1 NB P R Cb X0 : Nat} {rc : Array Value} {fl su i0 i : Int} {v1 v3 cf cv cx cm vf vv vx v2 : Value} {nc ne : Nat} {xc xe xm : List Value} {fs : List (Int × Int)} {vs xs : List Int} {ms : List MetM} {w : World}
    (h : Rd false w0 wr Z W1 NB P R Cb X0 rc fl su i0 v1 v3 cf cv cx cm vf vv vx v2 nc ne xc xe xm fs vs xs ms w) :
    Rd true w0 wr Z W1 NB P R Cb w.heap.size rc fl su i v1 v3 cf cv (.slice none 0 0) cm vf vv vx v2 nc ne xc xe xm fs vs xs ms (w.alloc (.cells #[.int .i64 i, .slice none 0 0, .slice none 0 0] 67)) :=
  have c : Ch (fun _ => False) w (w.alloc (.cells #[.int .i64 i, .slice none 0 0, .slice none 0 0] 67)) := (Ch.refl _ _).alloc _
  have h1 := h.gr c
  { h1 with x := fun _ => Blk.new w _ _, hx := fun _ => by have := h.hr; have := h.r.lt; omega }
theorem Hd.gr {w0 w w' : World} {Z W1 NB P : Nat} {v1 v2 v3 : Value} {cl : List ClsM} {ms : List MetM} {ex : List ExpM} (h : Hd w0 Z W1 NB P v1 v2 v3 cl ms ex w) (c : Ch (fun _ => False) w w') : Hd w0 Z W1 NB P v1 v2 v3 cl ms ex w' := by
  have k : Kp 0 w w' := kp_ch c
  have q : Oq w w' := (Oq.refl w).gr c
  obtain ⟨xc, oc, rc⟩ := h.oc
  obtain ⟨xm, om, rm⟩ := h.om
  obtain ⟨xe, oe, re⟩ := h.oe
  exact ⟨h.ch.then c, h.z.kp k (by decide), h.w1.kp k (by decide), h.nb.kp k (by decide), h.p.kp k (by decide), ⟨xc, own_kp oc k (by decide), rc.imp_ (fun _ _ r => r.oq q)⟩, ⟨xm, own_kp om k (by decide), rm.imp_ (fun _ _ r => r.oq q)⟩, ⟨xe, own_kp oe k (by decide), re.imp_ (fun _ _ r => r.oq q)⟩, h.zw, h.hw, h.hp, h.hz⟩
theorem Out.lower {w : World} {b b' : Nat} {v : Value} {rs : List RowM} (h : Out w b v rs) (hb : b' ≤ b) : Out w b' v rs := by
  have ty : ∀ {v ts}, Ty w b v ts → Ty w b' v ts := fun h => own_weaken h hb
  have nt : ∀ {v ns}, Nt w b v ns → Nt w b' v ns := fun ⟨xs, o, r⟩ => ⟨xs, own_weaken o hb, r.imp_ (fun _ _ ⟨v, e, t⟩ => ⟨v, e, ty t⟩)⟩
  obtain ⟨xs, o, r⟩ := h
  exact ⟨xs, own_weaken o hb, r.imp_ (fun _ _ ⟨vf, vv, vo, e, a, b, c⟩ => ⟨vf, vv, vo, e, ty a, nt b, nt c⟩)⟩
/-- A row of the table: where its cells stand. -/
theorem Out.at_ {w : World} {base : Nat} {v : Value} {rs : List RowM} (h : Out w base v rs) (i : Nat) (hi : i < rs.length) :
    ∃ g cap Af lf cf Av cv Ao co, v = .slice (some ⟨g, 0, none⟩) rs.length cap ∧ w.cell? ⟨g, i * 5, none⟩ = some (.int .i64 (rs[i]).super) ∧ w.cell? ⟨g, i * 5 + 1, none⟩ = some (.int .u8 (rs[i]).flags) ∧
      w.cell? ⟨g, i * 5 + 2, none⟩ = some (.slice Af lf cf) ∧ w.cell? ⟨g, i * 5 + 3, none⟩ = some (.slice Av (rs[i]).virtuals.length cv) ∧ w.cell? ⟨g, i * 5 + 4, none⟩ = some (.slice Ao (rs[i]).others.length co) ∧
      Ty w base (.slice Af lf cf) (rs[i]).fields ∧ Nt w base (.slice Av (rs[i]).virtuals.length cv) (rs[i]).virtuals ∧ Nt w base (.slice Ao (rs[i]).others.length co) (rs[i]).others := by
  obtain ⟨xs, o, r⟩ := h
  obtain ⟨g, cap, cs, hv, hlt, ⟨vf, vv, vo, rfl, a, b, c⟩, hc⟩ := reps_cell o r rfl i hi
  obtain ⟨Af, cf, rfl⟩ := own_len a
  obtain ⟨Av, cv, rfl⟩ := own_len b.choose_spec.1
  obtain ⟨Ao, co, rfl⟩ := own_len c.choose_spec.1
  exact ⟨g, cap, Af, _, cf, Av, cv, Ao, co, hv, hc 0 _ (by omega) rfl, hc 1 _ (by omega) rfl, hc 2 _ (by omega) rfl, hc 3 _ (by omega) rfl, hc 4 _ (by omega) rfl, a, b, c⟩
/-- A class, in a row of classes: where its cells stand. -/
theorem cls_at {w w' : World} {base : Nat} {v : Value} {cl : List ClsM} {xs : List Value} (o : w'.ownsRow base 44 7 v cl.length xs) (r : Reps (ClsRep w base) 7 cl xs) (q : Oq w w') (i : Nat) (hi : i < cl.length) :
    ∃ g cap vf vv, v = .slice (some ⟨g, 0, none⟩) cl.length cap ∧ w'.cell? ⟨g, i * 7 + 4, none⟩ = some vf ∧ w'.cell? ⟨g, i * 7 + 5, none⟩ = some vv ∧ Ty w' base vf (cl[i]).fields ∧ Ints w' base vv (cl[i]).virtuals := by
  obtain ⟨g, cap, cs, hv, hlt, ⟨vf, vv, rfl, a, b⟩, hc⟩ := reps_cell o r rfl i hi
  exact ⟨g, cap, vf, vv, hv, hc 4 _ (by omega) rfl, hc 5 _ (by omega) rfl, a.oq q, b.oq q⟩
end Go.Proofs.YtjknnifcbcdjiaaDoor.Tab
