/- Words for the walk of lib.World: what a round of its loop holds, and what keeps it. -/
import Derived.Test.YtjknnifcbcdjiaaDoorLibK
import Derived.Test.YtjknnifcbcdjiaaDoorWorldW
set_option linter.unusedVariables false
set_option linter.unusedSimpArgs false
namespace Go.Proofs.YtjknnifcbcdjiaaDoor.TabL
open Go.RowKit Go.Proofs.YtjknnifcbcdjiaaDoor.Base Go.Proofs.YtjknnifcbcdjiaaDoorW.PrintWords Go.Proofs.YtjknnifcbcdjiaaDoorW.PrintLast Go.Proofs.YtjknnifcbcdjiaaDoor.Tab
/-- What was there at wr, of these types, is there. -/
def Oq (wr w : World) : Prop := ∀ (k : Nat) (cs : Array Value) (t : TypeId), (t = 33 ∨ t = 3 ∨ t = 62) → wr.heap[k]? = some (Obj.cells cs t (0, 0)) → w.heap[k]? = some (Obj.cells cs t (0, 0))
theorem Oq.refl (w : World) : Oq w w := fun _ _ _ _ h => h
theorem Oq.kp {wr w w' : World} {T : TypeId} (h : Oq wr w) (k : Kp T w w') (h1 : 33 ≠ T) (h2 : 3 ≠ T) (h3 : 62 ≠ T) : Oq wr w' := fun b cs t ht hb => by
  refine k b cs t (h b cs t ht hb) ?_
  rcases ht with rfl | rfl | rfl
  · exact h1
  · exact h2
  · exact h3
theorem Oq.gr {wr w w' : World} (h : Oq wr w) (c : Ch (fun _ => False) w w') : Oq wr w' := h.kp (T := 0) (kp_ch c) (by decide) (by decide) (by decide)
theorem Oq.row {wr w w' : World} {e : TypeId} {size n : Nat} {v : Value} {xs : List Value} (h : Oq wr w) (o : w.ownsRow wr.heap.size e size v n xs) (g : w.grownBy w' v.ownBlock) : Oq wr w' := fun b cs t ht hb => by
  have h1 := h b cs t ht hb
  refine (g.block b (Array.getElem?_eq_some_iff.1 h1).1 (fun e => ?_)).trans h1
  have := own_base o b e.symm
  have := (Array.getElem?_eq_some_iff.1 hb).1
  omega
theorem own_oq {wr w : World} {base n size : Nat} {e : TypeId} {v : Value} {xs : List Value} (o : wr.ownsRow base e size v n xs) (h : Oq wr w) (he : e = 33 ∨ e = 3 ∨ e = 62) : w.ownsRow base e size v n xs :=
  own_move o (fun b hb => by
    obtain ⟨cells, hc⟩ := own_typed o b hb
    rw [h b cells e he hc, hc])
theorem _root_.Go.Proofs.YtjknnifcbcdjiaaDoor.Tab.Ty.oqL {wr w : World} {base : Nat} {v : Value} {ts : List (Int × Int)} (h : Ty wr base v ts) (q : Oq wr w) : Ty w base v ts := own_oq h q (Or.inl rfl)
theorem _root_.Go.Proofs.YtjknnifcbcdjiaaDoor.Tab.Ints.oqL {wr w : World} {base : Nat} {v : Value} {ts : List Int} (h : Ints wr base v ts) (q : Oq wr w) : Ints w base v ts := own_oq h q (Or.inr (Or.inl rfl))
theorem _root_.Go.Proofs.YtjknnifcbcdjiaaDoor.Tab.MetRep.kpL {w w' : World} {base : Nat} {r : MetM} {cs : List Value} {T : TypeId} (h : MetRep w base r cs) (k : Kp T w w') (hT : 33 ≠ T) : MetRep w' base r cs := by
  obtain ⟨v, e, a⟩ := h
  exact ⟨v, e, own_kp a k hT⟩
theorem _root_.Go.Proofs.YtjknnifcbcdjiaaDoor.Tab.ClsRep.oqL {wr w : World} {base : Nat} {r : ClsM} {cs : List Value} (h : ClsRep wr base r cs) (q : Oq wr w) : ClsRep w base r cs := by
  obtain ⟨vf, vv, e, a, b⟩ := h
  exact ⟨vf, vv, e, a.oqL q, b.oqL q⟩
theorem _root_.Go.Proofs.YtjknnifcbcdjiaaDoor.Tab.MetRep.oqL {wr w : World} {base : Nat} {r : MetM} {cs : List Value} (h : MetRep wr base r cs) (q : Oq wr w) : MetRep w base r cs := by
  obtain ⟨v, e, a⟩ := h
  exact ⟨v, e, a.oqL q⟩
theorem _root_.Go.Proofs.YtjknnifcbcdjiaaDoor.Tab.ExpRep.oqL {wr w : World} {base : Nat} {r : ExpM} {cs : List Value} (h : ExpRep wr base r cs) (q : Oq wr w) : ExpRep w base r cs := by
  obtain ⟨v, e, a⟩ := h
  exact ⟨v, e, a.oqL q⟩
theorem _root_.Go.Proofs.YtjknnifcbcdjiaaDoor.Tab.KlRep.oqL {wr w : World} {base : Nat} {r : KlM} {cs : List Value} (h : KlRep wr base r cs) (q : Oq wr w) : KlRep w base r cs := by
  obtain ⟨vf, vv, e, a, b⟩ := h
  exact ⟨vf, vv, e, a.oqL q, b.oqL q⟩
theorem _root_.Go.Proofs.YtjknnifcbcdjiaaDoor.Tab.Kr.oqL {wr w : World} {base : Nat} {v : Value} {ks : List KlM} (h : Kr wr base v ks) (q : Oq wr w) : Kr w base v ks := by
  obtain ⟨xs, o, r⟩ := h
  exact ⟨xs, own_oq o q (Or.inr (Or.inr rfl)), r.imp_ (fun _ _ h => h.oqL q)⟩
/-- What a round holds: wr the world at its head, w0 the call's. -/
structure Rd (q : Bool) (w0 wr : World) (Z W1 NB P R Cb X : Nat) (rc : Array Value) (fl su i : Int) (v1 v3 cf cv cx cm vf vv vx v2 : Value) (nc ne : Nat) (xc xe xm : List Value) (fs : List (Int × Int)) (vs xs : List Int) (ms : List MetM) (w : World) : Prop where
  oq : Oq wr w
  ch : Ch (fun _ => False) w0 w
  z : Blk w Z #[.slice none 0 0, .slice none 0 0, .slice none 0 0, .slice none 0 0] 27
  w1 : Blk w W1 #[v1, cm, .slice none 0 0, .slice none 0 0] 27
  nb : Blk w NB #[.int .u8 160, .int .u8 0, .int .u8 0, .int .u8 0, .int .u8 98, .int .u8 1, .int .u8 1] 5
  p : Blk w P #[.slice (some ⟨NB, 0, none⟩) 7 7, .int .u8 1, .int .u8 0, .bool false, v3, .slice none 0 0] 56
  r : Blk w R rc 62
  c : Blk w Cb #[.int .i64 0, .int .u8 fl, .int .i64 su, .slice none 0 0, cf, cv, .slice none 0 0] 44
  x : q = true → Blk w X #[.int .i64 i, .slice none 0 0, cx] 67
  of : w.ownsRow wr.heap.size 33 2 vf fs.length (tcells fs)
  ov : w.ownsRow wr.heap.size 3 1 vv vs.length (icells vs)
  ox : w.ownsRow wr.heap.size 3 1 vx xs.length (icells xs)
  oc : w.ownsRow w0.heap.size 44 7 v1 nc xc
  oe : w.ownsRow w0.heap.size 67 3 v3 ne xe
  om : w.ownsRow w0.heap.size 39 11 v2 ms.length xm
  mr : Reps (MetRep w w0.heap.size) 11 ms xm
  zw : Z ≠ W1
  hw : w0.heap.size ≤ W1
  hp : w0.heap.size ≤ P
  hr : wr.heap.size ≤ R
  hc : wr.heap.size ≤ Cb
  hx : q = true → wr.heap.size ≤ X
  vx_ : ∀ k, vv.ownBlock = some k → vx.ownBlock ≠ some k
  lc : ∀ k, v1.ownBlock = some k → k < wr.heap.size
  le : ∀ k, v3.ownBlock = some k → k < wr.heap.size
  hz : w0.heap.size ≤ wr.heap.size
section
variable {q : Bool} {w0 wr : World} {Z W1 NB P R Cb X : Nat} {rc : Array Value} {fl su i : Int} {v1 v3 cf cv cx cm vf vv vx v2 : Value} {nc ne : Nat} {xc xe xm : List Value} {fs : List (Int × Int)} {vs xs : List Int} {ms : List MetM} {w w' : World}
theorem Rd.gr (h : Rd q w0 wr Z W1 NB P R Cb X rc fl su i v1 v3 cf cv cx cm vf vv vx v2 nc ne xc xe xm fs vs xs ms w) (c : Ch (fun _ => False) w w') : Rd q w0 wr Z W1 NB P R Cb X rc fl su i v1 v3 cf cv cx cm vf vv vx v2 nc ne xc xe xm fs vs xs ms w' :=
  have k : Kp 0 w w' := kp_ch c
  { h with mr := h.mr.imp_ (fun _ _ r => r.kpL k (by decide)), oq := h.oq.gr c, ch := h.ch.then c, z := h.z.kp k (by decide), w1 := h.w1.kp k (by decide), nb := h.nb.kp k (by decide), p := h.p.kp k (by decide), r := h.r.kp k (by decide), c := h.c.kp k (by decide), x := fun e => (h.x e).kp k (by decide)
           of := own_kp h.of k (by decide), ov := own_kp h.ov k (by decide), ox := own_kp h.ox k (by decide), oc := own_kp h.oc k (by decide), oe := own_kp h.oe k (by decide), om := own_kp h.om k (by decide) }
/-- c.Fields has grown. -/
theorem Rd.growF (h : Rd q w0 wr Z W1 NB P R Cb X rc fl su i v1 v3 cf cv cx cm vf vv vx v2 nc ne xc xe xm fs vs xs ms w) {vf' : Value} {fs' : List (Int × Int)} (hm : Reps (MetRep wr w0.heap.size) 11 ms xm) (g : w.grownBy w' vf.ownBlock) (o : w'.ownsRow wr.heap.size 33 2 vf' fs'.length (tcells fs')) :
    Rd q w0 wr Z W1 NB P R Cb X rc fl su i v1 v3 cf cv cx cm vf' vv vx v2 nc ne xc xe xm fs' vs xs ms w' :=
  have k := kp_row h.of g
  { h with mr := hm.imp_ (fun _ _ r => r.oqL (h.oq.row h.of g)), oq := h.oq.row h.of g, ch := grow_base h.hz h.ch h.of g, z := h.z.kp k (by decide), w1 := h.w1.kp k (by decide), nb := h.nb.kp k (by decide), p := h.p.kp k (by decide), r := h.r.kp k (by decide), c := h.c.kp k (by decide), x := fun e => (h.x e).kp k (by decide)
           of := o, ov := own_kp h.ov k (by decide), ox := own_kp h.ox k (by decide), oc := own_kp h.oc k (by decide), oe := own_kp h.oe k (by decide), om := own_kp h.om k (by decide) }
/-- c.Virtuals has grown. -/
theorem Rd.growV (h : Rd q w0 wr Z W1 NB P R Cb X rc fl su i v1 v3 cf cv cx cm vf vv vx v2 nc ne xc xe xm fs vs xs ms w) {vv' : Value} {vs' : List Int} (g : w.grownBy w' vv.ownBlock) (o : w'.ownsRow wr.heap.size 3 1 vv' vs'.length (icells vs'))
    (hat : vv'.ownBlock = vv.ownBlock ∨ ∃ b, vv'.ownBlock = some b ∧ w.heap.size ≤ b) : Rd q w0 wr Z W1 NB P R Cb X rc fl su i v1 v3 cf cv cx cm vf vv' vx v2 nc ne xc xe xm fs vs' xs ms w' :=
  have k := kp_row h.ov g
  { h with mr := h.mr.imp_ (fun _ _ r => r.kpL k (by decide)), oq := h.oq.row h.ov g, ch := grow_base h.hz h.ch h.ov g, z := h.z.kp k (by decide), w1 := h.w1.kp k (by decide), nb := h.nb.kp k (by decide), p := h.p.kp k (by decide), r := h.r.kp k (by decide), c := h.c.kp k (by decide), x := fun e => (h.x e).kp k (by decide)
           of := own_kp h.of k (by decide), ov := o, ox := own_row h.ox g (fun b hb e => h.vx_ b e hb), oc := own_kp h.oc k (by decide), oe := own_kp h.oe k (by decide), om := own_kp h.om k (by decide)
           vx_ := apart_own h.ox hat h.vx_ }
/-- x.Methods has grown. -/
theorem Rd.growX (h : Rd q w0 wr Z W1 NB P R Cb X rc fl su i v1 v3 cf cv cx cm vf vv vx v2 nc ne xc xe xm fs vs xs ms w) {vx' : Value} {xs' : List Int} (g : w.grownBy w' vx.ownBlock) (o : w'.ownsRow wr.heap.size 3 1 vx' xs'.length (icells xs'))
    (hat : vx'.ownBlock = vx.ownBlock ∨ ∃ b, vx'.ownBlock = some b ∧ w.heap.size ≤ b) : Rd q w0 wr Z W1 NB P R Cb X rc fl su i v1 v3 cf cv cx cm vf vv vx' v2 nc ne xc xe xm fs vs xs' ms w' :=
  have k := kp_row h.ox g
  { h with mr := h.mr.imp_ (fun _ _ r => r.kpL k (by decide)), oq := h.oq.row h.ox g, ch := grow_base h.hz h.ch h.ox g, z := h.z.kp k (by decide), w1 := h.w1.kp k (by decide), nb := h.nb.kp k (by decide), p := h.p.kp k (by decide), r := h.r.kp k (by decide), c := h.c.kp k (by decide), x := fun e => (h.x e).kp k (by decide)
           of := own_kp h.of k (by decide), ox := o, ov := own_row h.ov g (fun b hb e => h.vx_ b hb e), oc := own_kp h.oc k (by decide), oe := own_kp h.oe k (by decide), om := own_kp h.om k (by decide)
           vx_ := fun b hb e => apart_own h.ov hat (fun b hb e => h.vx_ b e hb) b e hb }
/-- w.Methods has grown. -/
theorem Rd.growM (h : Rd q w0 wr Z W1 NB P R Cb X rc fl su i v1 v3 cf cv cx cm vf vv vx v2 nc ne xc xe xm fs vs xs ms w) {v2' : Value} {m : MetM} {cs : List Value} (g : w.grownBy w' v2.ownBlock) (o : w'.ownsRow w0.heap.size 39 11 v2' (ms.length + 1) (xm ++ cs)) (hm : MetRep w' w0.heap.size m cs) :
    Rd q w0 wr Z W1 NB P R Cb X rc fl su i v1 v3 cf cv cx cm vf vv vx v2' nc ne xc xe (xm ++ cs) fs vs xs (ms ++ [m]) w' :=
  have k := kp_row h.om g
  { h with oq := h.oq.kp k (by decide) (by decide) (by decide), ch := grow_base (Nat.le_refl _) h.ch h.om g, z := h.z.kp k (by decide), w1 := h.w1.kp k (by decide), nb := h.nb.kp k (by decide), p := h.p.kp k (by decide), r := h.r.kp k (by decide), c := h.c.kp k (by decide), x := fun e => (h.x e).kp k (by decide)
           of := own_kp h.of k (by decide), ov := own_kp h.ov k (by decide), ox := own_kp h.ox k (by decide), oc := own_kp h.oc k (by decide), oe := own_kp h.oe k (by decide), om := by rw [List.length_append, List.length_singleton]; exact o
           mr := (h.mr.imp_ (fun _ _ r => r.kpL k (by decide))).snoc hm (by obtain ⟨_, rfl, _⟩ := hm; rfl) }
/-- A variable of the round's is written. -/
theorem Rd.setF (h : Rd q w0 wr Z W1 NB P R Cb X rc fl su i v1 v3 cf cv cx cm vf vv vx v2 nc ne xc xe xm fs vs xs ms w) (u : Value) : Rd q w0 wr Z W1 NB P R Cb X rc fl su i v1 v3 u cv cx cm vf vv vx v2 nc ne xc xe xm fs vs xs ms (w.setCell ⟨Cb, 4, none⟩ u) :=
  have k := set_kp h.c 4 u
  { h with mr := h.mr.imp_ (fun _ _ r => r.kpL k (by decide)), oq := h.oq.kp k (by decide) (by decide) (by decide), ch := set_base (Nat.le_trans h.hz h.hc) h.ch u, z := h.z.kp k (by decide), w1 := h.w1.kp k (by decide), nb := h.nb.kp k (by decide), p := h.p.kp k (by decide), r := h.r.kp k (by decide), c := h.c.set 4 u, x := fun e => (h.x e).kp k (by decide)
           of := own_kp h.of k (by decide), ov := own_kp h.ov k (by decide), ox := own_kp h.ox k (by decide), oc := own_far h.oc (fun e => by have := h.lc _ e; have := h.hc; omega) u, oe := own_kp h.oe k (by decide), om := own_kp h.om k (by decide) }
theorem Rd.setV (h : Rd q w0 wr Z W1 NB P R Cb X rc fl su i v1 v3 cf cv cx cm vf vv vx v2 nc ne xc xe xm fs vs xs ms w) (u : Value) : Rd q w0 wr Z W1 NB P R Cb X rc fl su i v1 v3 cf u cx cm vf vv vx v2 nc ne xc xe xm fs vs xs ms (w.setCell ⟨Cb, 5, none⟩ u) :=
  have k := set_kp h.c 5 u
  { h with mr := h.mr.imp_ (fun _ _ r => r.kpL k (by decide)), oq := h.oq.kp k (by decide) (by decide) (by decide), ch := set_base (Nat.le_trans h.hz h.hc) h.ch u, z := h.z.kp k (by decide), w1 := h.w1.kp k (by decide), nb := h.nb.kp k (by decide), p := h.p.kp k (by decide), r := h.r.kp k (by decide), c := h.c.set 5 u, x := fun e => (h.x e).kp k (by decide)
           of := own_kp h.of k (by decide), ov := own_kp h.ov k (by decide), ox := own_kp h.ox k (by decide), oc := own_far h.oc (fun e => by have := h.lc _ e; have := h.hc; omega) u, oe := own_kp h.oe k (by decide), om := own_kp h.om k (by decide) }
theorem Rd.setX (hq : q = true) (h : Rd q w0 wr Z W1 NB P R Cb X rc fl su i v1 v3 cf cv cx cm vf vv vx v2 nc ne xc xe xm fs vs xs ms w) (u : Value) : Rd q w0 wr Z W1 NB P R Cb X rc fl su i v1 v3 cf cv u cm vf vv vx v2 nc ne xc xe xm fs vs xs ms (w.setCell ⟨X, 2, none⟩ u) :=
  have k := set_kp (h.x hq) 2 u
  { h with mr := h.mr.imp_ (fun _ _ r => r.kpL k (by decide)), oq := h.oq.kp k (by decide) (by decide) (by decide), ch := set_base (Nat.le_trans h.hz (h.hx hq)) h.ch u, z := h.z.kp k (by decide), w1 := h.w1.kp k (by decide), nb := h.nb.kp k (by decide), p := h.p.kp k (by decide), r := h.r.kp k (by decide), c := h.c.kp k (by decide), x := fun _ => (h.x hq).set 2 u
           of := own_kp h.of k (by decide), ov := own_kp h.ov k (by decide), ox := own_kp h.ox k (by decide), oc := own_kp h.oc k (by decide), oe := own_far h.oe (fun e => by have := h.le _ e; have := h.hx hq; omega) u, om := own_kp h.om k (by decide) }
theorem Rd.setM (h : Rd q w0 wr Z W1 NB P R Cb X rc fl su i v1 v3 cf cv cx cm vf vv vx v2 nc ne xc xe xm fs vs xs ms w) (u : Value) : Rd q w0 wr Z W1 NB P R Cb X rc fl su i v1 v3 cf cv cx u vf vv vx v2 nc ne xc xe xm fs vs xs ms (w.setCell ⟨W1, 1, none⟩ u) :=
  have k := set_kp h.w1 1 u
  { h with mr := h.mr.imp_ (fun _ _ r => r.kpL k (by decide)), oq := h.oq.kp k (by decide) (by decide) (by decide), ch := set_base h.hw h.ch u, z := blk_other h.z h.zw u, w1 := h.w1.set 1 u, nb := h.nb.kp k (by decide), p := h.p.kp k (by decide), r := h.r.kp k (by decide), c := h.c.kp k (by decide), x := fun e => (h.x e).kp k (by decide)
           of := own_kp h.of k (by decide), ov := own_kp h.ov k (by decide), ox := own_kp h.ox k (by decide), oc := own_kp h.oc k (by decide), oe := own_kp h.oe k (by decide), om := own_kp h.om k (by decide) }
/-- c.Virtuals has grown, x.Methods being nil. -/
theorem Rd.growV0 (h : Rd q w0 wr Z W1 NB P R Cb X rc fl su i v1 v3 cf cv cx cm vf vv (.slice none 0 0) v2 nc ne xc xe xm fs vs xs ms w) {vv' : Value} {vs' : List Int} (g : w.grownBy w' vv.ownBlock) (o : w'.ownsRow wr.heap.size 3 1 vv' vs'.length (icells vs')) :
    Rd q w0 wr Z W1 NB P R Cb X rc fl su i v1 v3 cf cv cx cm vf vv' (.slice none 0 0) v2 nc ne xc xe xm fs vs' xs ms w' :=
  have k := kp_row h.ov g
  { h with mr := h.mr.imp_ (fun _ _ r => r.kpL k (by decide)), oq := h.oq.row h.ov g, ch := grow_base h.hz h.ch h.ov g, z := h.z.kp k (by decide), w1 := h.w1.kp k (by decide), nb := h.nb.kp k (by decide), p := h.p.kp k (by decide), r := h.r.kp k (by decide), c := h.c.kp k (by decide), x := fun e => (h.x e).kp k (by decide)
           of := own_kp h.of k (by decide), ov := o, ox := own_move h.ox (fun k hk => by simp [Value.ownBlock] at hk), oc := own_kp h.oc k (by decide), oe := own_kp h.oe k (by decide), om := own_kp h.om k (by decide)
           vx_ := fun k _ hk => by simp [Value.ownBlock] at hk }
end
/-- The head of a round: the world so far. -/
structure Hd (w0 : World) (Z W1 NB P : Nat) (v1 v2 v3 : Value) (cl : List ClsM) (ms : List MetM) (ex : List ExpM) (w : World) : Prop where
  ch : Ch (fun _ => False) w0 w
  z : Blk w Z #[.slice none 0 0, .slice none 0 0, .slice none 0 0, .slice none 0 0] 27
  w1 : Blk w W1 #[v1, v2, .slice none 0 0, .slice none 0 0] 27
  nb : Blk w NB #[.int .u8 160, .int .u8 0, .int .u8 0, .int .u8 0, .int .u8 98, .int .u8 1, .int .u8 1] 5
  p : Blk w P #[.slice (some ⟨NB, 0, none⟩) 7 7, .int .u8 1, .int .u8 0, .bool false, v3, .slice none 0 0] 56
  oc : ∃ xs, w.ownsRow w0.heap.size 44 7 v1 cl.length xs ∧ Reps (ClsRep w w0.heap.size) 7 cl xs
  om : ∃ xs, w.ownsRow w0.heap.size 39 11 v2 ms.length xs ∧ Reps (MetRep w w0.heap.size) 11 ms xs
  oe : ∃ xs, w.ownsRow w0.heap.size 67 3 v3 ex.length xs ∧ Reps (ExpRep w w0.heap.size) 3 ex xs
  zw : Z ≠ W1
  hw : w0.heap.size ≤ W1
  hp : w0.heap.size ≤ P
  hz : w0.heap.size ≤ Z
/-- A round begins: its row's variable and its class's are there. -/
theorem Rd.start {w0 wr : World} {Z W1 NB P : Nat} {v1 v2 v3 : Value} {cl : List ClsM} {ms : List MetM} {ex : List ExpM} (h : Hd w0 Z W1 NB P v1 v2 v3 cl ms ex wr) (rc : Array Value) (fl su i : Int) (X : Nat) (cx : Value) :
    ∃ xc xm xe, Reps (ClsRep wr w0.heap.size) 7 cl xc ∧ Reps (ExpRep wr w0.heap.size) 3 ex xe ∧ Reps (MetRep wr w0.heap.size) 11 ms xm ∧
      Rd false w0 wr Z W1 NB P wr.heap.size (wr.heap.size + 1) X rc fl su i v1 v3 (.slice none 0 0) (.slice none 0 0) cx v2 (.slice none 0 0) (.slice none 0 0) (.slice none 0 0) v2 cl.length ex.length xc xe xm [] [] [] ms
        ((wr.alloc (.cells rc 62)).alloc (.cells #[.int .i64 0, .int .u8 fl, .int .i64 su, .slice none 0 0, .slice none 0 0, .slice none 0 0, .slice none 0 0] 44)) := by
  obtain ⟨xc, oc, rcl⟩ := h.oc
  obtain ⟨xm, om, rm⟩ := h.om
  obtain ⟨xe, oe, re⟩ := h.oe
  have c : Ch (fun _ => False) wr ((wr.alloc (.cells rc 62)).alloc (.cells #[.int .i64 0, .int .u8 fl, .int .i64 su, .slice none 0 0, .slice none 0 0, .slice none 0 0, .slice none 0 0] 44)) := ((Ch.refl _ _).alloc _).alloc _
  have k : Kp 0 wr _ := kp_ch c
  have hR := (Blk.new wr rc 62).alloc (.cells #[.int .i64 0, .int .u8 fl, .int .i64 su, .slice none 0 0, .slice none 0 0, .slice none 0 0, .slice none 0 0] 44)
  have hC := Blk.new (wr.alloc (.cells rc 62)) #[.int .i64 0, .int .u8 fl, .int .i64 su, .slice none 0 0, .slice none 0 0, .slice none 0 0, .slice none 0 0] 44
  rw [size_alloc] at hC
  refine ⟨xc, xm, xe, rcl, re, rm, ?_⟩
  exact { oq := (Oq.refl wr).gr c, ch := h.ch.then c, z := h.z.kp k (by decide), w1 := h.w1.kp k (by decide), nb := h.nb.kp k (by decide), p := h.p.kp k (by decide), r := hR, c := hC, x := fun e => (by cases e), of := own_nil _ _ _ _, ov := own_nil _ _ _ _, ox := own_nil _ _ _ _, oc := own_kp oc k (by decide), oe := own_kp oe k (by decide), om := own_kp om k (by decide), mr := rm.imp_ (fun _ _ r => r.kpL k (by decide)), zw := h.zw, hw := h.hw, hp := h.hp, hr := Nat.le_refl _, hc := by omega, hx := fun e => (by cases e), vx_ := fun k hk => by simp [Value.ownBlock] at hk, lc := fun k hk => own_lt oc k hk, le := fun k hk => own_lt oe k hk, hz := h.ch.size }
/-- The export's variable comes in. -/
theorem Rd.withX {w0 wr : World} {Z W1 NB P R Cb X0 : Nat} {rc : Array Value} {fl su i0 i : Int} {v1 v3 cf cv cx cm vf vv vx v2 : Value} {nc ne : Nat} {xc xe xm : List Value} {fs : List (Int × Int)} {vs xs : List Int} {ms : List MetM} {w : World}
    (h : Rd false w0 wr Z W1 NB P R Cb X0 rc fl su i0 v1 v3 cf cv cx cm vf vv vx v2 nc ne xc xe xm fs vs xs ms w) :
    Rd true w0 wr Z W1 NB P R Cb w.heap.size rc fl su i v1 v3 cf cv (.slice none 0 0) cm vf vv vx v2 nc ne xc xe xm fs vs xs ms (w.alloc (.cells #[.int .i64 i, .slice none 0 0, .slice none 0 0] 67)) :=
  have c : Ch (fun _ => False) w (w.alloc (.cells #[.int .i64 i, .slice none 0 0, .slice none 0 0] 67)) := (Ch.refl _ _).alloc _
  have h1 := h.gr c
  { h1 with x := fun _ => Blk.new w _ _, hx := fun _ => by have := h.hr; have := h.r.lt; omega }
theorem Hd.gr {w0 w w' : World} {Z W1 NB P : Nat} {v1 v2 v3 : Value} {cl : List ClsM} {ms : List MetM} {ex : List ExpM} (h : Hd w0 Z W1 NB P v1 v2 v3 cl ms ex w) (c : Ch (fun _ => False) w w') : Hd w0 Z W1 NB P v1 v2 v3 cl ms ex w' := by
  have k : Kp 0 w w' := kp_ch c
  have q : Oq w w' := (Oq.refl w).gr c
  obtain ⟨xc, oc, rc⟩ := h.oc
  obtain ⟨xm, om, rm⟩ := h.om
  obtain ⟨xe, oe, re⟩ := h.oe
  exact ⟨h.ch.then c, h.z.kp k (by decide), h.w1.kp k (by decide), h.nb.kp k (by decide), h.p.kp k (by decide), ⟨xc, own_kp oc k (by decide), rc.imp_ (fun _ _ r => r.oqL q)⟩, ⟨xm, own_kp om k (by decide), rm.imp_ (fun _ _ r => r.oqL q)⟩, ⟨xe, own_kp oe k (by decide), re.imp_ (fun _ _ r => r.oqL q)⟩, h.zw, h.hw, h.hp, h.hz⟩
/-- A class, in a row of classes: where its cells stand. -/
theorem cls_at {w w' : World} {base : Nat} {v : Value} {cl : List ClsM} {xs : List Value} (o : w'.ownsRow base 44 7 v cl.length xs) (r : Reps (ClsRep w base) 7 cl xs) (q : Oq w w') (i : Nat) (hi : i < cl.length) :
    ∃ g cap vf vv, v = .slice (some ⟨g, 0, none⟩) cl.length cap ∧ w'.cell? ⟨g, i * 7 + 4, none⟩ = some vf ∧ w'.cell? ⟨g, i * 7 + 5, none⟩ = some vv ∧ Ty w' base vf (cl[i]).fields ∧ Ints w' base vv (cl[i]).virtuals := by
  obtain ⟨g, cap, cs, hv, hlt, ⟨vf, vv, rfl, a, b⟩, hc⟩ := reps_cell o r rfl i hi
  exact ⟨g, cap, vf, vv, hv, hc 4 _ (by omega) rfl, hc 5 _ (by omega) rfl, a.oqL q, b.oqL q⟩
/-- Between the append of a class and that of its export. -/
structure Md (w0 wr : World) (Z W1 NB P X : Nat) (i : Int) (v1 v3 cx vx v2 : Value) (cl : List ClsM) (ne : Nat) (xe : List Value) (xs : List Int) (ms : List MetM) (w : World) : Prop where
  oq : Oq wr w
  ch : Ch (fun _ => False) w0 w
  z : Blk w Z #[.slice none 0 0, .slice none 0 0, .slice none 0 0, .slice none 0 0] 27
  w1 : Blk w W1 #[v1, v2, .slice none 0 0, .slice none 0 0] 27
  nb : Blk w NB #[.int .u8 160, .int .u8 0, .int .u8 0, .int .u8 0, .int .u8 98, .int .u8 1, .int .u8 1] 5
  p : Blk w P #[.slice (some ⟨NB, 0, none⟩) 7 7, .int .u8 1, .int .u8 0, .bool false, v3, .slice none 0 0] 56
  x : Blk w X #[.int .i64 i, .slice none 0 0, cx] 67
  ox : w.ownsRow w0.heap.size 3 1 vx xs.length (icells xs)
  oc : ∃ xs, w.ownsRow w0.heap.size 44 7 v1 cl.length xs ∧ Reps (ClsRep w w0.heap.size) 7 cl xs
  oe : w.ownsRow w0.heap.size 67 3 v3 ne xe
  om : ∃ xs, w.ownsRow w0.heap.size 39 11 v2 ms.length xs ∧ Reps (MetRep w w0.heap.size) 11 ms xs
  zw : Z ≠ W1
  hw : w0.heap.size ≤ W1
  hp : w0.heap.size ≤ P
theorem Md.gr {w0 wr w w' : World} {Z W1 NB P X : Nat} {i : Int} {v1 v3 cx vx v2 : Value} {cl : List ClsM} {ne : Nat} {xe : List Value} {xs : List Int} {ms : List MetM} (h : Md w0 wr Z W1 NB P X i v1 v3 cx vx v2 cl ne xe xs ms w) (c : Ch (fun _ => False) w w') : Md w0 wr Z W1 NB P X i v1 v3 cx vx v2 cl ne xe xs ms w' := by
  have k : Kp 0 w w' := kp_ch c
  have q : Oq w w' := (Oq.refl w).gr c
  obtain ⟨xc, oc, rc⟩ := h.oc
  obtain ⟨xm, om, rm⟩ := h.om
  exact ⟨h.oq.gr c, h.ch.then c, h.z.kp k (by decide), h.w1.kp k (by decide), h.nb.kp k (by decide), h.p.kp k (by decide), h.x.kp k (by decide), own_kp h.ox k (by decide), ⟨xc, own_kp oc k (by decide), rc.imp_ (fun _ _ r => r.oqL q)⟩, own_kp h.oe k (by decide), ⟨xm, own_kp om k (by decide), rm.imp_ (fun _ _ r => r.oqL q)⟩, h.zw, h.hw, h.hp⟩
/-- The class is appended and laid into w.Classes. -/
theorem Rd.cls {w0 wr : World} {Z W1 NB P R Cb X : Nat} {rc : Array Value} {fl su i : Int} {v1 v3 cx vf vv vx v2 : Value} {cl : List ClsM} {ne : Nat} {xc xe xm : List Value} {fs : List (Int × Int)} {vs xs : List Int} {ms : List MetM} {w w' : World}
    (h : Rd true w0 wr Z W1 NB P R Cb X rc fl su i v1 v3 vf vv cx v2 vf vv vx v2 cl.length ne xc xe xm fs vs xs ms w) (rcl : Reps (ClsRep wr w0.heap.size) 7 cl xc) {v1' : Value} (g : w.grownBy w' v1.ownBlock)
    (o : w'.ownsRow w0.heap.size 44 7 v1' (cl.length + 1) (xc ++ [.int .i64 0, .int .u8 fl, .int .i64 su, .slice none 0 0, vf, vv, .slice none 0 0])) :
    Md w0 wr Z W1 NB P X i v1' v3 cx vx v2 (cl ++ [⟨fl, su, fs, vs⟩]) ne xe xs ms (w'.setCell ⟨W1, 0, none⟩ v1') := by
  have k := kp_row h.oc g
  have W := h.w1.kp k (by decide)
  have k2 := set_kp W 0 v1'
  have q2 : Oq wr w' := h.oq.kp k (by decide) (by decide) (by decide)
  have q3 : Oq wr (w'.setCell ⟨W1, 0, none⟩ v1') := q2.kp k2 (by decide) (by decide) (by decide)
  have of_ : Ty (w'.setCell ⟨W1, 0, none⟩ v1') w0.heap.size vf fs := own_weaken (own_kp (own_kp h.of k (by decide)) k2 (by decide)) h.hz
  have ov_ : Ints (w'.setCell ⟨W1, 0, none⟩ v1') w0.heap.size vv vs := own_weaken (own_kp (own_kp h.ov k (by decide)) k2 (by decide)) h.hz
  exact ⟨q3, set_base h.hw (grow_base (Nat.le_refl _) h.ch h.oc g) v1', blk_other (h.z.kp k (by decide)) h.zw v1', W.set 0 v1', (h.nb.kp k (by decide)).kp k2 (by decide), (h.p.kp k (by decide)).kp k2 (by decide), ((h.x rfl).kp k (by decide)).kp k2 (by decide),
    own_weaken (own_kp (own_kp h.ox k (by decide)) k2 (by decide)) h.hz, ⟨_, by rw [List.length_append, List.length_singleton]; exact own_kp o k2 (by decide), (rcl.imp_ (fun _ _ r => r.oqL q3)).snoc ⟨vf, vv, rfl, of_, ov_⟩ rfl⟩, own_kp (own_kp h.oe k (by decide)) k2 (by decide),
    ⟨_, own_kp (own_kp h.om k (by decide)) k2 (by decide), h.mr.imp_ (fun _ _ r => (r.kpL k (by decide)).kpL k2 (by decide))⟩, h.zw, h.hw, h.hp⟩
/-- The export is appended and laid into p.Exports: the round is done. -/
theorem Md.fin {w0 wr w w' : World} {Z W1 NB P X : Nat} {i : Int} {v1 v3 vx v2 : Value} {cl : List ClsM} {ex : List ExpM} {xe : List Value} {xs : List Int} {ms : List MetM} (h : Md w0 wr Z W1 NB P X i v1 v3 vx vx v2 cl ex.length xe xs ms w) (re : Reps (ExpRep wr w0.heap.size) 3 ex xe) (hz : w0.heap.size ≤ Z)
    {v3' : Value} (g : w.grownBy w' v3.ownBlock) (o : w'.ownsRow w0.heap.size 67 3 v3' (ex.length + 1) (xe ++ [.int .i64 i, .slice none 0 0, vx])) :
    Hd w0 Z W1 NB P v1 v2 v3' cl ms (ex ++ [⟨i, xs⟩]) (w'.setCell ⟨P, 4, none⟩ v3') ∧ Oq wr (w'.setCell ⟨P, 4, none⟩ v3') := by
  have k := kp_row h.oe g
  have W := h.p.kp k (by decide)
  have k2 := set_kp W 4 v3'
  have q2 : Oq w w' := (Oq.refl w).kp k (by decide) (by decide) (by decide)
  have q3 : Oq w (w'.setCell ⟨P, 4, none⟩ v3') := q2.kp k2 (by decide) (by decide) (by decide)
  have q5 : Oq wr w' := h.oq.kp k (by decide) (by decide) (by decide)
  have q4 : Oq wr (w'.setCell ⟨P, 4, none⟩ v3') := q5.kp k2 (by decide) (by decide) (by decide)
  obtain ⟨xc, oc, rc⟩ := h.oc
  obtain ⟨xm, om, rm⟩ := h.om
  exact ⟨⟨set_base h.hp (grow_base (Nat.le_refl _) h.ch h.oe g) v3', (h.z.kp k (by decide)).kp k2 (by decide), (h.w1.kp k (by decide)).kp k2 (by decide), (h.nb.kp k (by decide)).kp k2 (by decide), W.set 4 v3', ⟨xc, own_kp (own_kp oc k (by decide)) k2 (by decide), rc.imp_ (fun _ _ r => r.oqL q3)⟩,
    ⟨xm, own_kp (own_kp om k (by decide)) k2 (by decide), rm.imp_ (fun _ _ r => r.oqL q3)⟩, ⟨_, by rw [List.length_append, List.length_singleton]; exact own_kp o k2 (by decide), (re.imp_ (fun _ _ r => r.oqL q4)).snoc ⟨vx, rfl, own_kp (own_kp h.ox k (by decide)) k2 (by decide)⟩ rfl⟩, h.zw, h.hw, h.hp, hz⟩, q4⟩
end Go.Proofs.YtjknnifcbcdjiaaDoor.TabL
