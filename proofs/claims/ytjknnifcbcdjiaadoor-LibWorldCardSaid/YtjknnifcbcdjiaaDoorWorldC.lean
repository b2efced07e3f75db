/- More words for the card's world: a native where it stands, the end of a round. -/
import Derived.Test.YtjknnifcbcdjiaaDoorWorldB
import Derived.Test.YtjknnifcbcdjiaaDoorTab
set_option linter.unusedVariables false
set_option linter.unusedSimpArgs false
namespace Go.Proofs.YtjknnifcbcdjiaaDoor.Tab
open Go.RowKit Go.Proofs.YtjknnifcbcdjiaaDoor.Base Go.Proofs.YtjknnifcbcdjiaaDoorW.PrintWords Go.Proofs.YtjknnifcbcdjiaaDoorW.PrintLast
theorem linked_u (w : World) (s : ByteArray) (i n f k c : Int) (A : Option Addr) (l cp : Nat) : Calls Tryd.prog 23 #[.int .i64 i, .agg #[.string s, .int .i64 n, .int .u8 f, .int .u8 k, .int .u16 c, .slice A l cp]] w fun e w' =>
    e = .returned (.agg #[.int .i64 0, .int .u8 f, .int .i64 i, .slice A l cp, .int .u8 k, .int .u16 c, .int .i64 0, .int .i64 0, .slice none 0 0, .slice none 0 0, .int .i64 n]) ∧ Ch (fun _ => False) w w' := linked_any w s i n f k c A l cp
/-- A native, where its cells stand. -/
theorem nat_at {wr w : World} {base : Nat} {v : Value} {ns : List NatM} (h : Nt wr base v ns) (q : Oq wr w) (i : Nat) (hi : i < ns.length) :
    ∃ g cap A c, v = .slice (some ⟨g, 0, none⟩) ns.length cap ∧ w.cell? ⟨g, i * 6, none⟩ = some (.string (ns[i]).s) ∧ w.cell? ⟨g, i * 6 + 1, none⟩ = some (.int .i64 (ns[i]).n) ∧ w.cell? ⟨g, i * 6 + 2, none⟩ = some (.int .u8 (ns[i]).f) ∧
      w.cell? ⟨g, i * 6 + 3, none⟩ = some (.int .u8 (ns[i]).k) ∧ w.cell? ⟨g, i * 6 + 4, none⟩ = some (.int .u16 (ns[i]).c) ∧ w.cell? ⟨g, i * 6 + 5, none⟩ = some (.slice A (ns[i]).ts.length c) ∧ Ty wr base (.slice A (ns[i]).ts.length c) (ns[i]).ts := by
  obtain ⟨xs, o, r⟩ := h
  obtain ⟨g, cap, cs, hv, hlt, ⟨v, rfl, t⟩, hc⟩ := reps_cell (own_oq o q (Or.inr (Or.inr (Or.inl rfl)))) r rfl i hi
  obtain ⟨A, c, rfl⟩ := own_len t
  exact ⟨g, cap, A, c, hv, hc 0 _ (by omega) rfl, hc 1 _ (by omega) rfl, hc 2 _ (by omega) rfl, hc 3 _ (by omega) rfl, hc 4 _ (by omega) rfl, hc 5 _ (by omega) rfl, t⟩
/-- Between the append of a class and that of its export. -/
structure Md (w0 wr : World) (Z W1 NB P X : Nat) (i : Int) (v1 v3 cx vx v2 : Value) (cl : List ClsM) (ne : Nat) (xe : List Value) (xs : List Int) (ms : List MetM) (w : World) : Prop where
  oq : Oq wr w
  ch : Ch (fun _ => False) w0 w
  z : Blk w Z #[.slice none 0 0, .slice none 0 0, .slice none 0 0, .slice none 0 0] 27
  w1 : Blk w W1 #[v1, v2, .slice none 0 0, .slice none 0 0] 27
  nb : Blk w NB #[.int .u8 160, .int .u8 0, .int .u8 0, .int .u8 0, .int .u8 98, .int .u8 1, .int .u8 1] 5
  p : Blk w P #[.slice (some ⟨NB, 0, none⟩) 7 7, .int .u8 1, .int .u8 0, .bool false, v3, .slice none 0 0] 56
  x : Blk w X #[.int .i64 i, .slice none 0 0, cx] 67
  ox : w.ownsRow w0.heap.size 3 1 vx xs.length (icells xs)
  oc : ∃ xs, w.ownsRow w0.heap.size 44 7 v1 cl.length xs ∧ Reps (ClsRep w w0.heap.size) 7 cl xs
  oe : w.ownsRow w0.heap.size 67 3 v3 ne xe
  om : ∃ xs, w.ownsRow w0.heap.size 39 11 v2 ms.length xs ∧ Reps (MetRep w w0.heap.size) 11 ms xs
  zw : Z ≠ W1
  hw : w0.heap.size ≤ W1
  hp : w0.heap.size ≤ P
theorem Md.gr {w0 wr w w' : World} {Z W1 NB P X : Nat} {i : Int} {v1 v3 cx vx v2 : Value} {cl : List ClsM} {ne : Nat} {xe : List Value} {xs : List Int} {ms : List MetM} (h : Md w0 wr Z W1 NB P X i v1 v3 cx vx v2 cl ne xe xs ms w) (c : Ch (fun _ => False) w w') : Md w0 wr Z W1 NB P X i v1 v3 cx vx v2 cl ne xe xs ms w' := by
  have k : Kp 0 w w' := kp_ch c
  have q : Oq w w' := (Oq.refl w).gr c
  obtain ⟨xc, oc, rc⟩ := h.oc
  obtain ⟨xm, om, rm⟩ := h.om
  exact ⟨h.oq.gr c, h.ch.then c, h.z.kp k (by decide), h.w1.kp k (by decide), h.nb.kp k (by decide), h.p.kp k (by decide), h.x.kp k (by decide), own_kp h.ox k (by decide), ⟨xc, own_kp oc k (by decide), rc.imp_ (fun _ _ r => r.oq q)⟩, own_kp h.oe k (by decide), ⟨xm, own_kp om k (by decide), rm.imp_ (fun _ _ r => r.oq q)⟩, h.zw, h.hw, h.hp⟩
/-- The class is appended and laid into w.Classes. -/
theorem Rd.cls {w0 wr : World} {Z W1 NB P R Cb X : Nat} {rc : Array Value} {fl su i : Int} {v1 v3 cx vf vv vx v2 : Value} {cl : List ClsM} {ne : Nat} {xc xe xm : List Value} {fs : List (Int × Int)} {vs xs : List Int} {ms : List MetM} {w w' : World}
    (h : Rd true w0 wr Z W1 NB P R Cb X rc fl su i v1 v3 vf vv cx v2 vf vv vx v2 cl.length ne xc xe xm fs vs xs ms w) (rcl : Reps (ClsRep wr w0.heap.size) 7 cl xc) {v1' : Value} (g : w.grownBy w' v1.ownBlock)
    (o : w'.ownsRow w0.heap.size 44 7 v1' (cl.length + 1) (xc ++ [.int .i64 0, .int .u8 fl, .int .i64 su, .slice none 0 0, vf, vv, .slice none 0 0])) :
    Md w0 wr Z W1 NB P X i v1' v3 cx vx v2 (cl ++ [⟨fl, su, fs, vs⟩]) ne xe xs ms (w'.setCell ⟨W1, 0, none⟩ v1') := by
  have k := kp_row h.oc g
  have W := h.w1.kp k (by decide)
  have k2 := set_kp W 0 v1'
  have q2 : Oq wr w' := h.oq.kp k (by decide) (by decide) (by decide) (by decide)
  have q3 : Oq wr (w'.setCell ⟨W1, 0, none⟩ v1') := q2.kp k2 (by decide) (by decide) (by decide) (by decide)
  have of_ : Ty (w'.setCell ⟨W1, 0, none⟩ v1') w0.heap.size vf fs := own_weaken (own_kp (own_kp h.of k (by decide)) k2 (by decide)) h.hz
  have ov_ : Ints (w'.setCell ⟨W1, 0, none⟩ v1') w0.heap.size vv vs := own_weaken (own_kp (own_kp h.ov k (by decide)) k2 (by decide)) h.hz
  exact ⟨q3, set_base h.hw (grow_base (Nat.le_refl _) h.ch h.oc g) v1', blk_other (h.z.kp k (by decide)) h.zw v1', W.set 0 v1', (h.nb.kp k (by decide)).kp k2 (by decide), (h.p.kp k (by decide)).kp k2 (by decide), ((h.x rfl).kp k (by decide)).kp k2 (by decide),
    own_weaken (own_kp (own_kp h.ox k (by decide)) k2 (by decide)) h.hz, ⟨_, by rw [List.length_append, List.length_singleton]; exact own_kp o k2 (by decide), (rcl.imp_ (fun _ _ r => r.oq q3)).snoc ⟨vf, vv, rfl, of_, ov_⟩ rfl⟩, own_kp (own_kp h.oe k (by decide)) k2 (by decide),
    ⟨_, own_kp (own_kp h.om k (by decide)) k2 (by decide), h.mr.imp_ (fun _ _ r => r.oq q3)⟩, h.zw, h.hw, h.hp⟩
/-- The export is appended and laid into p.Exports: the round is done. -/
theorem Md.fin {w0 wr w w' : World} {Z W1 NB P X : Nat} {i : Int} {v1 v3 vx v2 : Value} {cl : List ClsM} {ex : List ExpM} {xe : List Value} {xs : List Int} {ms : List MetM} (h : Md w0 wr Z W1 NB P X i v1 v3 vx vx v2 cl ex.length xe xs ms w) (re : Reps (ExpRep wr w0.heap.size) 3 ex xe) (hz : w0.heap.size ≤ Z)
    {v3' : Value} (g : w.grownBy w' v3.ownBlock) (o : w'.ownsRow w0.heap.size 67 3 v3' (ex.length + 1) (xe ++ [.int .i64 i, .slice none 0 0, vx])) :
    Hd w0 Z W1 NB P v1 v2 v3' cl ms (ex ++ [⟨i, xs⟩]) (w'.setCell ⟨P, 4, none⟩ v3') ∧ Oq wr (w'.setCell ⟨P, 4, none⟩ v3') := by
  have k := kp_row h.oe g
  have W := h.p.kp k (by decide)
  have k2 := set_kp W 4 v3'
  have q2 : Oq w w' := (Oq.refl w).kp k (by decide) (by decide) (by decide) (by decide)
  have q3 : Oq w (w'.setCell ⟨P, 4, none⟩ v3') := q2.kp k2 (by decide) (by decide) (by decide) (by decide)
  have q5 : Oq wr w' := h.oq.kp k (by decide) (by decide) (by decide) (by decide)
  have q4 : Oq wr (w'.setCell ⟨P, 4, none⟩ v3') := q5.kp k2 (by decide) (by decide) (by decide) (by decide)
  obtain ⟨xc, oc, rc⟩ := h.oc
  obtain ⟨xm, om, rm⟩ := h.om
  exact ⟨⟨set_base h.hp (grow_base (Nat.le_refl _) h.ch h.oe g) v3', (h.z.kp k (by decide)).kp k2 (by decide), (h.w1.kp k (by decide)).kp k2 (by decide), (h.nb.kp k (by decide)).kp k2 (by decide), W.set 4 v3', ⟨xc, own_kp (own_kp oc k (by decide)) k2 (by decide), rc.imp_ (fun _ _ r => r.oq q3)⟩,
    ⟨xm, own_kp (own_kp om k (by decide)) k2 (by decide), rm.imp_ (fun _ _ r => r.oq q3)⟩, ⟨_, by rw [List.length_append, List.length_singleton]; exact own_kp o k2 (by decide), (re.imp_ (fun _ _ r => r.oq q4)).snoc ⟨vx, rfl, own_kp (own_kp h.ox k (by decide)) k2 (by decide)⟩ rfl⟩, h.zw, h.hw, h.hp, hz⟩, q4⟩
/-- Where an appended row stands: in its own block, or in the new one. -/
theorem at_of {v : Value} {g H n cap : Nat} {w : World} (h : v.ownBlock = some g ∨ g = H) (hH : w.heap.size ≤ H) : (Value.slice (some ⟨g, 0, none⟩) n cap).ownBlock = v.ownBlock ∨ ∃ b, (Value.slice (some ⟨g, 0, none⟩) n cap).ownBlock = some b ∧ w.heap.size ≤ b :=
  h.elim (fun e => Or.inl e.symm) (fun e => Or.inr ⟨g, rfl, e ▸ hH⟩)
theorem one_met (f i k c n : Int) (A : Option Addr) (l cp : Nat) : ∀ u ∈ [Value.int .i64 0, .int .u8 f, .int .i64 i, .slice A l cp, .int .u8 k, .int .u16 c, .int .i64 0, .int .i64 0, .slice none 0 0, .slice none 0 0, .int .i64 n], u.oneCell' = true := fun u hu => by
  simp only [List.mem_cons, List.not_mem_nil, or_false] at hu
  rcases hu with rfl | rfl | rfl | rfl | rfl | rfl | rfl | rfl | rfl | rfl | rfl <;> rfl
theorem one_cls (f s : Int) (A B : Option Addr) (l c l' c' : Nat) : ∀ u ∈ [Value.int .i64 0, .int .u8 f, .int .i64 s, .slice none 0 0, .slice A l c, .slice B l' c', .slice none 0 0], u.oneCell' = true := fun u hu => by
  simp only [List.mem_cons, List.not_mem_nil, or_false] at hu
  rcases hu with rfl | rfl | rfl | rfl | rfl | rfl | rfl <;> rfl
theorem one_exp (i : Int) (A : Option Addr) (l c : Nat) : ∀ u ∈ [Value.int .i64 i, .slice none 0 0, .slice A l c], u.oneCell' = true := fun u hu => by
  simp only [List.mem_cons, List.not_mem_nil, or_false] at hu
  rcases hu with rfl | rfl | rfl <;> rfl
end Go.Proofs.YtjknnifcbcdjiaaDoor.Tab
