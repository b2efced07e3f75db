/- Words for the walk of the card's table. -/
import Derived.Test.YtjknnifcbcdjiaaDoorTab
import Derived.Test.YtjknnifcbcdjiaaDoorWInvWords
set_option linter.unusedVariables false
set_option linter.unusedSimpArgs false
namespace Go.Proofs.YtjknnifcbcdjiaaDoor.Tab
open Go.RowKit Go.Proofs.YtjknnifcbcdjiaaDoor.Base Go.Proofs.YtjknnifcbcdjiaaDoorW.PrintWords Go.Proofs.YtjknnifcbcdjiaaDoorW.PrintLast
theorem no_ {p : Prop} {x : Bool} (h : x = false) : x = true → p := fun k => by rw [h] at k; cases k
theorem no2_ {p : Prop} {x : Bool} {q : Prop} (h : x = false) : x = true → q → p := fun k => by rw [h] at k; cases k
theorem no3_ {p : Prop} {x : Bool} (h : x = true) : x = false → p := fun k => by rw [h] at k; cases k
theorem no0_ {p : Prop} : (false = true) → p := fun k => by cases k
/-- A native method of the table. -/
structure NatM where
  s : ByteArray
  n : Int
  f : Int
  k : Int
  c : Int
  ts : List (Int × Int)
/-- A class of the table. -/
structure RowM where
  super : Int
  flags : Int
  fields : List (Int × Int)
  virtuals : List NatM
  others : List NatM
def tcells (ts : List (Int × Int)) : List Value := ts.flatMap fun p => [.int .u8 p.1, .int .u16 p.2]
/-- A row of types of the call's own. -/
def Ty (w : World) (base : Nat) (v : Value) (ts : List (Int × Int)) : Prop := w.ownsRow base 33 2 v ts.length (tcells ts)
def NatRep (w : World) (base : Nat) (x : NatM) (cs : List Value) : Prop := ∃ v, cs = [.string x.s, .int .i64 x.n, .int .u8 x.f, .int .u8 x.k, .int .u16 x.c, v] ∧ Ty w base v x.ts
def Nt (w : World) (base : Nat) (v : Value) (ns : List NatM) : Prop := ∃ xs, w.ownsRow base 77 6 v ns.length xs ∧ Reps (NatRep w base) 6 ns xs
def RowRep (w : World) (base : Nat) (r : RowM) (cs : List Value) : Prop := ∃ vf vv vo, cs = [.int .i64 r.super, .int .u8 r.flags, vf, vv, vo] ∧ Ty w base vf r.fields ∧ Nt w base vv r.virtuals ∧ Nt w base vo r.others
def Out (w : World) (base : Nat) (v : Value) (rs : List RowM) : Prop := ∃ xs, w.ownsRow base 75 5 v rs.length xs ∧ Reps (RowRep w base) 5 rs xs
/-- All blocks but those of one type are as they were. -/
def Kp (T : TypeId) (w w' : World) : Prop := ∀ (k : Nat) (cs : Array Value) (t : TypeId), w.heap[k]? = some (Obj.cells cs t (0, 0)) → t ≠ T → w'.heap[k]? = some (Obj.cells cs t (0, 0))
theorem kp_ch {T : TypeId} {w w' : World} (c : Ch (fun _ => False) w w') : Kp T w w' := fun k cs t h _ => (c.block k (Array.getElem?_eq_some_iff.1 h).1 (fun h => h)).trans h
theorem kp_row {w w' : World} {base n size : Nat} {T : TypeId} {v : Value} {xs : List Value} (h : w.ownsRow base T size v n xs) (g : w.grownBy w' v.ownBlock) : Kp T w w' := fun k cs t hk ht => by
  refine (g.block k (Array.getElem?_eq_some_iff.1 hk).1 (fun e => ?_)).trans hk
  obtain ⟨cells, hc⟩ := own_typed h k e.symm
  rw [hk] at hc
  injection hc with hc
  injection hc with _ hc _
  exact ht hc
theorem own_kp {w w' : World} {base n size : Nat} {e T : TypeId} {v : Value} {xs : List Value} (h : w.ownsRow base e size v n xs) (k : Kp T w w') (hT : e ≠ T) : w'.ownsRow base e size v n xs :=
  own_move h (fun b hb => by
    obtain ⟨cells, hc⟩ := own_typed h b hb
    rw [k b cells e hc hT, hc])
theorem Ty.kp {w w' : World} {base : Nat} {v : Value} {ts : List (Int × Int)} {T : TypeId} (h : Ty w base v ts) (k : Kp T w w') (hT : 33 ≠ T) : Ty w' base v ts := own_kp h k hT
theorem NatRep.kp {w w' : World} {base : Nat} {x : NatM} {cs : List Value} {T : TypeId} (h : NatRep w base x cs) (k : Kp T w w') (hT : 33 ≠ T) : NatRep w' base x cs := by
  obtain ⟨v, e, t⟩ := h
  exact ⟨v, e, t.kp k hT⟩
theorem Nt.kp {w w' : World} {base : Nat} {v : Value} {ns : List NatM} {T : TypeId} (h : Nt w base v ns) (k : Kp T w w') (hT : 33 ≠ T) (hN : 77 ≠ T) : Nt w' base v ns := by
  obtain ⟨xs, o, r⟩ := h
  exact ⟨xs, own_kp o k hN, r.imp_ (fun _ _ h => h.kp k hT)⟩
theorem RowRep.kp {w w' : World} {base : Nat} {r : RowM} {cs : List Value} {T : TypeId} (h : RowRep w base r cs) (k : Kp T w w') (hT : 33 ≠ T) (hN : 77 ≠ T) : RowRep w' base r cs := by
  obtain ⟨vf, vv, vo, e, a, b, c⟩ := h
  exact ⟨vf, vv, vo, e, a.kp k hT, b.kp k hT hN, c.kp k hT hN⟩
theorem Out.kp {w w' : World} {base : Nat} {v : Value} {rs : List RowM} {T : TypeId} (h : Out w base v rs) (k : Kp T w w') (hT : 33 ≠ T) (hN : 77 ≠ T) (hR : 75 ≠ T) : Out w' base v rs := by
  obtain ⟨xs, o, r⟩ := h
  exact ⟨xs, own_kp o k hR, r.imp_ (fun _ _ h => h.kp k hT hN)⟩
theorem Out.gr {w w' : World} {base : Nat} {v : Value} {rs : List RowM} (h : Out w base v rs) (c : Ch (fun _ => False) w w') : Out w' base v rs := h.kp (T := 0) (kp_ch c) (by decide) (by decide) (by decide)
theorem Out.drew {w : World} {base : Nat} {v : Value} {rs : List RowM} (h : Out w base v rs) : Out w.drew base v rs := h.gr (Ch.refl _ w).drew
theorem ch_gr {w w' w'' : World} (h : Ch (fun _ => False) w w') (c : Ch (fun _ => False) w' w'') : Ch (fun _ => False) w w'' := h.then c
/-- A literal of the call's own. -/
structure Lit (w : World) (base g : Nat) (cs : Array Value) (T : TypeId) : Prop where
  lo : base ≤ g
  b : Blk w g cs T
theorem Lit.gr {w w' : World} {base g : Nat} {cs : Array Value} {T : TypeId} (h : Lit w base g cs T) (c : Ch (fun _ => False) w w') : Lit w' base g cs T := ⟨h.lo, h.b.ch c (fun h => h)⟩
theorem Lit.new {w0 w : World} (c : Ch (fun _ => False) w0 w) (cs : Array Value) (T : TypeId) : Lit (w.alloc (.cells cs T)) w0.heap.size w.heap.size cs T := ⟨c.size, Blk.new w cs T⟩
theorem Lit.own {w : World} {base g n size : Nat} {cs : Array Value} {T : TypeId} (h : Lit w base g cs T) (hs : cs.size = n * size) (hn : n ≤ maxLen) : w.ownsRow base T size (.slice (some ⟨g, 0, none⟩) n n) n cs.toList :=
  ⟨by simpa using hs, Or.inr ⟨g, n, cs, rfl, h.lo, h.b.heap, Nat.le_refl _, hn, hs, by rw [List.take_of_length_le (by simp [hs])]⟩⟩
theorem lit_cells {w : World} {base g : Nat} {cs : List Value} {T : TypeId} (h : Lit w base g cs.toArray T) : ∀ (j : Nat) (u : Value), cs[j]? = some u → w.cell? ((⟨g, 0, none⟩ : Addr).add j) = some u := fun j u hu => by
  rw [add_plain, h.b.cell]; simpa using hu
theorem small (n : Nat) (h : n ≤ 1000) : n ≤ maxLen := by unfold maxLen; omega
theorem ty_nil {w : World} {base : Nat} : Ty w base (.slice none 0 0) [] := own_nil w base _ _
theorem ty_of {w : World} {base g n : Nat} {cs : Array Value} {ts : List (Int × Int)} (h : Lit w base g cs 33) (e : (ts.length == n && (n ≤ 1000)) = true) (hc : cs.toList = tcells ts) : Ty w base (.slice (some ⟨g, 0, none⟩) n n) ts := by
  rw [Bool.and_eq_true, beq_iff_eq, decide_eq_true_eq] at e
  obtain ⟨rfl, h1⟩ := e
  have hl : cs.size = ts.length * 2 := by
    rw [← Array.length_toList, hc]
    unfold tcells
    clear hc h1 h
    induction ts with
    | nil => rfl
    | cons p ps ih => simp [List.flatMap_cons] at *; omega
  have := h.own hl (small _ h1)
  rw [hc] at this
  exact this
theorem nt_nil {w : World} {base : Nat} : Nt w base (.slice none 0 0) [] := ⟨[], own_nil w base _ _, Reps.none _ _⟩
def ncells (x : NatM) (v : Value) : List Value := [.string x.s, .int .i64 x.n, .int .u8 x.f, .int .u8 x.k, .int .u16 x.c, v]
/-- The natives of a literal, each beside its row of types. -/
inductive NtAll (w : World) (base : Nat) : List (NatM × Value) → Prop
  | nil : NtAll w base []
  | cons {x : NatM} {v : Value} {l : List (NatM × Value)} : Ty w base v x.ts → NtAll w base l → NtAll w base ((x, v) :: l)
theorem nt_all_nil {w : World} {base : Nat} : NtAll w base [] := .nil
theorem nt_all_cons {w : World} {base : Nat} {x : NatM} {v : Value} {l : List (NatM × Value)} (h : Ty w base v x.ts) (t : NtAll w base l) : NtAll w base ((x, v) :: l) := .cons h t
theorem nt_reps {w : World} {base : Nat} : ∀ {l : List (NatM × Value)}, NtAll w base l → Reps (NatRep w base) 6 (l.map (·.1)) (l.flatMap fun p => ncells p.1 p.2) := by
  intro l h
  have key : ∀ (l : List (NatM × Value)) (ps : List NatM) (cs : List Value), NtAll w base l → Reps (NatRep w base) 6 ps cs → Reps (NatRep w base) 6 (ps ++ l.map (·.1)) (cs ++ l.flatMap fun p => ncells p.1 p.2) := by
    intro l
    induction l with
    | nil => intro ps cs _ hr; simpa using hr
    | cons p l ih =>
      intro ps cs h hr
      cases h with
      | cons ht hl =>
        rename_i x v
        have := ih (ps ++ [x]) (cs ++ ncells x v) hl (hr.snoc (p := x) ⟨v, rfl, ht⟩ rfl)
        simpa [List.flatMap_cons] using this
  simpa using key l [] [] h (Reps.none _ _)
theorem nt_of {w : World} {base g n : Nat} {cs : Array Value} (l : List (NatM × Value)) (h : Lit w base g cs 77) (t : NtAll w base l) (e : (l.length == n && (n ≤ 1000)) = true := by rfl) (hc : cs.toList = (l.flatMap fun p => ncells p.1 p.2) := by rfl) : Nt w base (.slice (some ⟨g, 0, none⟩) n n) (l.map (·.1)) := by
  rw [Bool.and_eq_true, beq_iff_eq, decide_eq_true_eq] at e
  obtain ⟨rfl, h1⟩ := e
  have hr := nt_reps t
  have hl : cs.size = l.length * 6 := by
    rw [← Array.length_toList, hc, hr.1, List.length_map]
  have := h.own hl (small _ h1)
  rw [hc] at this
  exact ⟨_, by rw [List.length_map]; exact this, hr⟩
theorem out_more {w0 w w1 : World} {v v' : Value} {rs : List RowM} {r : RowM} {xs cs : List Value} (_ : w0.heap.size ≤ w.heap.size) (hown : w.ownsRow w0.heap.size 75 5 v rs.length xs) (hr : Reps (RowRep w w0.heap.size) 5 rs xs)
    (hown' : w1.ownsRow w0.heap.size 75 5 v' (rs.length + 1) (xs ++ cs)) (hgr : w.grownBy w1 v.ownBlock) (h : RowRep w w0.heap.size r cs) : Out w1 w0.heap.size v' (rs ++ [r]) := by
  have k := kp_row hown hgr
  have hl : cs.length = 5 := by obtain ⟨_, _, _, rfl, _⟩ := h; rfl
  exact ⟨_, by rw [List.length_append, List.length_singleton]; exact hown', (hr.imp_ (fun _ _ h => h.kp k (by decide) (by decide))).snoc (h.kp k (by decide) (by decide)) hl⟩
theorem grow_ch {w0 w w1 : World} {v : Value} {n : Nat} {xs : List Value} (c : Ch (fun _ => False) w0 w) (hown : w.ownsRow w0.heap.size 75 5 v n xs) (g : w.grownBy w1 v.ownBlock) : Ch (fun _ => False) w0 w1 :=
  c.trans (T := fun k => some k = v.ownBlock) ⟨g.os, g.tape, g.output, g.size, fun k hk hn => g.block k hk hn⟩ (fun _ h => h) (fun k hk => Or.inr (own_base hown k hk.symm))
/-- The table's variables. -/
structure Boxes (w : World) (B1 B2 B3 B4 B5 B6 B7 : Nat) : Prop where
  b1 : Blk w B1 #[.int .u8 0, .int .u16 0] 33
  b2 : Blk w B2 #[.int .u8 3, .int .u16 0] 33
  b3 : Blk w B3 #[.int .u8 2, .int .u16 0] 33
  b4 : Blk w B4 #[.int .u8 1, .int .u16 0] 33
  b5 : Blk w B5 #[.int .u8 6, .int .u16 0] 33
  b6 : Blk w B6 #[.int .u8 7, .int .u16 0] 33
  b7 : Blk w B7 #[.int .u8 4, .int .u16 13] 33
theorem Boxes.kp {w w' : World} {B1 B2 B3 B4 B5 B6 B7 : Nat} {T : TypeId} (h : Boxes w B1 B2 B3 B4 B5 B6 B7) (k : Kp T w w') (hT : 33 ≠ T) : Boxes w' B1 B2 B3 B4 B5 B6 B7 :=
  ⟨⟨k _ _ _ h.b1.heap hT⟩, ⟨k _ _ _ h.b2.heap hT⟩, ⟨k _ _ _ h.b3.heap hT⟩, ⟨k _ _ _ h.b4.heap hT⟩, ⟨k _ _ _ h.b5.heap hT⟩, ⟨k _ _ _ h.b6.heap hT⟩, ⟨k _ _ _ h.b7.heap hT⟩⟩
theorem Boxes.gr {w w' : World} {B1 B2 B3 B4 B5 B6 B7 : Nat} (h : Boxes w B1 B2 B3 B4 B5 B6 B7) (c : Ch (fun _ => False) w w') : Boxes w' B1 B2 B3 B4 B5 B6 B7 := h.kp (T := 0) (kp_ch c) (by decide)
theorem Boxes.drew {w : World} {B1 B2 B3 B4 B5 B6 B7 : Nat} (h : Boxes w B1 B2 B3 B4 B5 B6 B7) : Boxes w.drew B1 B2 B3 B4 B5 B6 B7 := h.gr (Ch.refl _ w).drew
theorem grow_boxes {w w1 : World} {B1 B2 B3 B4 B5 B6 B7 : Nat} {base n : Nat} {v : Value} {xs : List Value} (h : Boxes w B1 B2 B3 B4 B5 B6 B7) (hown : w.ownsRow base 75 5 v n xs) (g : w.grownBy w1 v.ownBlock) : Boxes w1 B1 B2 B3 B4 B5 B6 B7 := h.kp (kp_row hown g) (by decide)
section
variable {w : World} {B1 B2 B3 B4 B5 B6 B7 : Nat}
theorem Boxes.c10 (h : Boxes w B1 B2 B3 B4 B5 B6 B7) : w.cell? ⟨B1, 0, none⟩ = some (.int .u8 0) := h.b1.cell 0
theorem Boxes.c11 (h : Boxes w B1 B2 B3 B4 B5 B6 B7) : w.cell? ⟨B1, 1, none⟩ = some (.int .u16 0) := h.b1.cell 1
theorem Boxes.c20 (h : Boxes w B1 B2 B3 B4 B5 B6 B7) : w.cell? ⟨B2, 0, none⟩ = some (.int .u8 3) := h.b2.cell 0
theorem Boxes.c21 (h : Boxes w B1 B2 B3 B4 B5 B6 B7) : w.cell? ⟨B2, 1, none⟩ = some (.int .u16 0) := h.b2.cell 1
theorem Boxes.c30 (h : Boxes w B1 B2 B3 B4 B5 B6 B7) : w.cell? ⟨B3, 0, none⟩ = some (.int .u8 2) := h.b3.cell 0
theorem Boxes.c31 (h : Boxes w B1 B2 B3 B4 B5 B6 B7) : w.cell? ⟨B3, 1, none⟩ = some (.int .u16 0) := h.b3.cell 1
theorem Boxes.c40 (h : Boxes w B1 B2 B3 B4 B5 B6 B7) : w.cell? ⟨B4, 0, none⟩ = some (.int .u8 1) := h.b4.cell 0
theorem Boxes.c41 (h : Boxes w B1 B2 B3 B4 B5 B6 B7) : w.cell? ⟨B4, 1, none⟩ = some (.int .u16 0) := h.b4.cell 1
theorem Boxes.c50 (h : Boxes w B1 B2 B3 B4 B5 B6 B7) : w.cell? ⟨B5, 0, none⟩ = some (.int .u8 6) := h.b5.cell 0
theorem Boxes.c51 (h : Boxes w B1 B2 B3 B4 B5 B6 B7) : w.cell? ⟨B5, 1, none⟩ = some (.int .u16 0) := h.b5.cell 1
theorem Boxes.c60 (h : Boxes w B1 B2 B3 B4 B5 B6 B7) : w.cell? ⟨B6, 0, none⟩ = some (.int .u8 7) := h.b6.cell 0
theorem Boxes.c61 (h : Boxes w B1 B2 B3 B4 B5 B6 B7) : w.cell? ⟨B6, 1, none⟩ = some (.int .u16 0) := h.b6.cell 1
theorem Boxes.c70 (h : Boxes w B1 B2 B3 B4 B5 B6 B7) : w.cell? ⟨B7, 0, none⟩ = some (.int .u8 4) := h.b7.cell 0
theorem Boxes.c71 (h : Boxes w B1 B2 B3 B4 B5 B6 B7) : w.cell? ⟨B7, 1, none⟩ = some (.int .u16 13) := h.b7.cell 1
end
end Go.Proofs.YtjknnifcbcdjiaaDoor.Tab
