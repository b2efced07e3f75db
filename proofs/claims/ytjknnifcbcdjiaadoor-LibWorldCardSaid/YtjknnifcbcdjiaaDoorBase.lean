/- Blocks of cells, what may have changed between two worlds, bytes. -/
import Derived.WalkKit
import Derived.Below
import Derived.WalkLawsBesides
import Derived.WalkSpells
import Derived.BigQuiet
import Derived.Deep.QuietTactic
import Derived.Deep.MidRow
import Derived.Deep.WholeRow
import Derived.RegionTactic
import Derived.Great.Walk
import Derived.Lib.Hide
import Derived.Lib.SliceRun
import Derived.Laws.IdiomCopy
import Derived.Laws.CopyOwn
import Derived.Laws.BitsLemmas
import Derived.Deep.LoopGhost
import Derived.Deep.RegionHeld3
import Derived.Deep.DeepCutAuto
import Derived.Deep.CutBlock
import Derived.OwnWalk
import Derived.Outline
set_option linter.unusedVariables false
set_option linter.unusedSimpArgs false
namespace Go.Proofs.YtjknnifcbcdjiaaDoor.Base
open Go.RowKit
/-- What may have changed between two worlds: the blocks of S alone, of those that were there. -/
structure Ch (S : Nat → Prop) (w w' : World) : Prop where
  os : w'.os = w.os
  tape : w'.tape = w.tape
  output : w'.output = w.output
  size : w.heap.size ≤ w'.heap.size
  block : ∀ k, k < w.heap.size → ¬ S k → w'.heap[k]? = w.heap[k]?
theorem Ch.refl (S : Nat → Prop) (w : World) : Ch S w w := ⟨rfl, rfl, rfl, Nat.le_refl _, fun _ _ _ => rfl⟩
theorem Ch.trans {S T U : Nat → Prop} {a b c : World} (h : Ch S a b) (k : Ch T b c) (hS : ∀ i, S i → U i) (hT : ∀ i, T i → U i ∨ a.heap.size ≤ i) : Ch U a c :=
  ⟨k.os.trans h.os, k.tape.trans h.tape, k.output.trans h.output, Nat.le_trans h.size k.size, fun i hi hn => (k.block i (Nat.lt_of_lt_of_le hi h.size) (fun hk => (hT i hk).elim hn (by omega))).trans (h.block i hi (fun hk => hn (hS i hk)))⟩
theorem Ch.mono {S T : Nat → Prop} {a b : World} (h : Ch S a b) (hS : ∀ i, S i → T i) : Ch T a b := ⟨h.os, h.tape, h.output, h.size, fun k hk hn => h.block k hk (fun hs => hn (hS k hs))⟩
theorem Ch.alloc {S : Nat → Prop} {a b : World} (h : Ch S a b) (o : Obj) : Ch S a (b.alloc o) :=
  ⟨h.os, h.tape, h.output, Nat.le_trans h.size (by simp), fun k hk hn => (Below.heap_alloc _ _ _ (Nat.lt_of_lt_of_le hk h.size)).trans (h.block k hk hn)⟩
theorem Ch.drew {S : Nat → Prop} {a b : World} (h : Ch S a b) : Ch S a b.drew := ⟨h.os, h.tape, h.output, h.size, h.block⟩
theorem Ch.drewN {S : Nat → Prop} {a b : World} (h : Ch S a b) (m : Nat) : Ch S a (b.drewN m) := ⟨h.os, h.tape, h.output, h.size, h.block⟩
theorem Ch.setCell {S : Nat → Prop} {a b : World} (h : Ch S a b) {p : Addr} (hp : S p.block ∨ a.heap.size ≤ p.block) (u : Value) : Ch S a (b.setCell p u) :=
  ⟨h.os, h.tape, h.output, by simpa [World.setCell] using h.size, fun k hk hn => (Below.heap_setCell _ _ _ _ (by rintro rfl; rcases hp with hp | hp; exact hn hp; omega)).trans (h.block k hk hn)⟩
theorem Ch.below {S : Nat → Prop} {B : Nat} {a b : World} (h : Ch S a b) (hS : ∀ i, S i → B ≤ i) (hB : B ≤ a.heap.size) : Below B a b :=
  ⟨h.os, h.tape, h.output, h.size, fun k hk => h.block k (by omega) (fun hs => by have := hS k hs; omega)⟩
theorem Ch.cell {S : Nat → Prop} {a b : World} (h : Ch S a b) {p : Addr} (hp : p.block < a.heap.size) (hn : ¬ S p.block) : b.cell? p = a.cell? p := World.cell?_of_block (w := a) (h.block p.block hp hn)
theorem Ch.frozen {S : Nat → Prop} {a b : World} (h : Ch S a b) {p : Addr} (hp : p.block < a.heap.size) (hn : ¬ S p.block) : b.frozen? p = a.frozen? p := World.frozen?_of_block (w := a) (h.block p.block hp hn)

theorem Ch.undrew {S : Nat → Prop} {a b : World} (h : Ch S a.drew b) : Ch S a b := ⟨h.os, h.tape, h.output, h.size, h.block⟩
theorem Ch.undrewN {S : Nat → Prop} {a b : World} {m : Nat} (h : Ch S (a.drewN m) b) : Ch S a b := ⟨h.os, h.tape, h.output, h.size, h.block⟩
theorem Ch.then {S : Nat → Prop} {a b c : World} (h : Ch S a b) (k : Ch S b c) : Ch S a c := h.trans k (fun _ h => h) (fun _ h => Or.inl h)
theorem Ch.gr {S : Nat → Prop} {a b : World} (h : Ch (fun _ => False) a b) : Ch S a b := h.mono (fun _ h => h.elim)
/-- A block that holds just these cells. -/
structure Blk (w : World) (B : Nat) (cs : Array Value) (T : TypeId) : Prop where
  heap : w.heap[B]? = some (.cells cs T (0, 0))
theorem Blk.lt {w : World} {B : Nat} {cs : Array Value} {T : TypeId} (h : Blk w B cs T) : B < w.heap.size := (Array.getElem?_eq_some_iff.1 h.heap).1
theorem Blk.cell {w : World} {B : Nat} {cs : Array Value} {T : TypeId} (h : Blk w B cs T) (j : Nat) : w.cell? ⟨B, j, none⟩ = cs[j]? := by simp [World.cell?, h.heap]
theorem Blk.free {w : World} {B : Nat} {cs : Array Value} {T : TypeId} (h : Blk w B cs T) (j : Nat) : w.frozen? ⟨B, j, none⟩ = false := by simp [World.frozen?, h.heap]
theorem Blk.ch {S : Nat → Prop} {w w' : World} {B : Nat} {cs : Array Value} {T : TypeId} (h : Blk w B cs T) (c : Ch S w w') (hn : ¬ S B) : Blk w' B cs T := ⟨(c.block B h.lt hn).trans h.heap⟩
theorem Blk.set {w : World} {B : Nat} {cs : Array Value} {T : TypeId} (h : Blk w B cs T) (j : Nat) (v : Value) : Blk (w.setCell ⟨B, j, none⟩ v) B (cs.setIfInBounds j v) T := by
  have hlt := h.lt
  have hv : w.heap[B] = .cells cs T (0, 0) := (Array.getElem?_eq_some_iff.1 h.heap).2
  refine ⟨?_⟩
  simp only [World.setCell]
  rw [Array.getElem?_eq_getElem (by simpa using hlt), Array.getElem_modify]
  simp [hv]
theorem Blk.drew {w : World} {B : Nat} {cs : Array Value} {T : TypeId} (h : Blk w B cs T) : Blk w.drew B cs T := ⟨h.heap⟩
theorem Blk.drewN {w : World} {B : Nat} {cs : Array Value} {T : TypeId} (h : Blk w B cs T) (m : Nat) : Blk (w.drewN m) B cs T := ⟨h.heap⟩
theorem Blk.new (w : World) (cs : Array Value) (T : TypeId) : Blk (w.alloc (.cells cs T)) w.heap.size cs T := ⟨by show (w.heap.push _)[w.heap.size]? = _; simp⟩
theorem Blk.alloc {w : World} {B : Nat} {cs : Array Value} {T : TypeId} (h : Blk w B cs T) (o : Obj) : Blk (w.alloc o) B cs T := ⟨(Below.heap_alloc _ _ _ h.lt).trans h.heap⟩

/-- Bytes in a block. -/
def cr (l : List Int) : Array Value := (l.map (Value.int .u8)).toArray
theorem cr_get (l : List Int) (j : Nat) (h : j < l.length) : (cr l)[j]? = some (.int .u8 (l.getD j 0)) := by simp [cr, h]
theorem cr_set (l : List Int) (j : Nat) (b : Int) : (cr l).setIfInBounds j (.int .u8 b) = cr (l.set j b) := by simp [cr, List.map_set]
/-- Bytes. -/
def By (l : List Int) : Prop := ∀ x ∈ l, 0 ≤ x ∧ x ≤ 255
theorem By.get {l : List Int} (h : By l) (n : Nat) : 0 ≤ l.getD n 0 ∧ l.getD n 0 ≤ 255 := by
  rw [List.getD_eq_getElem?_getD]
  cases e : l[n]? with
  | none => simp
  | some x => exact h x (List.mem_of_getElem? e)
theorem By.set {l : List Int} (h : By l) (n : Nat) {b : Int} (h0 : 0 ≤ b) (h1 : b ≤ 255) : By (l.set n b) := fun x hx => by
  rcases List.mem_or_eq_of_mem_set hx with hx | rfl
  · exact h x hx
  · exact ⟨h0, h1⟩
theorem set_getD (l : List Int) (i j : Nat) (v : Int) : (l.set i v).getD j 0 = if i = j ∧ j < l.length then v else l.getD j 0 := by
  rw [List.getD_eq_getElem?_getD, List.getD_eq_getElem?_getD, List.getElem?_set]
  by_cases h : i = j
  · subst h
    by_cases h2 : i < l.length
    · simp [h2]
    · simp [h2]
  · simp [h]
theorem World.lt_of_cell {w : World} {p : Addr} {v : Value} (h : w.cell? p = some v) : p.block < w.heap.size := by
  unfold World.cell? at h
  split at h
  · rename_i hh
    exact (Array.getElem?_eq_some_iff.1 hh).1
  · cases h
theorem Ch.top {S : Nat → Prop} {a b : World} (h : Ch S a b) : Ch (fun _ => True) a b := h.mono (fun _ _ => trivial)
theorem Blk.uniq {w : World} {B C : Nat} {cs ds : Array Value} {T U : TypeId} (h : Blk w B cs T) (k : Blk w C ds U) (hn : cs.size ≠ ds.size) : B ≠ C := by
  rintro rfl
  have := h.heap.symm.trans k.heap
  injection this with this
  injection this with this _ _
  exact hn (by rw [this])
theorem Blk.row {w : World} {B : Nat} {cs ds : Array Value} {T : TypeId} (h : Blk w B cs T) : Blk (w.setRow B ds) B ds T := ⟨setRow_heap w B cs ds T (0, 0) h.heap⟩
theorem Ch.setRow {S : Nat → Prop} {a b : World} (h : Ch S a b) {g : Nat} {cs : Array Value} (hp : S g ∨ a.heap.size ≤ g) : Ch S a (b.setRow g cs) :=
  ⟨h.os, h.tape, h.output, by simpa [World.setRow] using h.size, fun k hk hn => (setRow_other b g k cs (by rintro rfl; rcases hp with hp | hp; exact hn hp; omega)).trans (h.block k hk hn)⟩
theorem Blk.ne_new {w : World} {B : Nat} {cs : Array Value} {T : TypeId} (h : Blk w B cs T) : B ≠ w.heap.size := Nat.ne_of_lt h.lt
theorem cr_size (l : List Int) : (cr l).size = l.length := by simp [cr]
end Go.Proofs.YtjknnifcbcdjiaaDoor.Base
