/- What is undone: the entries, from the last one. -/
import Derived.Test.YtjeaidmmhplglaaTxnPut
set_option linter.unusedVariables false
set_option linter.unusedSimpArgs false
namespace Go.Proofs.Ytjeaidmmhplglaa.Nvm
open Go.RowKit Go.Proofs.Ytjeaidmmhplglaa.Base
/-- The steps by which k entries are undone. -/
def ulist (l : List Int) : Nat → List (St → St × Int)
  | 0 => []
  | k + 1 => (if 256 ≤ pr l (2 + 4 * k) ∧ pr l (2 + 4 * k) < (l.length : Int) / 2 then [fword (pr l (2 + 4 * k)) (pr l (4 + 4 * k))] else []) ++ ulist l k
def fundo (s : St) : St × Int := runs (ulist s.l (cnt s.l).toNat ++ [fput 0 0, fput 1 0]) s
/-- A row of steps of the call's own. -/
structure Row (w : World) (base : Nat) (F : Nat → Prop) (T N L : Nat) (v : Value) (fs : List (St → St × Int)) (xs : List Value) : Prop where
  own : w.ownsRow base 99 1 v fs.length xs
  st : ∀ j, j < fs.length → ∃ u, xs[j]? = some u ∧ Stp w F T N L (fs.getD j (fun s => (s, 0))) u
theorem grown_ch {w w' : World} {row : Option Nat} (h : w.grownBy w' row) : Ch (fun k => some k = row) w w' := ⟨h.os, h.tape, h.output, h.size, fun k hk hn => h.block k hk hn⟩
theorem own_steps {w : World} {base n : Nat} {v : Value} {xs : List Value} (h : w.ownsRow base 99 1 v n xs) : ∀ k, some k = v.ownBlock → ∃ cs fz, w.heap[k]? = some (.cells cs 99 fz) := by
  intro k hk
  rcases h.2 with ⟨rfl, _⟩ | ⟨g, cap, cur, rfl, _, hg, _⟩
  · simp [Value.ownBlock] at hk
  · simp [Value.ownBlock] at hk
    subst hk
    exact ⟨cur, _, hg⟩
theorem Row.gr {w w' : World} {base : Nat} {F : Nat → Prop} {T N L : Nat} {v : Value} {fs : List (St → St × Int)} {xs : List Value} (h : Row w base F T N L v fs xs) (c : Ch (fun _ => False) w w') : Row w' base F T N L v fs xs :=
  ⟨h.own.kept (row := none) ⟨c.os, c.tape, c.output, c.size, fun k hk _ => c.block k hk (fun h => h)⟩ (by cases v.ownBlock <;> simp), fun j hj => by
    obtain ⟨u, hu, hs⟩ := h.st j hj
    exact ⟨u, hu, hs.ch c.gr⟩⟩
/-- Steps are laid behind a row. -/
theorem Row.more {w w' : World} {base : Nat} {F : Nat → Prop} {T N L : Nat} {v v' : Value} {fs gs : List (St → St × Int)} {xs ys : List Value} (h : Row w base F T N L v fs xs) (hl : ys.length = gs.length)
    (hg : ∀ j, j < gs.length → ∃ u, ys[j]? = some u ∧ Stp w F T N L (gs.getD j (fun s => (s, 0))) u) (ho : w'.ownsRow base 99 1 v' (fs.length + gs.length) (xs ++ ys)) (hgr : w.grownBy w' v.ownBlock) : Row w' base F T N L v' (fs ++ gs) (xs ++ ys) := by
  have hxl : xs.length = fs.length := by simpa using h.own.1
  have mv : ∀ {f u}, Stp w F T N L f u → Stp w' F T N L f u := fun hs => hs.to (grown_ch hgr) (fun k hk => Or.inr (own_steps h.own k hk))
  refine ⟨by rw [List.length_append]; exact ho, fun j hj => ?_⟩
  rw [List.length_append] at hj
  by_cases hc : j < fs.length
  · obtain ⟨u, hu, hs⟩ := h.st j hc
    refine ⟨u, by rw [List.getElem?_append_left (by omega)]; exact hu, ?_⟩
    rw [List.getD_eq_getElem?_getD, List.getElem?_append_left hc, ← List.getD_eq_getElem?_getD]
    exact mv hs
  · obtain ⟨u, hu, hs⟩ := hg (j - fs.length) (by omega)
    refine ⟨u, by rw [List.getElem?_append_right (by omega), hxl]; exact hu, ?_⟩
    rw [List.getD_eq_getElem?_getD, List.getElem?_append_right (by omega), ← List.getD_eq_getElem?_getD]
    exact mv hs
theorem info99 : (Try.prog.info? 99).map (fun i => (i.zero, i.size, i.bytes)) = some (some .nilFunc, 1, 8) := by kernel_rfl
/-- A row is done. -/
theorem do_row {w : World} {base : Nat} {F : Nat → Prop} {T N L : Nat} {s : St} {v : Value} {fs : List (St → St × Int)} {xs : List Value} (hx : Tx w F T N L s) (h : Row w base F T N L v fs xs) (hn : 0 < fs.length) (hn1 : fs.length ≤ 1000000) (hb : ∀ k, F k → k < base) :
    Calls Try.prog 47 #[v] w (Does w F T N L (runs fs s)) := by
  rcases h.own.2 with ⟨_, h0⟩ | ⟨g, cap, cur, rfl, hg, hh, _⟩
  · omega
  · refine do_any w F T N L s g 0 fs.length cap fs rfl hn1 hx (Array.getElem?_eq_some_iff.1 hh).1 (fun hf => by have := hb g hf; omega) (fun j hj => ?_)
    obtain ⟨u, hu, hs⟩ := h.st j hj
    exact ⟨u, by rw [Nat.zero_add, h.own.cellAt j (by omega)]; exact hu, hs⟩
end Go.Proofs.Ytjeaidmmhplglaa.Nvm
