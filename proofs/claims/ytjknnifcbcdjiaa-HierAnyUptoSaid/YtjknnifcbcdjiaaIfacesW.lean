/- hier.Ifaces: all interfaces that a class has, gathered (the loop over the classes above). -/
import Derived.Test.YtjknnifcbcdjiaaUp
set_option linter.unusedVariables false
set_option linter.unusedSimpArgs false
namespace Go.Proofs.Ytjknnifcbcdjiaa.Ups
open Go.RowKit Go.Shelf Go.Proofs.Ytjknnifcbcdjiaa.RangeC Go.Proofs.YtjknnifcbcdjiaaW.PrintWords
attribute [local go_sem] Oper.semAt_some
/-- Is a number an interface's? -/
def selI (n : Nat) (fl : Int → Int) (i : Int) : Bool := decide (0 ≤ i ∧ i < n) && isI fl i
/-- What a class gives: itself, if it is an interface; those that it names. -/
def gath (n : Nat) (fl : Int → Int) (ifs : Int → List Int) (x : Int) : List Int := (if isI fl x = true then [x] else []) ++ (ifs x).filter (selI n fl)
def gathAll {m : Nat} (n : Nat) (fl : Int → Int) (ifs : Int → List Int) (l : List (Cl m)) : List Int := l.flatMap fun x => gath n fl ifs x.1
theorem gath_le {n : Nat} {fl : Int → Int} {ifs : Int → List Int} {M : Nat} (h : ∀ i, (ifs i).length ≤ M) (x : Int) : (gath n fl ifs x).length ≤ M + 1 := by
  have h1 := List.length_filter_le (selI n fl) (ifs x)
  have h2 := h x
  unfold gath
  rw [List.length_append]
  split <;> simp <;> omega
theorem gathAll_le {m n : Nat} {fl : Int → Int} {ifs : Int → List Int} {M : Nat} (h : ∀ i, (ifs i).length ≤ M) : ∀ l : List (Cl m), (gathAll n fl ifs l).length ≤ l.length * (M + 1)
  | [] => by simp [gathAll]
  | x :: l => by
    have h1 := gath_le (n := n) (fl := fl) h x.1
    have h2 := gathAll_le (n := n) (fl := fl) h l
    unfold gathAll at *
    rw [List.flatMap_cons, List.length_append, List.length_cons, Nat.succ_mul]
    omega
theorem gathAll_snoc {m n : Nat} {fl : Int → Int} {ifs : Int → List Int} (l : List (Cl m)) (x : Cl m) : gathAll n fl ifs (l ++ [x]) = gathAll n fl ifs l ++ gath n fl ifs x.1 := by simp [gathAll]
/-- Within a turn: W at its start, W1 now. -/
structure Mid (w W : World) (b1 n₁ : Nat) (acc : List Int) (W1 : World) : Prop where
  box : ∃ v, Boxed W1 b1 51 v ∧ W1.ownsRow n₁ 3 1 v acc.length (acc.map fun x => .int .i64 x)
  bel : Below w.heap.size w W1
  ko : KeepsOthers W W1
  kept : ∀ k o, k < n₁ → k ≠ b1 → W.heap[k]? = some o → W1.heap[k]? = some o
  bw : Below w.heap.size W W1
  sz : n₁ ≤ W1.heap.size
theorem Mid.alloc {w W W1 : World} {b1 n₁ : Nat} {acc : List Int} (h : Mid w W b1 n₁ acc W1) (o : Obj) : Mid w W b1 n₁ acc (W1.alloc o) := by
  obtain ⟨v, hv, hr⟩ := h.box
  exact ⟨⟨v, hv.alloc o, hr.alloc o⟩, h.bel.alloc h.bel.size o, h.ko.trans (KeepsOthers.alloc _ _), fun k q hk hb hq => blk_alloc (h.kept k q hk hb hq) o, h.bw.alloc h.bel.size o, by have := h.sz; simp; omega⟩
theorem Mid.appended {w W W1 w1 : World} {b1 n₁ m : Nat} {acc acc' : List Int} {v v' : Value} {tmp : Obj} (h : Mid w W b1 n₁ acc W1) (hb : w.heap.size ≤ b1) (hn : w.heap.size ≤ n₁) (hv : Boxed W1 b1 51 v) (hrow : W1.ownsRow n₁ 3 1 v acc.length (acc.map fun x => .int .i64 x))
    (hown' : w1.ownsRow n₁ 3 1 v' m (acc'.map fun x => .int .i64 x)) (hm : m = acc'.length) (hgrow : (W1.alloc tmp).grownBy w1 v.ownBlock) : Boxed w1 b1 51 v ∧ (∀ k o, k < n₁ → k ≠ b1 → W1.heap[k]? = some o → w1.heap[k]? = some o) ∧ Mid w W b1 n₁ acc' (w1.setCell ⟨b1, 0, none⟩ v') := by
  subst hm
  obtain ⟨hv1, hv2, _, hk2, hb2⟩ := hv.appended (by decide) (own_weaken hrow hn) (Nat.le_trans hn h.sz) hb (own_weaken hown' hn) hgrow
  have hr2 : (w1.setCell ⟨b1, 0, none⟩ v').ownsRow n₁ 3 1 v' acc'.length (acc'.map fun x => .int .i64 x) := hown'.kept (grownBy_setCell' w1 b1 v') (.inr (hv1.not_row (by decide) hown').symm)
  have hz := h.sz
  have hkp : ∀ k o, k < n₁ → k ≠ b1 → W1.heap[k]? = some o → w1.heap[k]? = some o := fun k o hk hne ho => (hgrow.block k (by simp; omega) (fun e => by have := own_base hrow k e.symm; omega)).trans (blk_alloc ho tmp)
  refine ⟨hv1, hkp, ⟨v', hv2, hr2⟩, h.bel.trans hb2, h.ko.trans hk2, fun k q hk hne hq => ?_, h.bw.trans hb2, Nat.le_trans hz (Nat.le_trans (by have := hgrow.size; simp at this; omega) (Below.refl 0 _ |>.setCell (p := ⟨b1, 0, none⟩) (Nat.zero_le _) v').size)⟩
  exact (Below.heap_setCell w1 ⟨b1, 0, none⟩ v' k (fun e => hne (by simpa using e))).trans (hkp k q hk hne (h.kept k q hk hne hq))
end Go.Proofs.Ytjknnifcbcdjiaa.Ups
