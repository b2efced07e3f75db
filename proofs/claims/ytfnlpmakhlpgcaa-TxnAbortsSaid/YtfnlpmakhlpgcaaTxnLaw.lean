/- What transactions come to, wherever the power is cut: no program in sight. -/
import Derived.Test.YtfnlpmakhlpgcaaTxnAll
namespace Go.Proofs.Ytfnlpmakhlpgcaa.Nvm
open Go.RowKit Go.Proofs.Ytfnlpmakhlpgcaa.Base
/-- The bytes as a function. -/
def gt (l : List Int) : Nat → Int := fun j => l.getD j 0
def upd (b : Nat → Int) (i : Nat) (x : Int) : Nat → Int := fun j => if j = i then x else b j
theorem upd_at (b : Nat → Int) (i : Nat) (x : Int) : upd b i x i = x := if_pos rfl
theorem upd_ne (b : Nat → Int) {i j : Nat} (x : Int) (h : j ≠ i) : upd b i x j = b j := if_neg h
theorem gt_set {l : List Int} {i : Nat} {x : Int} (h : i < l.length) : gt (l.set i x) = upd (gt l) i x := by
  funext j
  unfold gt upd
  rw [set_getD]
  by_cases e : j = i
  · subst e; rw [if_pos ⟨rfl, h⟩, if_pos rfl]
  · rw [if_neg (by omega), if_neg e]
def prf (b : Nat → Int) (p : Nat) : Int := 256 * b p + b (p + 1)
/-- What stands in the log for a byte: its first entry. -/
def look (b : Nat → Int) (k : Nat) : Nat → Option Int
  | 0 => none
  | n + 1 => (look b k n).or (if prf b (2 + 4 * n) = ((k / 2 : Nat) : Int) then some (b (4 + 4 * n + k % 2)) else none)
def cn (b : Nat → Int) : Nat := (min (b 0) 100).toNat
/-- A byte behind a recovery. -/
def dat (b : Nat → Int) (k : Nat) : Int := (look b k (cn b)).getD (b k)
theorem cn_le (b : Nat → Int) : cn b ≤ 100 := by unfold cn; omega
theorem look_congr {b c : Nat → Int} {k n : Nat} (h : ∀ j, 2 ≤ j → j < 2 + 4 * n → b j = c j) : look b k n = look c k n := by
  induction n with
  | zero => rfl
  | succ n ih =>
    have e0 := h (2 + 4 * n) (by omega) (by omega)
    have e1 := h (2 + 4 * n + 1) (by omega) (by omega)
    have e2 := h (4 + 4 * n + k % 2) (by omega) (by omega)
    rw [look, look, ih (fun j h0 h1 => h j h0 (by omega)), prf, prf, e0, e1, e2]
theorem look_has {b : Nat → Int} {k n i : Nat} (hi : i < n) (h : prf b (2 + 4 * i) = ((k / 2 : Nat) : Int)) : look b k n ≠ none := by
  induction n with
  | zero => omega
  | succ n ih =>
    rw [look]
    by_cases e : i = n
    · subst e
      rw [if_pos h]
      cases look b k i <;> simp
    · have := ih (by omega)
      cases hl : look b k n with
      | none => exact absurd hl this
      | some x => simp
theorem cn_upd {b : Nat → Int} {i : Nat} (x : Int) (h : i ≠ 0) : cn (upd b i x) = cn b := by unfold cn; rw [upd_ne _ _ (Ne.symm h)]
theorem dat_log {b : Nat → Int} {i k : Nat} (x : Int) (hi : 2 + 4 * cn b ≤ i ∨ i = 1) (h2 : i < 512) (hk : 512 ≤ k) : dat (upd b i x) k = dat b k := by
  unfold dat
  rw [cn_upd x (by omega), upd_ne _ _ (by omega), look_congr (c := b) (fun j h0 h1 => upd_ne _ _ (by omega))]
theorem dat_data {b : Nat → Int} {i : Nat} (x : Int) (hi : 512 ≤ i) (hs : look b i (cn b) ≠ none) (k : Nat) : dat (upd b i x) k = dat b k := by
  have := cn_le b
  unfold dat
  rw [cn_upd x (by omega), look_congr (c := b) (fun j h0 h1 => upd_ne _ _ (by omega))]
  by_cases e : k = i
  · subst e
    cases hl : look b k (cn b) with
    | none => exact absurd hl hs
    | some y => rfl
  · rw [upd_ne _ _ e]
theorem dat_count {b : Nat → Int} {w c k : Nat} (hc : cn b = c) (h2 : c < 100) (hk : 512 ≤ k) (hw : prf b (2 + 4 * c) = (w : Int)) (e0 : b (4 + 4 * c) = b (2 * w)) (e1 : b (5 + 4 * c) = b (2 * w + 1)) :
    dat (upd b 0 ((c : Int) + 1)) k = dat b k := by
  have hcn : cn (upd b 0 ((c : Int) + 1)) = c + 1 := by unfold cn; rw [upd_at]; omega
  unfold dat
  rw [hcn, hc, look_congr (c := b) (fun j h0 h1 => upd_ne _ _ (by omega)), upd_ne _ _ (by omega), look]
  cases hl : look b k c with
  | some y => rfl
  | none =>
    rw [Option.none_or, hw]
    by_cases e : (w : Int) = ((k / 2 : Nat) : Int)
    · rw [if_pos e]
      show b (4 + 4 * c + k % 2) = b k
      rcases (by omega : k % 2 = 0 ∨ k % 2 = 1) with h | h
      · rw [h, Nat.add_zero, e0, show 2 * w = k from by omega]
      · rw [h, show 4 + 4 * c + 1 = 5 + 4 * c from by omega, e1, show 2 * w + 1 = k from by omega]
    · rw [if_neg e]
theorem dat_zero {b : Nat → Int} (k : Nat) (h : b 0 = 0) : dat b k = b k := by
  have : cn b = 0 := by unfold cn; omega
  unfold dat; rw [this]; rfl
/-- Bytes. -/
def Fb (b : Nat → Int) : Prop := ∀ j, 0 ≤ b j ∧ b j ≤ 255
theorem fb_gt {l : List Int} (h : By l) : Fb (gt l) := fun j => h.get j
/-- The power is there, and stays. -/
def On (s : St) : Prop := s.dark = false ∧ s.left = none
/-- A state of a length whose bytes are such. -/
def Wh (L : Nat) (A : (Nat → Int) → Prop) (s : St) : Prop := Ok s ∧ s.l.length = L ∧ A (gt s.l)
/-- From such a state a step is done, and comes to such a one, or the power is gone, and it is such a one. -/
def Hr (P : St → Prop) (f : St → St × Int) (Q R : St → Prop) : Prop :=
  ∀ s, P s → ((f s).2 = 0 ∧ Q (f s).1 ∧ (On s → On (f s).1)) ∨ ((f s).2 = 13 ∧ R (f s).1 ∧ ¬ On s)
theorem Hr.nil (P R : St → Prop) : Hr P (runs []) P R := fun s h => Or.inl ⟨rfl, h, fun o => o⟩
theorem Hr.cons {P Q Q' R : St → Prop} {f : St → St × Int} {fs : List (St → St × Int)} (h : Hr P f Q R) (k : Hr Q (runs fs) Q' R) : Hr P (runs (f :: fs)) Q' R := fun s hs => by
  rcases h s hs with ⟨h0, h1, h2⟩ | ⟨h0, h1, h2⟩
  · have e : runs (f :: fs) s = runs fs (f s).1 := if_pos h0
    rw [e]
    rcases k _ h1 with ⟨k0, k1, k2⟩ | ⟨k0, k1, k2⟩
    · exact Or.inl ⟨k0, k1, fun o => k2 (h2 o)⟩
    · exact Or.inr ⟨k0, k1, fun o => k2 (h2 o)⟩
  · have e : runs (f :: fs) s = f s := if_neg (by omega)
    rw [e]
    exact Or.inr ⟨h0, h1, h2⟩
theorem Hr.append {P Q Q' R : St → Prop} {a b : List (St → St × Int)} (h : Hr P (runs a) Q R) (k : Hr Q (runs b) Q' R) : Hr P (runs (a ++ b)) Q' R := fun s hs => by
  rw [runs_append]
  rcases h s hs with ⟨h0, h1, h2⟩ | ⟨h0, h1, h2⟩
  · rw [if_pos h0]
    rcases k _ h1 with ⟨k0, k1, k2⟩ | ⟨k0, k1, k2⟩
    · exact Or.inl ⟨k0, k1, fun o => k2 (h2 o)⟩
    · exact Or.inr ⟨k0, k1, fun o => k2 (h2 o)⟩
  · rw [if_neg (by omega)]
    exact Or.inr ⟨h0, h1, h2⟩
theorem Hr.imp {P P' Q Q' R R' : St → Prop} {f : St → St × Int} (h : Hr P f Q R) (p : ∀ s, P' s → P s) (q : ∀ s, Q s → Q' s) (r : ∀ s, R s → R' s) : Hr P' f Q' R' := fun s hs => by
  rcases h s (p s hs) with ⟨h0, h1, h2⟩ | ⟨h0, h1, h2⟩
  · exact Or.inl ⟨h0, q _ h1, h2⟩
  · exact Or.inr ⟨h0, r _ h1, h2⟩
theorem Wh.imp {L : Nat} {A B : (Nat → Int) → Prop} {s : St} (h : Wh L A s) (k : ∀ f, Fb f → A f → B f) : Wh L B s := ⟨h.1, h.2.1, k _ (fb_gt h.1.by_) h.2.2⟩
theorem put_cases (s : St) (i : Nat) (b : Int) (h : i < s.l.length) :
    ((s.put i b).2 = 0 ∧ (s.put i b).1.l = s.l.set i b ∧ (On s → On (s.put i b).1)) ∨ ((s.put i b).2 = 13 ∧ (s.put i b).1.l = s.l ∧ ¬ On s) := by
  unfold St.put
  by_cases h1 : s.dark = true
  · rw [if_pos h1]; exact Or.inr ⟨rfl, rfl, fun o => by have := o.1; simp [h1] at this⟩
  · rw [if_neg h1, if_neg (by omega)]
    by_cases h2 : s.left = some 0
    · rw [if_pos h2]; exact Or.inr ⟨rfl, rfl, fun o => by have := o.2; simp [h2] at this⟩
    · rw [if_neg h2]; exact Or.inl ⟨rfl, by simp, fun o => ⟨o.1, by simp [o.2]⟩⟩
theorem Hr.put {L i : Nat} {A B C : (Nat → Int) → Prop} {at_ b : Int} (e : at_ = (i : Int)) (hi : i < L) (b0 : 0 ≤ b) (b1 : b ≤ 255) (hQ : ∀ f, Fb f → A f → B (upd f i b)) (hR : ∀ f, Fb f → A f → C f) :
    Hr (Wh L A) (fput at_ b) (Wh L B) (Wh L C) := fun s hs => by
  subst e
  obtain ⟨ok, len, ha⟩ := hs
  have ok' := ok.put i b0 b1
  have hf := fb_gt ok.by_
  rcases put_cases s i b (by omega) with ⟨h0, h1, h2⟩ | ⟨h0, h1, h2⟩
  · refine Or.inl ⟨h0, ⟨ok', by show (s.put i b).1.l.length = L; rw [h1, List.length_set, len], ?_⟩, h2⟩
    show B (gt (s.put i b).1.l)
    rw [h1, gt_set (by omega)]
    exact hQ _ hf ha
  · refine Or.inr ⟨h0, ⟨ok', by show (s.put i b).1.l.length = L; rw [h1, len], ?_⟩, h2⟩
    show C (gt (s.put i b).1.l)
    rw [h1]
    exact hR _ hf ha
/-- Behind a recovery the data are D. -/
def IA (L : Nat) (D : Nat → Int) (f : Nat → Int) : Prop := ∀ k, 512 ≤ k → k < L → dat f k = D k
/-- Nothing is open, and the data are D. -/
def Cl (L : Nat) (D : Nat → Int) (f : Nat → Int) : Prop := f 0 = 0 ∧ f 1 = 0 ∧ ∀ k, 512 ≤ k → k < L → f k = D k
theorem Cl.ia {L : Nat} {D f : Nat → Int} (h : Cl L D f) : IA L D f := fun k h0 h1 => (dat_zero k h.1).trans (h.2.2 k h0 h1)
/-- While it is undone: m entries are left. -/
def Un (L : Nat) (D l0 : Nat → Int) (m : Nat) (f : Nat → Int) : Prop := (∀ j, j < 512 → f j = l0 j) ∧ IA L D f ∧ ∀ k, 512 ≤ k → k < L → (look l0 k m).getD (f k) = D k
theorem hi_lo {f : Nat → Int} (h : Fb f) (p : Nat) : prf f p / 256 = f p ∧ prf f p % 256 = f (p + 1) := by
  have := h p
  have := h (p + 1)
  unfold prf
  omega
theorem look_same {f l0 : Nat → Int} (h : ∀ j, j < 512 → f j = l0 j) {n : Nat} (hn : n ≤ 100) (k : Nat) : look f k n = look l0 k n := look_congr (fun j _ h1 => h j (by omega))
theorem cn_same {f l0 : Nat → Int} (h : ∀ j, j < 512 → f j = l0 j) : cn f = cn l0 := by unfold cn; rw [h 0 (by omega)]
theorem ia_upd {L i : Nat} {D f : Nat → Int} (x : Int) (h : IA L D f) (hi : 512 ≤ i) (hs : look f i (cn f) ≠ none) : IA L D (upd f i x) := fun k h0 h1 => (dat_data x hi hs k).trans (h k h0 h1)
theorem ia_log {L i : Nat} {D f : Nat → Int} (x : Int) (h : IA L D f) (hi : 2 + 4 * cn f ≤ i ∨ i = 1) (h2 : i < 512) : IA L D (upd f i x) := fun k h0 h1 => (dat_log x hi h2 h0).trans (h k h0 h1)
theorem look_succ {l0 : Nat → Int} {k n w : Nat} (hw : prf l0 (2 + 4 * n) = (w : Int)) : look l0 k (n + 1) = (look l0 k n).or (if w = k / 2 then some (l0 (4 + 4 * n + k % 2)) else none) := by
  rw [look, hw]
  by_cases e : w = k / 2
  · rw [if_pos e, if_pos (by omega)]
  · rw [if_neg e, if_neg (by omega)]
theorem undo_one {L : Nat} {D l0 : Nat → Int} {n w : Nat} (hf : Fb l0) (hn : n < cn l0) (hw : prf l0 (2 + 4 * n) = (w : Int)) (h0 : 256 ≤ w) (h1 : 2 * w + 1 < L) :
    Hr (Wh L (Un L D l0 (n + 1))) (fword (prf l0 (2 + 4 * n)) (prf l0 (4 + 4 * n))) (Wh L (Un L D l0 n)) (Wh L (IA L D)) := by
  have hl := cn_le l0
  have hb := hi_lo hf (4 + 4 * n)
  have f0 := hf (4 + 4 * n)
  have f1 := hf (4 + 4 * n + 1)
  have step : ∀ (f : Nat → Int) (i : Nat) (x : Int), i / 2 = w → Un L D l0 (n + 1) f → Un L D l0 (n + 1) (upd f i x) := fun f i x hi ⟨a, b, c⟩ => by
    have hs : look l0 i (cn l0) ≠ none := look_has hn (by rw [hw]; omega)
    have hs1 : look l0 i (n + 1) ≠ none := look_has (Nat.lt_succ_self n) (by rw [hw]; omega)
    refine ⟨fun j hj => by rw [upd_ne _ _ (by omega)]; exact a j hj, ia_upd x b (by omega) (by rw [cn_same a, look_same a hl]; exact hs), fun k k0 k1 => ?_⟩
    by_cases e : k = i
    · subst e
      have := c k k0 k1
      cases hl : look l0 k (n + 1) with
      | none => exact absurd hl hs1
      | some y => rw [hl] at this; exact this
    · rw [upd_ne _ _ e]; exact c k k0 k1
  unfold fword
  rw [hb.1, hb.2]
  refine Hr.cons (Q := Wh L (fun f => Un L D l0 (n + 1) f ∧ f (2 * w) = l0 (4 + 4 * n))) (Hr.put (i := 2 * w) (by rw [hw]; omega) (by omega) f0.1 f0.2 (fun f _ h => ⟨step f _ _ (by omega) h, upd_at _ _ _⟩) (fun f _ h => h.2.1)) ?_
  refine Hr.cons (Q := Wh L (Un L D l0 n)) (Hr.put (i := 2 * w + 1) (by rw [hw]; omega) (by omega) f1.1 f1.2 (fun f _ h => ?_) (fun f _ h => h.1.2.1)) (Hr.nil _ _)
  obtain ⟨a, b, c⟩ := step f (2 * w + 1) (l0 (4 + 4 * n + 1)) (by omega) h.1
  refine ⟨a, b, fun k k0 k1 => ?_⟩
  have hk := c k k0 k1
  rw [look_succ hw] at hk
  cases hl : look l0 k n with
  | some y => rw [hl] at hk; exact hk
  | none =>
    rw [hl, Option.none_or] at hk
    by_cases e : w = k / 2
    · rw [if_pos e] at hk
      rw [← hk]
      show upd f (2 * w + 1) (l0 (4 + 4 * n + 1)) k = l0 (4 + 4 * n + k % 2)
      rcases (by omega : k % 2 = 0 ∨ k % 2 = 1) with hm | hm
      · rw [hm, Nat.add_zero, upd_ne _ _ (by omega), show k = 2 * w from by omega]; exact h.2
      · rw [hm, show k = 2 * w + 1 from by omega]; exact upd_at _ _ _
    · rw [if_neg e] at hk; exact hk
theorem undo_list {L : Nat} {D : Nat → Int} (l : List Int) (hl : By l) (hL : l.length = L) (he : L % 2 = 0) (n : Nat) (hn : n ≤ cn (gt l)) : Hr (Wh L (Un L D (gt l) n)) (runs (ulist l n)) (Wh L (Un L D (gt l) 0)) (Wh L (IA L D)) := by
  induction n with
  | zero => exact Hr.nil _ _
  | succ n ih =>
    have hf := fb_gt hl
    have hp : 0 ≤ pr l (2 + 4 * n) := (pr_by hl _).1
    rw [ulist]
    by_cases c : 256 ≤ pr l (2 + 4 * n) ∧ pr l (2 + 4 * n) < (l.length : Int) / 2
    · rw [if_pos c]
      obtain ⟨w, hw⟩ : ∃ w : Nat, pr l (2 + 4 * n) = (w : Int) := ⟨(pr l (2 + 4 * n)).toNat, by omega⟩
      refine Hr.append (Q := Wh L (Un L D (gt l) n)) ?_ (ih (by omega))
      exact Hr.cons (undo_one hf (by omega) hw (by omega) (by omega)) (Hr.nil _ _)
    · rw [if_neg c, List.nil_append]
      refine (ih (by omega)).imp (fun s hs => hs.imp fun f _ ⟨a, b, d⟩ => ⟨a, b, fun k k0 k1 => ?_⟩) (fun _ h => h) (fun _ h => h)
      have hk := d k k0 k1
      have e : ¬ prf (gt l) (2 + 4 * n) = ((k / 2 : Nat) : Int) := fun e => c (by
        have e2 : pr l (2 + 4 * n) = ((k / 2 : Nat) : Int) := e
        rw [e2]; omega)
      rw [look, if_neg e, Option.or_none] at hk
      exact hk
/-- The power is there, as far as it is asked. -/
theorem pow_cases (s : St) : (s.pow = 0 ∧ s.dark = false) ∨ (s.pow = 13 ∧ ¬ On s) := by
  unfold St.pow
  by_cases h : s.dark = true
  · rw [if_pos h]; exact Or.inr ⟨rfl, fun o => by have := o.1; simp [h] at this⟩
  · rw [if_neg h]; exact Or.inl ⟨rfl, by simpa using h⟩
theorem undo_hr {L : Nat} {D : Nat → Int} (he : L % 2 = 0) (h5 : 512 ≤ L) : Hr (Wh L (IA L D)) fundo (Wh L (Cl L D)) (Wh L (IA L D)) := fun s hs => by
  have h := undo_list (D := D) s.l hs.1.by_ hs.2.1 he (cn (gt s.l)) (Nat.le_refl _)
  have h2 : Hr (Wh L (Un L D (gt s.l) 0)) (runs [fput 0 0, fput 1 0]) (Wh L (Cl L D)) (Wh L (IA L D)) := by
    refine Hr.cons (Q := Wh L (fun f => f 0 = 0 ∧ ∀ k, 512 ≤ k → k < L → f k = D k)) (Hr.put (i := 0) rfl (by omega) (by omega) (by omega) (fun f _ hf => ⟨upd_at _ _ _, fun k k0 k1 => by rw [upd_ne _ _ (by omega)]; exact hf.2.2 k k0 k1⟩) (fun f _ hf => hf.2.1)) ?_
    exact Hr.cons (Hr.put (i := 1) rfl (by omega) (by omega) (by omega) (fun f _ hf => ⟨by rw [upd_ne _ _ (by omega)]; exact hf.1, upd_at _ _ _, fun k k0 k1 => by rw [upd_ne _ _ (by omega)]; exact hf.2 k k0 k1⟩) (fun f _ hf k k0 k1 => (dat_zero k hf.1).trans (hf.2 k k0 k1))) (Hr.nil _ _)
  exact (h.append h2) s ⟨hs.1, hs.2.1, fun _ _ => rfl, hs.2.2, hs.2.2⟩
theorem recover_hr {L : Nat} {D : Nat → Int} (he : L % 2 = 0) (h5 : 512 ≤ L) : Hr (Wh L (IA L D)) trecover (Wh L (Cl L D)) (Wh L (IA L D)) := fun s hs => by
  unfold trecover
  rcases pow_cases s with ⟨p, _⟩ | ⟨p, q⟩
  · rw [if_neg (by simp [p])]; exact undo_hr he h5 s hs
  · rw [if_pos (by simp [p]), p]; exact Or.inr ⟨rfl, hs, q⟩
/-- One is open, or none, as o tells; behind a recovery the data are D; as they stand they are E; there are n entries at most. -/
def Op (L : Nat) (o : Int) (D E : Nat → Int) (n : Nat) (f : Nat → Int) : Prop := f 1 = o ∧ f 0 ≤ n ∧ IA L D f ∧ ∀ k, 512 ≤ k → k < L → f k = E k
/-- The same, and a word has an entry. -/
def Ke (L : Nat) (o : Int) (D E : Nat → Int) (n w : Nat) (f : Nat → Int) : Prop := Op L o D E n f ∧ ∃ i, i < cn f ∧ prf f (2 + 4 * i) = (w : Int)
theorem begin_hr {L : Nat} {D : Nat → Int} (h5 : 512 ≤ L) : Hr (Wh L (Cl L D)) tbegin (Wh L (Op L 1 D D 0)) (Wh L (IA L D)) := fun s hs => by
  have ho : s.opn = false := by
    have : s.l.getD 1 0 = 0 := hs.2.2.2.1
    unfold St.opn; rw [this]; rfl
  unfold tbegin tstate
  rw [if_pos ho]
  rcases pow_cases s with ⟨p, _⟩ | ⟨p, q⟩
  · rw [if_neg (by simp [p])]
    refine (Hr.put (i := 1) (at_ := 1) rfl (by omega) (by omega) (by omega) (fun f hf h => ?_) (fun f hf h => h.ia) : Hr (Wh L (Cl L D)) (fput 1 1) (Wh L (Op L 1 D D 0)) (Wh L (IA L D))) s hs
    exact ⟨upd_at _ _ _, by rw [upd_ne _ _ (by omega), h.1]; omega, ia_log _ h.ia (Or.inr rfl) (by omega), fun k k0 k1 => by rw [upd_ne _ _ (by omega)]; exact h.2.2 k k0 k1⟩
  · rw [if_pos (by simp [p]), p]; exact Or.inr ⟨rfl, hs.imp (fun f _ h => h.ia), q⟩
theorem cn_nat {f : Nat → Int} (hf : Fb f) {c : Nat} (h : cn f = c) (hc : c < 100) : f 0 = (c : Int) := by
  have := (hf 0).1
  unfold cn at h
  omega
/-- An entry for a word, behind others. -/
theorem entry_hr {L w n c : Nat} {o : Int} {D E : Nat → Int} (he : 512 ≤ L) (h0 : 256 ≤ w) (h1 : w < 65536) (hw : 2 * w + 1 < L) (s : St) (hs : Wh L (Op L o D E n) s) (hc : cn (gt s.l) = c) (hc2 : c < 100) :
    ((fentry c w s).2 = 0 ∧ Wh L (Ke L o D E (n + 1) w) (fentry c w s).1 ∧ (On s → On (fentry c w s).1)) ∨ ((fentry c w s).2 = 13 ∧ Wh L (IA L D) (fentry c w s).1 ∧ ¬ On s) := by
  obtain ⟨ok, len, o1, o2, o3, o4⟩ := hs
  have hf0 := fb_gt ok.by_
  generalize hg : gt s.l = f0 at *
  have b0 := hf0 (2 * w)
  have b1 := hf0 (2 * w + 1)
  have hv : pr s.l (2 * (w : Int)).toNat = 256 * f0 (2 * w) + f0 (2 * w + 1) := by
    rw [show (2 * (w : Int)).toNat = 2 * w from by omega, ← hg]; rfl
  have c0 := cn_nat hf0 hc hc2
  unfold fentry
  rw [hv]
  unfold fent
  rw [show (256 * f0 (2 * w) + f0 (2 * w + 1)) / 256 = f0 (2 * w) from by omega, show (256 * f0 (2 * w) + f0 (2 * w + 1)) % 256 = f0 (2 * w + 1) from by omega, show ((c : Int) + 1) % 256 = (c : Int) + 1 from by omega]
  generalize hx1 : (w : Int) / 256 % 256 = x1
  generalize hx2 : (w : Int) % 256 = x2
  have i1 : IA L D (upd f0 (2 + 4 * c) x1) := ia_log _ o3 (by omega) (by omega)
  have n1 : cn (upd f0 (2 + 4 * c) x1) = c := (cn_upd _ (by omega)).trans hc
  have i2 : IA L D (upd (upd f0 (2 + 4 * c) x1) (3 + 4 * c) x2) := ia_log _ i1 (by omega) (by omega)
  have n2 : cn (upd (upd f0 (2 + 4 * c) x1) (3 + 4 * c) x2) = c := (cn_upd _ (by omega)).trans n1
  have i3 : IA L D (upd (upd (upd f0 (2 + 4 * c) x1) (3 + 4 * c) x2) (4 + 4 * c) (f0 (2 * w))) := ia_log _ i2 (by omega) (by omega)
  have n3 : cn (upd (upd (upd f0 (2 + 4 * c) x1) (3 + 4 * c) x2) (4 + 4 * c) (f0 (2 * w))) = c := (cn_upd _ (by omega)).trans n2
  have i4 : IA L D (upd (upd (upd (upd f0 (2 + 4 * c) x1) (3 + 4 * c) x2) (4 + 4 * c) (f0 (2 * w))) (5 + 4 * c) (f0 (2 * w + 1))) := ia_log _ i3 (by omega) (by omega)
  have n4 : cn (upd (upd (upd (upd f0 (2 + 4 * c) x1) (3 + 4 * c) x2) (4 + 4 * c) (f0 (2 * w))) (5 + 4 * c) (f0 (2 * w + 1))) = c := (cn_upd _ (by omega)).trans n3
  have r1 : ∀ j, (upd (upd (upd (upd f0 (2 + 4 * c) x1) (3 + 4 * c) x2) (4 + 4 * c) (f0 (2 * w))) (5 + 4 * c) (f0 (2 * w + 1))) j = if j = 5 + 4 * c then f0 (2 * w + 1) else if j = 4 + 4 * c then f0 (2 * w) else if j = 3 + 4 * c then x2 else if j = 2 + 4 * c then x1 else f0 j := fun j => rfl
  generalize hX1 : upd f0 (2 + 4 * c) x1 = X1 at *
  generalize hX2 : upd X1 (3 + 4 * c) x2 = X2 at *
  generalize hX3 : upd X2 (4 + 4 * c) (f0 (2 * w)) = X3 at *
  generalize hX4 : upd X3 (5 + 4 * c) (f0 (2 * w + 1)) = X4 at *
  have q0 : X4 (2 + 4 * c) = x1 := by rw [r1]; simp <;> omega
  have q1 : X4 (3 + 4 * c) = x2 := by rw [r1]; simp <;> omega
  have q2 : X4 (4 + 4 * c) = f0 (2 * w) := by rw [r1]; simp <;> omega
  have q3 : X4 (5 + 4 * c) = f0 (2 * w + 1) := by rw [r1]; simp
  have q4 : ∀ j, 512 ≤ j ∨ j < 2 → X4 j = f0 j := fun j hj => by rw [r1, if_neg (by omega), if_neg (by omega), if_neg (by omega), if_neg (by omega)]
  have hpw : prf X4 (2 + 4 * c) = (w : Int) := by unfold prf; rw [show 2 + 4 * c + 1 = 3 + 4 * c from by omega, q0, q1]; omega
  refine (Hr.cons (P := Wh L (fun f => f = f0)) (Q := Wh L (fun f => f = X1)) (Hr.put (i := 2 + 4 * c) (by omega) (by omega) (by omega) (by omega) (fun f _ h => by rw [h]; exact hX1) (fun f _ h => h ▸ o3)) ?_) s ⟨ok, len, hg⟩
  refine Hr.cons (Q := Wh L (fun f => f = X2)) (Hr.put (i := 3 + 4 * c) (by omega) (by omega) (by omega) (by omega) (fun f _ h => by rw [h]; exact hX2) (fun f _ h => h ▸ i1)) ?_
  refine Hr.cons (Q := Wh L (fun f => f = X3)) (Hr.put (i := 4 + 4 * c) (by omega) (by omega) b0.1 b0.2 (fun f _ h => by rw [h]; exact hX3) (fun f _ h => h ▸ i2)) ?_
  refine Hr.cons (Q := Wh L (fun f => f = X4)) (Hr.put (i := 5 + 4 * c) (by omega) (by omega) b1.1 b1.2 (fun f _ h => by rw [h]; exact hX4) (fun f _ h => h ▸ i3)) ?_
  refine Hr.cons (Q := Wh L (Ke L o D E (n + 1) w)) (Hr.put (i := 0) rfl (by omega) (by omega) (by omega) (fun f _ h => ?_) (fun f _ h => h ▸ i4)) (Hr.nil _ _)
  subst h
  refine ⟨⟨?_, ?_, fun k k0 k1 => ?_, fun k k0 k1 => ?_⟩, c, ?_, ?_⟩
  · rw [upd_ne _ _ (by omega), q4 1 (by omega)]; exact o1
  · rw [upd_at]; omega
  · exact (dat_count n4 hc2 k0 hpw (by rw [q2, q4 (2 * w) (by omega)]) (by rw [q3, q4 (2 * w + 1) (by omega)])).trans (i4 k k0 k1)
  · rw [upd_ne _ _ (by omega), q4 k (by omega)]; exact o4 k k0 k1
  · have : cn (upd f 0 ((c : Int) + 1)) = c + 1 := by unfold cn; rw [upd_at]; omega
    omega
  · unfold prf
    rw [upd_ne _ _ (by omega), upd_ne _ _ (by omega)]
    exact hpw
theorem hs_some {l : List Int} {at_ : Int} {n : Nat} (h : hs l at_ n = true) : ∃ i, i < n ∧ pr l (2 + 4 * i) = at_ := by
  induction n with
  | zero => simp [hs] at h
  | succ n ih =>
    rw [hs, Bool.or_eq_true] at h
    rcases h with h | h
    · obtain ⟨i, hi, e⟩ := ih h
      exact ⟨i, by omega, e⟩
    · exact ⟨n, by omega, by simpa using h⟩
theorem kept_hr {L w n : Nat} {D E : Nat → Int} (he : 512 ≤ L) (h0 : 256 ≤ w) (h1 : w < 65536) (hw : 2 * w + 1 < L) (hn : n < 100) : Hr (Wh L (Op L 1 D E n)) (fkept w) (Wh L (Ke L 1 D E (n + 1) w)) (Wh L (IA L D)) := fun s hs => by
  have hf := fb_gt hs.1.by_
  have hb : (gt s.l) 0 ≤ n := hs.2.2.2.1
  have hc0 := (hf 0).1
  have hcn : (cnt s.l).toNat = cn (gt s.l) := rfl
  have hci : cnt s.l = ((cn (gt s.l) : Nat) : Int) := by
    have : cnt s.l = min ((gt s.l) 0) 100 := rfl
    rw [this]; unfold cn; omega
  have hlt : cn (gt s.l) < 100 := by unfold cn; omega
  unfold fkept
  by_cases c : Nvm.hs s.l w (cnt s.l).toNat = true
  · rw [if_pos c]
    obtain ⟨i, hi, e⟩ := hs_some c
    exact Or.inl ⟨rfl, ⟨hs.1, hs.2.1, ⟨hs.2.2.1, (show (gt s.l) 0 ≤ ((n + 1 : Nat) : Int) by omega), hs.2.2.2.2⟩, i, hcn ▸ hi, e⟩, fun o => o⟩
  · rw [if_neg c, if_neg (by omega), hci]
    exact entry_hr he h0 h1 hw s hs rfl hlt
/-- A word among the data. -/
def put2 (E : Nat → Int) (w : Nat) (v : Int) : Nat → Int := fun k => if k = 2 * w then v / 256 else if k = 2 * w + 1 then v % 256 else E k
theorem word_hr {L w n : Nat} {o v : Int} {D E : Nat → Int} (h0 : 256 ≤ w) (hw : 2 * w + 1 < L) (v0 : 0 ≤ v) (v1 : v ≤ 65535) : Hr (Wh L (Ke L o D E n w)) (fword w v) (Wh L (Ke L o D (put2 E w v) n w)) (Wh L (IA L D)) := by
  have step : ∀ (E : Nat → Int) (f : Nat → Int) (i : Nat) (x : Int), i / 2 = w → Ke L o D E n w f → Ke L o D (upd E i x) n w (upd f i x) := fun E f i x hi ⟨⟨a, b, c, d⟩, j, hj, e⟩ => by
    have hl := cn_le f
    refine ⟨⟨by rw [upd_ne _ _ (by omega)]; exact a, by rw [upd_ne _ _ (by omega)]; exact b, ia_upd x c (by omega) (look_has hj (by rw [e]; omega)), fun k k0 k1 => ?_⟩, j, by rw [cn_upd _ (by omega)]; exact hj, ?_⟩
    · by_cases e : k = i
      · subst e; rw [upd_at, upd_at]
      · rw [upd_ne _ _ e, upd_ne _ _ e]; exact d k k0 k1
    · unfold prf at *
      rw [upd_ne _ _ (by omega), upd_ne _ _ (by omega)]; exact e
  unfold fword
  refine Hr.cons (Q := Wh L (Ke L o D (upd E (2 * w) (v / 256)) n w)) (Hr.put (i := 2 * w) (by omega) (by omega) (by omega) (by omega) (fun f _ h => step E f _ _ (by omega) h) (fun f _ h => h.1.2.2.1)) ?_
  refine Hr.cons (Hr.put (i := 2 * w + 1) (by omega) (by omega) (by omega) (by omega) (fun f _ h => ?_) (fun f _ h => h.1.2.2.1)) (Hr.nil _ _)
  have := step _ f (2 * w + 1) (v % 256) (by omega) h
  have e : put2 E w v = upd (upd E (2 * w) (v / 256)) (2 * w + 1) (v % 256) := by
    funext k
    unfold put2 upd
    by_cases c1 : k = 2 * w + 1
    · rw [if_neg (by omega), if_pos c1, if_pos c1]
    · rw [if_neg c1, if_neg c1]
  rw [e]; exact this
theorem task_in_range {L w : Nat} {s : St} (hl : s.l.length = L) (h0 : 256 ≤ w) (hw : 2 * w + 1 < L) : task s w = s.pow := by
  unfold task
  rw [if_neg (by omega), if_neg (by omega)]
theorem putopen_hr {L w n : Nat} {v : Int} {D E : Nat → Int} (he : 512 ≤ L) (h0 : 256 ≤ w) (h1 : w < 65536) (hw : 2 * w + 1 < L) (hn : n < 100) (v0 : 0 ≤ v) (v1 : v ≤ 65535) :
    Hr (Wh L (Op L 1 D E n)) (fun s => tput s w v) (Wh L (Op L 1 D (put2 E w v) (n + 1))) (Wh L (IA L D)) := fun s hs => by
  have ho : s.opn = true := by
    have : s.l.getD 1 0 = 1 := hs.2.2.1
    unfold St.opn; rw [this]; rfl
  unfold tput
  dsimp only
  rw [task_in_range hs.2.1 h0 hw, if_pos ho]
  rcases pow_cases s with ⟨p, _⟩ | ⟨p, q⟩
  · rw [if_neg (by simp [p])]
    exact (Hr.cons (kept_hr he h0 h1 hw hn) (Hr.cons ((word_hr h0 hw v0 v1).imp (fun _ h => h) (fun s h => h.imp fun f _ h => h.1) (fun _ h => h)) (Hr.nil _ _))) s hs
  · rw [if_pos (by simp [p]), p]; exact Or.inr ⟨rfl, hs.imp (fun f _ h => h.2.2.1), q⟩
theorem putshut_hr {L w : Nat} {v : Int} {D : Nat → Int} (he : 512 ≤ L) (h0 : 256 ≤ w) (h1 : w < 65536) (hw : 2 * w + 1 < L) (v0 : 0 ≤ v) (v1 : v ≤ 65535) :
    Hr (Wh L (Cl L D)) (fun s => tput s w v) (Wh L (Cl L (put2 D w v))) (Wh L (IA L D)) := fun s hs => by
  have ho : s.opn = false := by
    have : s.l.getD 1 0 = 0 := hs.2.2.2.1
    unfold St.opn; rw [this]; rfl
  unfold tput
  dsimp only
  rw [task_in_range hs.2.1 h0 hw, ho, if_neg (c := (false = true)) (by simp)]
  rcases pow_cases s with ⟨p, _⟩ | ⟨p, q⟩
  · rw [if_neg (by simp [p])]
    have e : Hr (Wh L (Cl L D)) (fentry 0 w) (Wh L (Ke L 0 D D 1 w)) (Wh L (IA L D)) := fun s hs => by
      have hz : (gt s.l) 0 = 0 := hs.2.2.1
      exact entry_hr (n := 0) (c := 0) he h0 h1 hw s (hs.imp fun f _ h => ⟨h.2.1, by rw [h.1]; omega, h.ia, h.2.2⟩) (by unfold cn; rw [hz]; rfl) (by omega)
    refine (Hr.cons e (Hr.cons (word_hr h0 hw v0 v1) (Hr.cons (Hr.put (i := 0) rfl (by omega) (by omega) (by omega) (fun f _ h => ?_) (fun f _ h => h.1.2.2.1)) (Hr.nil _ _)))) s hs
    exact ⟨upd_at _ _ _, by rw [upd_ne _ _ (by omega)]; exact h.1.1, fun k k0 k1 => by rw [upd_ne _ _ (by omega)]; exact h.1.2.2.2 k k0 k1⟩
  · rw [if_pos (by simp [p]), p]; exact Or.inr ⟨rfl, hs.imp (fun f _ h => h.ia), q⟩
theorem commit_hr {L n : Nat} {D E : Nat → Int} (he : 512 ≤ L) : Hr (Wh L (Op L 1 D E n)) tcommit (Wh L (Cl L E)) (fun s => Wh L (IA L D) s ∨ Wh L (IA L E) s) := fun s hs => by
  have ho : s.opn = true := by
    have : s.l.getD 1 0 = 1 := hs.2.2.1
    unfold St.opn; rw [this]; rfl
  unfold tcommit tstate
  rw [if_pos ho]
  rcases pow_cases s with ⟨p, _⟩ | ⟨p, q⟩
  · rw [if_neg (by simp [p])]
    refine (Hr.cons (Q := Wh L (fun f => f 0 = 0 ∧ ∀ k, 512 ≤ k → k < L → f k = E k)) ((Hr.put (i := 0) rfl (by omega) (by omega) (by omega) (fun f _ hf => ⟨upd_at _ _ _, fun k k0 k1 => by rw [upd_ne _ _ (by omega)]; exact hf.2.2.2 k k0 k1⟩) (fun f _ hf => hf.2.2.1)).imp (fun _ h => h) (fun _ h => h) (fun _ h => Or.inl h)) ?_) s hs
    exact Hr.cons ((Hr.put (i := 1) (C := IA L E) rfl (by omega) (by omega) (by omega) (fun f _ hf => ⟨by rw [upd_ne _ _ (by omega)]; exact hf.1, upd_at _ _ _, fun k k0 k1 => by rw [upd_ne _ _ (by omega)]; exact hf.2 k k0 k1⟩) (fun f _ hf k k0 k1 => (dat_zero k hf.1).trans (hf.2 k k0 k1))).imp (fun _ h => h) (fun _ h => h) (fun _ h => Or.inr h)) (Hr.nil _ _)
  · rw [if_pos (by simp [p]), p]; exact Or.inr ⟨rfl, Or.inl (hs.imp (fun f _ h => h.2.2.1)), q⟩
theorem abort_hr {L n : Nat} {D E : Nat → Int} (he : L % 2 = 0) (h5 : 512 ≤ L) : Hr (Wh L (Op L 1 D E n)) tabort (Wh L (Cl L D)) (Wh L (IA L D)) := fun s hs => by
  have ho : s.opn = true := by
    have : s.l.getD 1 0 = 1 := hs.2.2.1
    unfold St.opn; rw [this]; rfl
  have hi : Wh L (IA L D) s := hs.imp (fun f _ h => h.2.2.1)
  unfold tabort tstate
  rw [if_pos ho]
  rcases pow_cases s with ⟨p, _⟩ | ⟨p, q⟩
  · rw [if_neg (by simp [p])]; exact undo_hr he h5 s hi
  · rw [if_pos (by simp [p]), p]; exact Or.inr ⟨rfl, hi, q⟩
theorem tword_on {L w n : Nat} {o : Int} {D E : Nat → Int} {s : St} (hs : Wh L (Op L o D E n) s) (ho : On s) (h0 : 256 ≤ w) (hw : 2 * w + 1 < L) : tword s w = (256 * E (2 * w) + E (2 * w + 1), 0) := by
  have hp : s.pow = 0 := by
    rcases pow_cases s with ⟨p, _⟩ | ⟨_, q⟩
    · exact p
    · exact absurd ho q
  unfold tword
  rw [task_in_range hs.2.1 h0 hw, if_pos hp]
  have hd := hs.2.2.2.2.2
  have e0 := hd (2 * w) (by omega) (by omega)
  have e1 := hd (2 * w + 1) (by omega) (by omega)
  rw [show (2 * (w : Int)).toNat = 2 * w from by omega]
  have : pr s.l (2 * w) = 256 * gt s.l (2 * w) + gt s.l (2 * w + 1) := rfl
  rw [this, e0, e1]
theorem Hr.on {P Q R : St → Prop} {f : St → St × Int} (h : Hr P f Q R) {s : St} (hs : P s) (ho : On s) : (f s).2 = 0 ∧ Q (f s).1 ∧ On (f s).1 := by
  rcases h s hs with ⟨a, b, c⟩ | ⟨_, _, c⟩
  · exact ⟨a, b, c ho⟩
  · exact absurd ho c
/-- The power is brought back. -/
theorem on_wh {L : Nat} {A : (Nat → Int) → Prop} {s : St} (h : Wh L A s) : Wh L A s.on ∧ On s.on := ⟨⟨h.1.on, h.2.1, h.2.2⟩, rfl, rfl⟩
theorem cut_wh {L : Nat} {A : (Nat → Int) → Prop} {s : St} (h : Wh L A s) {x : Int} (x0 : 0 ≤ x) (x1 : x ≤ 65535) : (s.cut x).2 = 0 ∧ Wh L A (s.cut x).1 := by
  have ok := h.1.cut (n := x) (by omega)
  unfold St.cut at *
  rw [if_neg (by omega)] at *
  exact ⟨rfl, ok, h.2.1, h.2.2⟩
end Go.Proofs.Ytfnlpmakhlpgcaa.Nvm
