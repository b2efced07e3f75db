/- The steps of txn: closures, and what does them in order. -/
import Derived.Test.YtjeaidmmhplglaaTxn
set_option linter.unusedVariables false
set_option linter.unusedSimpArgs false
namespace Go.Proofs.Ytjeaidmmhplglaa.Nvm
open Go.RowKit Go.Proofs.Ytjeaidmmhplglaa.Base

theorem hmf (fn : Fn) (first cap : Array Value) (w : World) : (Instr.makeFunc fn first cap).run Try.prog w = .ok (.func fn first cap) w := rfl
/-- A step: in each world that agrees with w on the blocks that it holds (old ones, not of F, none of steps), it does f. -/
def Stp (w : World) (F : Nat → Prop) (T N L : Nat) (f : St → St × Int) (v : Value) : Prop :=
  ∃ (P : Nat → Prop) (G : Nat) (C : Array Value), v = .func (.func G) #[] C ∧ (∀ k, P k → k < w.heap.size ∧ ¬ F k ∧ ∀ cs fz, w.heap[k]? ≠ some (.cells cs 99 fz)) ∧ (∀ w : World, (callFunc G C).run Try.prog w = .ok (.enter G C) w) ∧
    ∀ w1 s, (∀ k, P k → w1.heap[k]? = w.heap[k]?) → Tx w1 F T N L s → Calls Try.prog G C w1 fun e w2 => e = .returned (.int .i64 (f s).2) ∧ Tx w2 F T N L (f s).1 ∧ Ch F w1 w2
theorem Stp.to {w w' : World} {F X : Nat → Prop} {T N L : Nat} {f : St → St × Int} {v : Value} (h : Stp w F T N L f v) (c : Ch X w w') (hX : ∀ k, X k → F k ∨ ∃ cs fz, w.heap[k]? = some (.cells cs 99 fz)) : Stp w' F T N L f v := by
  obtain ⟨P, G, C, rfl, hP, hin, h⟩ := h
  have e : ∀ k, P k → w'.heap[k]? = w.heap[k]? := fun k hk => c.block k (hP k hk).1 (fun hx => by rcases hX k hx with h1 | ⟨cs, fz, h1⟩; exact (hP k hk).2.1 h1; exact (hP k hk).2.2 cs fz h1)
  exact ⟨P, G, C, rfl, fun k hk => ⟨Nat.lt_of_lt_of_le (hP k hk).1 c.size, (hP k hk).2.1, fun cs fz => by rw [e k hk]; exact (hP k hk).2.2 cs fz⟩, hin, fun w1 s c1 t => h w1 s (fun k hk => (c1 k hk).trans (e k hk)) t⟩
theorem Stp.ch {w w' : World} {F : Nat → Prop} {T N L : Nat} {f : St → St × Int} {v : Value} (h : Stp w F T N L f v) (c : Ch F w w') : Stp w' F T N L f v := h.to c (fun _ h => Or.inl h)
/-- Steps, until one is refused. -/
def runs : List (St → St × Int) → St → St × Int
  | [], s => (s, 0)
  | f :: fs, s => if (f s).2 = 0 then runs fs (f s).1 else f s
theorem runs_append (a b : List (St → St × Int)) (s : St) : runs (a ++ b) s = if (runs a s).2 = 0 then runs b (runs a s).1 else runs a s := by
  induction a generalizing s with
  | nil => simp [runs]
  | cons f fs ih =>
    by_cases h : (f s).2 = 0
    · have e1 : runs (f :: fs) s = runs fs (f s).1 := if_pos h
      have e2 : runs (f :: (fs ++ b)) s = runs (fs ++ b) (f s).1 := if_pos h
      rw [List.cons_append, e1, e2]; exact ih _
    · have e1 : runs (f :: fs) s = f s := if_neg h
      have e2 : runs (f :: (fs ++ b)) s = f s := if_neg h
      rw [List.cons_append, e1, e2, if_neg h]
set_option maxHeartbeats 800000 in
set_option maxRecDepth 100000 in
theorem do_any (w : World) (F : Nat → Prop) (T N L : Nat) (s : St) (A o n c : Nat) (fs : List (St → St × Int)) (hn : fs.length = n) (hn1 : n ≤ 1000000) (hx : Tx w F T N L s) (hA : A < w.heap.size) (hF : ¬ F A)
    (hs : ∀ j, j < n → ∃ v, w.cell? ⟨A, o + j, none⟩ = some v ∧ Stp w F T N L (fs.getD j (fun s => (s, 0))) v) :
    Calls Try.prog 47 #[.slice (some ⟨A, o, none⟩) n c] w fun e w' => e = .returned (.int .i64 (runs fs s).2) ∧ Tx w' F T N L (runs fs s).1 ∧ Ch F w w' := by
  have HS := Lib.hid hs
  have HN := Lib.hid hn
  have HF := Lib.hid hF
  clear hs hn hF
  have HR : runs fs s = runs (fs.drop 0) s := rfl
  have HR2 := Lib.hid HR
  clear HR
  generalize runs fs s = R at *
  go_enter Try.func47, Try.ntmps47
  go_wp2_with (fail)
  go_loopg [8] n (fun k i wr => ∃ j : Nat, j + k ≤ n ∧ n ≤ j + k ∧ i = .int .i64 j ∧ ∃ s', Hid (R = runs (fs.drop j) s') ∧ Tx wr F T N L s' ∧ Ch F w wr)
  case atStart => exact ⟨0, by omega, by omega, rfl, s, HR2, hx, Ch.refl _ _⟩
  case round =>
    clear hx HR2
    obtain ⟨j, hj1, hj2, rfl, s', hr, ht, hc⟩ := hrel
    by_cases hlt : 0 < gk
    · have hi : (j : Int) < (n : Int) := by omega
      obtain ⟨v, hv, P, G, C, rfl, hP, hin, hcall⟩ := HS.out j (by omega)
      have hv' := (hc.cell (p := ⟨A, o + j, none⟩) hA HF.out).trans hv
      have hd : runs (fs.drop j) s' = if ((fs.getD j (fun s => (s, 0))) s').2 = 0 then runs (fs.drop (j + 1)) ((fs.getD j (fun s => (s, 0))) s').1 else (fs.getD j (fun s => (s, 0))) s' := by
        have hl : j < fs.length := by have := HN.out; omega
        rw [List.drop_eq_getElem_cons hl, runs, List.getD_eq_getElem?_getD, List.getElem?_eq_getElem hl]
        rfl
      have hcl := Lib.hid (hcall wr s' (fun k hk => hc.block k (hP k hk).1 (hP k hk).2.1) ht)
      clear hP
      have hr' := Lib.hid (hr.out.trans hd)
      clear hcall hd hr hv HS HN
      generalize fs.getD j (fun s => (s, 0)) = f at *
      by_cases hz : (f s').2 = 0
      · have hr2 := Lib.hid (hr'.out.trans (if_pos hz))
        rw [hz] at hcl
        clear hz hr'
        go_wp2_with (fail)
        refine hcl.out.mono ?_
        rintro e w2 ⟨rfl, ht2, hc2⟩
        have hc3 := hc.trans hc2 (U := F) (fun _ h => h) (fun _ h => Or.inl h)
        clear hcl hc ht hc2
        go_wp2_with (fail)
        go_roundg (gk - 1)
        case rel => exact ⟨j + 1, by omega, by omega, by go_num, _, hr2, ht2, hc3⟩
        case measure => omega
      · have hr2 := hr'.out.trans (if_neg hz)
        clear hr'
        have hz' : ((f s').2 == 0) = false := beq_eq_false_iff_ne.2 hz
        have hz2 : ((f s').2 != 0) = true := by rw [bne_iff_ne]; exact hz
        rw [← hr2] at hcl hz' hz2
        clear hz hr2
        go_wp2_with (fail)
        refine hcl.out.mono ?_
        rintro e w2 ⟨rfl, ht2, hc2⟩
        have hc3 := hc.trans hc2 (U := F) (fun _ h => h) (fun _ h => Or.inl h)
        clear hcl hc ht hc2
        go_wp2_with (fail)
        go_ret
        exact ⟨rfl, ht2, hc3⟩
    · have hi : ¬ (j : Int) < (n : Int) := by omega
      have hr2 : R = (s', 0) := by
        have h1 := hr.out
        rw [List.drop_eq_nil_of_le (by have := HN.out; omega)] at h1
        exact h1
      subst hr2
      clear hr
      go_wp2_with (fail)
      go_ret
      exact ⟨rfl, ht, hc⟩
theorem lt_of_F {w : World} {F : Nat → Prop} {T N L : Nat} {s : St} (h : Tx w F T N L s) {k : Nat} (hk : w.heap.size ≤ k) : ¬ F k := fun hf => by have := h.n.fb k hf; omega
/-- The program's put of the memory below. -/
theorem nput_tx {w : World} {F : Nat → Prop} {T N L : Nat} {s : St} (h : Tx w F T N L s) (at_ b : Int) (b0 : 0 ≤ b) (b1 : b ≤ 255) :
    Calls Try.prog 72 #[.pointer (some ⟨N, 0, none⟩), .int .i64 at_, .int .u8 b] w fun e w' => e = .returned (.int .i64 (s.put at_ b).2) ∧ Tx w' F T N L (s.put at_ b).1 ∧ Ch F w w' := by
  refine (put_any h.n at_ b b0 b1).mono ?_
  rintro e w' ⟨rfl, h1, c⟩
  exact ⟨rfl, ⟨h.t.ch c h.ft, h1, h.ft, (len_put s at_ b).trans h.len⟩, c⟩
set_option maxHeartbeats 800000 in
set_option maxRecDepth 100000 in
theorem putc_any {w : World} {F : Nat → Prop} {T N L B C D : Nat} {s : St} {at_ b : Int} (hx : Tx w F T N L s) (b0 : 0 ≤ b) (b1 : b ≤ 255)
    (p0 : Blk w B #[.pointer (some ⟨T, 0, none⟩)] 23) (p1 : Blk w C #[.int .i64 at_] 3) (p2 : Blk w D #[.int .u8 b] 5) (n0 : ¬ F B) (n1 : ¬ F C) (n2 : ¬ F D) :
    Calls Try.prog 71 #[.pointer (some ⟨B, 0, none⟩), .pointer (some ⟨C, 0, none⟩), .pointer (some ⟨D, 0, none⟩)] w fun e w' => e = .returned (.int .i64 (s.put at_ b).2) ∧ Tx w' F T N L (s.put at_ b).1 ∧ Ch F w w' := by
  have c0 := hx.c0
  have q0 : w.cell? ⟨B, 0, none⟩ = some (.pointer (some ⟨T, 0, none⟩)) := p0.cell 0
  have q1 : w.cell? ⟨C, 0, none⟩ = some (.int .i64 at_) := p1.cell 0
  have q2 : w.cell? ⟨D, 0, none⟩ = some (.int .u8 b) := p2.cell 0
  have hk := Lib.hid (fun (wx wy : World) (c : Ch F wx wy) (h : Ch F w wx) => show wy.cell? ⟨T, 0, none⟩ = some (.pointer (some ⟨N, 0, none⟩)) ∧ wy.cell? ⟨B, 0, none⟩ = some (.pointer (some ⟨T, 0, none⟩)) ∧ wy.cell? ⟨C, 0, none⟩ = some (.int .i64 at_) ∧ wy.cell? ⟨D, 0, none⟩ = some (.int .u8 b) from
    have d := h.trans c (U := F) (fun _ h => h) (fun _ h => Or.inl h)
    ⟨(d.cell hx.t.lt hx.ft).trans hx.c0, (d.cell p0.lt n0).trans (p0.cell 0), (d.cell p1.lt n1).trans (p1.cell 0), (d.cell p2.lt n2).trans (p2.cell 0)⟩)
  have HB := Lib.hid (fun (wx : World) (h : Tx wx F T N L s) => nput_tx h at_ b b0 b1)
  generalize s.put at_ b = R at *
  clear p0 p1 p2 n0 n1 n2
  go_enter Try.func71, Try.ntmps71
  go_wp2_with (fail)
  go_region_held3 (fun w' => w'.cell? ⟨T, 0, none⟩ = some (.pointer (some ⟨N, 0, none⟩)) ∧ w'.cell? ⟨B, 0, none⟩ = some (.pointer (some ⟨T, 0, none⟩)) ∧ w'.cell? ⟨C, 0, none⟩ = some (.int .i64 at_) ∧ w'.cell? ⟨D, 0, none⟩ = some (.int .u8 b)) (first | exact ⟨c0, q0, q1, q2⟩ | exact hk.out _ _ c1 (by first | exact Ch.refl _ _ | exact (Ch.refl _ _).drew | exact (Ch.refl _ _).drewN _)) (first | (go_at_call 72; refine (HB.out _ (by first | exact hx | exact hx.drew | exact hx.drewN _)).mono ?_; rintro e w1 ⟨rfl, p1, c1⟩))
  all_goals (go_wp2; go_ret; exact ⟨rfl, by first | exact p1 | exact p1.drewN _, by first | exact c1 | exact c1.undrew | exact c1.undrewN | exact c1.drewN _ | exact c1.undrew.drewN _ | exact c1.undrewN.drewN _⟩)
set_option maxHeartbeats 400000 in
set_option maxRecDepth 100000 in
theorem put_core (w : World) (T : Nat) (at_ b : Int) :
    Calls Try.prog 52 #[.pointer (some ⟨T, 0, none⟩), .int .i64 at_, .int .u8 b] w fun e w' => e = .returned (.func (.func 71) #[] #[.pointer (some ⟨w.heap.size, 0, none⟩), .pointer (some ⟨w.heap.size + 1, 0, none⟩), .pointer (some ⟨w.heap.size + 2, 0, none⟩)]) ∧
      w' = ((w.alloc (.cells #[.pointer (some ⟨T, 0, none⟩)] 23)).alloc (.cells #[.int .i64 at_] 3)).alloc (.cells #[.int .u8 b] 5) := by
  have hmf := hmf
  go_enter Try.func52, Try.ntmps52
  go_wp2
  go_ret
  exact ⟨rfl, rfl⟩
theorem wr64 {x : Int} (h0 : -9223372036854775808 ≤ x) (h1 : x ≤ 9223372036854775807) : IntKind.i64.wrap x = x := by simp [IntKind.wrap, IntKind.bits, IntKind.signed]; omega
theorem wr8 {x : Int} (h0 : 0 ≤ x) (h1 : x ≤ 255) : IntKind.u8.wrap x = x := by simp [IntKind.wrap, IntKind.bits, IntKind.signed]; omega
theorem wr8' (x : Int) : IntKind.u8.wrap x = x % 256 := by simp [IntKind.wrap, IntKind.bits, IntKind.signed]
theorem wr8b (x : Int) : 0 ≤ IntKind.u8.wrap x ∧ IntKind.u8.wrap x ≤ 255 := by rw [wr8']; omega
def fput (at_ b : Int) : St → St × Int := fun s => s.put at_ b
/-- A step comes back. -/
def GivesStp (w : World) (F : Nat → Prop) (T N L : Nat) (f : St → St × Int) (e : Ending) (w' : World) : Prop :=
  ∃ G C, e = .returned (.func (.func G) #[] C) ∧ Stp w' F T N L f (.func (.func G) #[] C) ∧ Ch (fun _ => False) w w'
theorem Blk.not_steps {w : World} {B : Nat} {cs : Array Value} {U : TypeId} (h : Blk w B cs U) (hU : U ≠ 99) : ∀ ds fz, w.heap[B]? ≠ some (.cells ds 99 fz) := fun ds fz e => by
  rw [h.heap] at e
  injection e with e
  injection e with _ e _
  exact hU e
theorem GivesStp.mk {w w' : World} {F : Nat → Prop} {T N L G : Nat} {s : St} {f : St → St × Int} {C : Array Value} (hx : Tx w F T N L s) (hc : Ch (fun _ => False) w w') (hin : ∀ w : World, (callFunc G C).run Try.prog w = .ok (.enter G C) w)
    (hT : ∀ k, w.heap.size ≤ k → k < w'.heap.size → ∀ cs fz, w'.heap[k]? ≠ some (.cells cs 99 fz))
    (h : ∀ w1 s, (∀ k, w.heap.size ≤ k → k < w'.heap.size → w1.heap[k]? = w'.heap[k]?) → Tx w1 F T N L s → Calls Try.prog G C w1 fun e w2 => e = .returned (.int .i64 (f s).2) ∧ Tx w2 F T N L (f s).1 ∧ Ch F w1 w2) :
    GivesStp w F T N L f (.returned (.func (.func G) #[] C)) w' :=
  ⟨G, C, rfl, ⟨fun k => w.heap.size ≤ k ∧ k < w'.heap.size, G, C, rfl, fun k hk => ⟨hk.2, lt_of_F hx hk.1, hT k hk.1 hk.2⟩, hin, fun w1 s c1 t => h w1 s (fun k h0 h1 => c1 k ⟨h0, h1⟩) t⟩, hc⟩
theorem enters71 (C : Array Value) (w : World) : (callFunc 71 C).run Try.prog w = .ok (.enter 71 C) w := by simp [callFunc, Try.func71, go_sem, Try.f71]
theorem puts_any {w : World} {F : Nat → Prop} {T N L : Nat} {s : St} (hx : Tx w F T N L s) (at_ b : Int) (b0 : 0 ≤ b) (b1 : b ≤ 255) :
    Calls Try.prog 52 #[.pointer (some ⟨T, 0, none⟩), .int .i64 at_, .int .u8 b] w (GivesStp w F T N L (fput at_ b)) := by
  refine (put_core w T at_ b).mono ?_
  rintro e w' ⟨rfl, rfl⟩
  have g : ∀ k, w.heap.size ≤ k → ¬ F k := fun k hk => lt_of_F hx hk
  have p0 := ((Blk.new w #[.pointer (some ⟨T, 0, none⟩)] 23).alloc (.cells #[.int .i64 at_] 3)).alloc (.cells #[.int .u8 b] 5)
  have p1 := (Blk.new (w.alloc (.cells #[.pointer (some ⟨T, 0, none⟩)] 23)) #[.int .i64 at_] 3).alloc (.cells #[.int .u8 b] 5)
  have p2 := Blk.new ((w.alloc (.cells #[.pointer (some ⟨T, 0, none⟩)] 23)).alloc (.cells #[.int .i64 at_] 3)) #[.int .u8 b] 5
  rw [show (w.alloc (.cells #[.pointer (some ⟨T, 0, none⟩)] 23)).heap.size = w.heap.size + 1 from by simp] at p1
  rw [show ((w.alloc (.cells #[.pointer (some ⟨T, 0, none⟩)] 23)).alloc (.cells #[.int .i64 at_] 3)).heap.size = w.heap.size + 2 from by simp] at p2
  refine GivesStp.mk hx ((((Ch.refl _ _).alloc _).alloc _).alloc _) (enters71 _) (fun k h0 h1 => ?_) (fun w1 s1 c1 t1 => ?_)
  · rcases (by simp at h1; omega : k = w.heap.size ∨ k = w.heap.size + 1 ∨ k = w.heap.size + 2) with rfl | rfl | rfl
    · exact Blk.not_steps p0 (by decide)
    · exact Blk.not_steps p1 (by decide)
    · exact Blk.not_steps p2 (by decide)
  exact putc_any t1 b0 b1 ⟨(c1 _ (by omega) (by simp <;> omega)).trans p0.heap⟩ ⟨(c1 _ (by omega) (by simp <;> omega)).trans p1.heap⟩ ⟨(c1 _ (by omega) (by simp <;> omega)).trans p2.heap⟩ (g _ (by omega)) (g _ (by omega)) (g _ (by omega))
/-- Two steps in a literal. -/
theorem do_two {w : World} {F : Nat → Prop} {T N L : Nat} {s : St} {f g : St → St × Int} {u v : Value} (hx : Tx w F T N L s) (hf : Stp w F T N L f u) (hg : Stp w F T N L g v) :
    Calls Try.prog 47 #[.slice (some ⟨w.heap.size, 0, none⟩) 2 2] (w.alloc (.cells #[u, v] 99)) fun e w' => e = .returned (.int .i64 (runs [f, g] s).2) ∧ Tx w' F T N L (runs [f, g] s).1 ∧ Ch F w w' := by
  have c : Ch (fun _ => False) w (w.alloc (.cells #[u, v] 99)) := (Ch.refl _ _).alloc _
  have hB := Blk.new w #[u, v] 99
  refine (do_any _ F T N L s w.heap.size 0 2 2 [f, g] rfl (by omega) (hx.gr c) hB.lt (lt_of_F hx (Nat.le_refl _)) (fun j hj => ?_)).mono ?_
  · rcases (by omega : j = 0 ∨ j = 1) with rfl | rfl
    · exact ⟨u, hB.cell 0, hf.ch c.gr⟩
    · exact ⟨v, hB.cell 1, hg.ch c.gr⟩
  · rintro e w' ⟨rfl, h, k⟩
    exact ⟨rfl, h, c.gr.then k⟩
def fword (at_ v : Int) : St → St × Int := runs [fput (2 * at_) (v / 256), fput (2 * at_ + 1) (v % 256)]
set_option maxHeartbeats 800000 in
set_option maxRecDepth 100000 in
theorem wordc_any {w : World} {F : Nat → Prop} {T N L B C D : Nat} {s : St} {at_ v : Int} (hx : Tx w F T N L s) (a0 : 0 ≤ at_) (a1 : at_ ≤ 100000) (v0 : 0 ≤ v) (v1 : v ≤ 65535)
    (p0 : Blk w B #[.pointer (some ⟨T, 0, none⟩)] 23) (p1 : Blk w C #[.int .i64 at_] 3) (p2 : Blk w D #[.int .u16 v] 22) (n0 : ¬ F B) (n1 : ¬ F C) (n2 : ¬ F D) :
    Calls Try.prog 69 #[.pointer (some ⟨B, 0, none⟩), .pointer (some ⟨C, 0, none⟩), .pointer (some ⟨D, 0, none⟩)] w fun e w' => e = .returned (.int .i64 (fword at_ v s).2) ∧ Tx w' F T N L (fword at_ v s).1 ∧ Ch F w w' := by
  have q0 : w.cell? ⟨B, 0, none⟩ = some (.pointer (some ⟨T, 0, none⟩)) := p0.cell 0
  have q1 : w.cell? ⟨C, 0, none⟩ = some (.int .i64 at_) := p1.cell 0
  have q2 : w.cell? ⟨D, 0, none⟩ = some (.int .u16 v) := p2.cell 0
  have hk := Lib.hid (fun (wy : World) (d : Ch F w wy) => show wy.cell? ⟨B, 0, none⟩ = some (.pointer (some ⟨T, 0, none⟩)) ∧ wy.cell? ⟨C, 0, none⟩ = some (.int .i64 at_) ∧ wy.cell? ⟨D, 0, none⟩ = some (.int .u16 v) from
    ⟨(d.cell p0.lt n0).trans (p0.cell 0), (d.cell p1.lt n1).trans (p1.cell 0), (d.cell p2.lt n2).trans (p2.cell 0)⟩)
  have H1 := Lib.hid (fun (wx : World) (h : Tx wx F T N L s) => show Calls Try.prog 52 #[.pointer (some ⟨T, 0, none⟩), .int .i64 (IntKind.i64.wrap (2 * at_)), .int .u8 (IntKind.u8.wrap (v / 256))] wx (GivesStp wx F T N L (fput (2 * at_) (v / 256))) from by
    rw [wr64 (by omega) (by omega), wr8 (by omega) (by omega)]; exact puts_any h _ _ (by omega) (by omega))
  have H2 := Lib.hid (fun (wx : World) (h : Tx wx F T N L s) => show Calls Try.prog 52 #[.pointer (some ⟨T, 0, none⟩), .int .i64 (IntKind.i64.wrap (IntKind.i64.wrap (2 * at_) + 1)), .int .u8 (IntKind.u8.wrap v)] wx (GivesStp wx F T N L (fput (2 * at_ + 1) (v % 256))) from by
    rw [wr64 (x := 2 * at_) (by omega) (by omega), wr64 (by omega) (by omega), wr8']; exact puts_any h _ _ (by omega) (by omega))
  clear p0 p1 p2 n0 n1 n2
  have hr : fword at_ v s = runs [fput (2 * at_) (v / 256), fput (2 * at_ + 1) (v % 256)] s := rfl
  generalize fput (2 * at_) (v / 256) = f1 at *
  generalize fput (2 * at_ + 1) (v % 256) = f2 at *
  generalize fword at_ v s = R at *
  subst hr
  go_enter Try.func69, Try.ntmps69
  go_wp2_with (fail)
  go_region_held3 (fun w' => w'.cell? ⟨B, 0, none⟩ = some (.pointer (some ⟨T, 0, none⟩)) ∧ w'.cell? ⟨C, 0, none⟩ = some (.int .i64 at_) ∧ w'.cell? ⟨D, 0, none⟩ = some (.int .u16 v)) (first | exact ⟨q0, q1, q2⟩ | exact hk.out _ d3 | exact hk.out _ d2.gr | exact hk.out _ (d2.gr.drew) | exact hk.out _ (d2.gr.alloc _) | exact hk.out _ (d2.gr.drew.alloc _) | exact hk.out _ ((d2.gr.alloc _).drew) | exact hk.out _ d1.gr | exact hk.out _ d1.gr.drew) (first | (go_at_call 47; refine (do_two (hx.gr d2) (s1.ch j2.gr) s2).mono ?_; rintro e w3 ⟨rfl, t3, c3⟩; have d3 := (d2.gr (S := F)).then c3) | (go_at_call 52; refine (H2.out _ (by first | exact hx.gr d1 | exact (hx.gr d1).drew)).mono ?_; rintro e w2 ⟨g2, k2, rfl, s2', c2⟩; have s2 := s2'; have j2 : Ch (fun _ => False) w1 w2 := (by first | exact c2 | exact c2.undrew | exact c2.undrewN); have d2 := d1.then j2) | (go_at_call 52; refine (H1.out _ (by first | exact hx | exact hx.drew | exact hx.drewN _)).mono ?_; rintro e w1 ⟨g1, k1, rfl, s1', c1⟩; have s1 := s1'; have d1 : Ch (fun _ => False) w w1 := (by first | exact c1 | exact c1.undrew | exact c1.undrewN)))
  all_goals (go_wp2; go_ret; exact ⟨rfl, by first | exact t3 | exact t3.drewN _, by first | exact d3 | exact d3.drewN _⟩)
end Go.Proofs.Ytjeaidmmhplglaa.Nvm
