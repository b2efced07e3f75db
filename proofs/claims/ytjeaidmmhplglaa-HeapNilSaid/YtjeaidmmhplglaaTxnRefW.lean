/- The reference's txn: lists of writes. -/
import Derived.Test.YtjeaidmmhplglaaTxnRef
set_option linter.unusedVariables false
set_option linter.unusedSimpArgs false
namespace Go.Proofs.Ytjeaidmmhplglaa.Nvm
open Go.RowKit Go.Proofs.Ytjeaidmmhplglaa.Base
def fp (p : Int × Int) : St → St × Int := fput p.1 p.2
def wcells (ws : List (Int × Int)) : List Value := ws.flatMap (fun p => [.int .i64 p.1, .int .u8 p.2])
theorem wcells_len (ws : List (Int × Int)) : (wcells ws).length = ws.length * 2 := by
  induction ws with
  | nil => rfl
  | cons p ws ih => simp only [wcells, List.flatMap_cons, List.length_append, List.length_cons, List.length_nil] at *; omega
theorem wcells_append (a b : List (Int × Int)) : wcells (a ++ b) = wcells a ++ wcells b := by simp [wcells]
theorem wcells_get (ws : List (Int × Int)) (j : Nat) (h : j < ws.length) : (wcells ws)[2 * j]? = some (.int .i64 (ws.getD j (0, 0)).1) ∧ (wcells ws)[2 * j + 1]? = some (.int .u8 (ws.getD j (0, 0)).2) := by
  induction ws generalizing j with
  | nil => simp at h
  | cons p ws ih =>
    cases j with
    | zero => exact ⟨rfl, rfl⟩
    | succ j =>
      have := ih j (by simpa using h)
      rw [show 2 * (j + 1) = 2 * j + 2 from by omega, show 2 * j + 2 + 1 = 2 * j + 1 + 2 from by omega]
      exact this
/-- The bytes of writes are bytes. -/
def WBy (ws : List (Int × Int)) : Prop := ∀ p ∈ ws, 0 ≤ p.2 ∧ p.2 ≤ 255
theorem WBy.get {ws : List (Int × Int)} (h : WBy ws) (j : Nat) (hj : j < ws.length) : 0 ≤ (ws.getD j (0, 0)).2 ∧ (ws.getD j (0, 0)).2 ≤ 255 := by
  rw [List.getD_eq_getElem?_getD, List.getElem?_eq_getElem hj]
  exact h _ (List.getElem_mem hj)
theorem WBy.append {a b : List (Int × Int)} (h : WBy a) (k : WBy b) : WBy (a ++ b) := fun p hp => by
  rcases List.mem_append.1 hp with hp | hp
  · exact h p hp
  · exact k p hp
theorem rput_rx {w : World} {F : Nat → Prop} {T N L : Nat} {s : St} (h : Rx w F T N L s) (at_ b : Int) (b0 : 0 ≤ b) (b1 : b ≤ 255) :
    Calls Try.prog 86 #[.pointer (some ⟨N, 0, none⟩), .int .i64 at_, .int .u8 b] w (Rds w F T N L (s.put at_ b)) := by
  refine (rput_any h.n at_ b b0 b1).mono ?_
  rintro e w' ⟨rfl, h1, c⟩
  exact ⟨rfl, ⟨h.t.ch c h.ft, h1, h.ft, (len_put s at_ b).trans h.len⟩, c⟩
set_option maxHeartbeats 1600000 in
set_option maxRecDepth 100000 in
theorem rall_any (w : World) (F : Nat → Prop) (T N L : Nat) (s : St) (A o n c : Nat) (ws : List (Int × Int)) (hn : ws.length = n) (hn1 : n ≤ 1000000) (hx : Rx w F T N L s) (hA : A < w.heap.size) (hF : ¬ F A) (hb : WBy ws)
    (hs : ∀ j, j < n → w.cell? ⟨A, o + j * 2, none⟩ = some (.int .i64 (ws.getD j (0, 0)).1) ∧ w.cell? ⟨A, o + j * 2 + 1, none⟩ = some (.int .u8 (ws.getD j (0, 0)).2)) :
    Calls Try.prog 81 #[.pointer (some ⟨T, 0, none⟩), .slice (some ⟨A, o, none⟩) n c] w (Rds w F T N L (runs (ws.map fp) s)) := by
  have HS := Lib.hid hs
  have HN := Lib.hid hn
  have HF := Lib.hid hF
  have HB := Lib.hid hb
  clear hs hn hF hb
  have HR2 := Lib.hid (show runs (ws.map fp) s = runs ((ws.drop 0).map fp) s from rfl)
  generalize runs (ws.map fp) s = R at *
  go_enter Try.func81, Try.ntmps81
  go_wp2_with (fail)
  go_loopg [5] n (fun k i wr => ∃ j : Nat, j + k ≤ n ∧ n ≤ j + k ∧ i = .int .i64 j ∧ ∃ s', Hid (R = runs ((ws.drop j).map fp) s') ∧ Rx wr F T N L s' ∧ Ch F w wr)
  case atStart => exact ⟨0, by omega, by omega, rfl, s, HR2, hx, Ch.refl _ _⟩
  case round =>
    clear hx HR2
    obtain ⟨j, hj1, hj2, rfl, s', hr, ht, hc⟩ := hrel
    by_cases hlt : 0 < gk
    · have hi : (j : Int) < (n : Int) := by omega
      obtain ⟨hv1, hv2⟩ := HS.out j (by omega)
      have hb := HB.out.get j (by have := HN.out; omega)
      have z1 := (hc.cell (p := ⟨A, o + j * 2, none⟩) hA HF.out).trans hv1
      have z2 := (hc.cell (p := ⟨A, o + j * 2 + 1, none⟩) hA HF.out).trans hv2
      have z0 := ht.c0
      have hd : runs ((ws.drop j).map fp) s' = if (s'.put (ws.getD j (0, 0)).1 (ws.getD j (0, 0)).2).2 = 0 then runs ((ws.drop (j + 1)).map fp) (s'.put (ws.getD j (0, 0)).1 (ws.getD j (0, 0)).2).1 else s'.put (ws.getD j (0, 0)).1 (ws.getD j (0, 0)).2 := by
        have hl : j < ws.length := by have := HN.out; omega
        rw [List.drop_eq_getElem_cons hl, List.map_cons, runs, List.getD_eq_getElem?_getD, List.getElem?_eq_getElem hl]
        rfl
      have hcl := Lib.hid (fun wx (hx : Rx wx F T N L s') => rput_rx hx (ws.getD j (0, 0)).1 (ws.getD j (0, 0)).2 hb.1 hb.2)
      have hr' := Lib.hid (hr.out.trans hd)
      have hAr : A < wr.heap.size := Nat.lt_of_lt_of_le hA hc.size
      have hk := Lib.hid (fun (wy : World) (d : Ch F wr wy) => show wy.cell? ⟨T, 0, none⟩ = some (.pointer (some ⟨N, 0, none⟩)) ∧ wy.cell? ⟨A, o + j * 2, none⟩ = some (.int .i64 (ws.getD j (0, 0)).1) ∧ wy.cell? ⟨A, o + j * 2 + 1, none⟩ = some (.int .u8 (ws.getD j (0, 0)).2) from
        ⟨(d.cell (p := ⟨T, 0, none⟩) ht.t.lt ht.ft).trans z0, (d.cell (p := ⟨A, o + j * 2, none⟩) hAr HF.out).trans z1, (d.cell (p := ⟨A, o + j * 2 + 1, none⟩) hAr HF.out).trans z2⟩)
      clear hd hr hv1 hv2 HS HN hb HB
      generalize (ws.getD j (0, 0)).1 = p at *
      generalize (ws.getD j (0, 0)).2 = q at *
      generalize hP : s'.put p q = P at *
      clear hP
      obtain ⟨P1, P2⟩ := P
      have hcl2 := Lib.hid (fun wx (hx : Rx wx F T N L s') => show Calls Try.prog 86 #[.pointer (some ⟨N, 0, none⟩), .int .i64 p, .int .u8 q] wx fun e w' => e = .returned (.int .i64 P2) ∧ Rx w' F T N L P1 ∧ Ch F wx w' from hcl.out wx hx)
      clear hcl
      have hr0 := Lib.hid (fun h0 : P2 = 0 => hr'.out.trans (if_pos h0))
      have hr1 := Lib.hid (fun h0 : ¬ P2 = 0 => hr'.out.trans (if_neg h0))
      clear hr'
      go_wp2_with (fail)
      go_region_held3 (fun w' => w'.cell? ⟨T, 0, none⟩ = some (.pointer (some ⟨N, 0, none⟩)) ∧ w'.cell? ⟨A, o + j * 2, none⟩ = some (.int .i64 p) ∧ w'.cell? ⟨A, o + j * 2 + 1, none⟩ = some (.int .u8 q)) (first | exact ⟨z0, z1, z2⟩ | exact hk.out _ c2) (first | (go_at_call 86; refine (hcl2.out _ (by first | exact ht | exact ht.drew | exact ht.drewN _)).mono ?_; rintro e w2 ⟨rfl, t2, c2'⟩; have c2 : Ch F wr w2 := (by first | exact c2' | exact c2'.undrew | exact c2'.undrewN)))
      all_goals
        have hc3 := hc.then c2
        by_cases hz : P2 = 0
        · have hr2 := Lib.hid (hr0.out hz)
          subst hz
          clear hr0 hr1 hcl2 hk c2 c2' ht hc z0 z1 z2
          go_wp2_with (fail)
          go_roundg (gk - 1)
          case rel => exact ⟨j + 1, by omega, by omega, by go_num, _, hr2, by first | exact t2 | exact t2.drewN _, by first | exact hc3 | exact hc3.drewN _⟩
          case measure => omega
        · have hr2 := hr1.out hz
          have hz2 : (P2 != 0) = true := by rw [bne_iff_ne]; exact hz
          subst hr2
          clear hr0 hr1 hcl2 hk c2 c2' ht hc z0 z1 z2
          go_wp2_with (fail)
          go_ret
          exact ⟨rfl, by first | exact t2 | exact t2.drewN _, by first | exact hc3 | exact hc3.drewN _⟩
    · have hi : ¬ (j : Int) < (n : Int) := by omega
      have hr2 : R = (s', 0) := by
        have h1 := hr.out
        rw [List.drop_eq_nil_of_le (by have := HN.out; omega)] at h1
        exact h1
      subst hr2
      clear hr
      go_wp2_with (fail)
      go_ret
      exact ⟨rfl, ht, hc⟩
/-- A row of writes of the call's own. -/
structure WRow (w : World) (base : Nat) (v : Value) (ws : List (Int × Int)) : Prop where
  own : w.ownsRow base 132 2 v ws.length (wcells ws)
  by_ : WBy ws
theorem WRow.gr {w w' : World} {base : Nat} {v : Value} {ws : List (Int × Int)} (h : WRow w base v ws) (c : Ch (fun _ => False) w w') : WRow w' base v ws :=
  ⟨h.own.kept (row := none) ⟨c.os, c.tape, c.output, c.size, fun k hk _ => c.block k hk (fun h => h)⟩ (by cases v.ownBlock <;> simp), h.by_⟩
theorem rall_row {w : World} {base : Nat} {F : Nat → Prop} {T N L : Nat} {s : St} {v : Value} {ws : List (Int × Int)} (hx : Rx w F T N L s) (h : WRow w base v ws) (hn : 0 < ws.length) (hn1 : ws.length ≤ 1000000) (hb : ∀ k, F k → k < base) :
    Calls Try.prog 81 #[.pointer (some ⟨T, 0, none⟩), v] w (Rds w F T N L (runs (ws.map fp) s)) := by
  rcases h.own.2 with ⟨_, h0⟩ | ⟨g, cap, cur, rfl, hg, hh, _⟩
  · omega
  · refine rall_any w F T N L s g 0 ws.length cap ws rfl hn1 hx (Array.getElem?_eq_some_iff.1 hh).1 (fun hf => by have := hb g hf; omega) h.by_ (fun j hj => ?_)
    obtain ⟨h1, h2⟩ := wcells_get ws j hj
    rw [Nat.zero_add, h.own.cellAt (j * 2) (by omega), h.own.cellAt (j * 2 + 1) (by omega), Nat.mul_comm j 2]
    exact ⟨h1, h2⟩
def wword (at_ v : Int) : List (Int × Int) := [(2 * at_, v / 256), (2 * at_ + 1, v % 256)]
set_option maxHeartbeats 1600000 in
set_option maxRecDepth 100000 in
theorem rword_core (w : World) (at_ v : Int) (a0 : 0 ≤ at_) (a1 : at_ ≤ 100000) (v0 : 0 ≤ v) (v1 : v ≤ 65535) :
    Calls Try.prog 82 #[.int .i64 at_, .int .i64 v] w fun e w' => e = .returned (.slice (some ⟨w.heap.size, 0, none⟩) 2 2) ∧ w' = w.alloc (.cells #[.int .i64 (2 * at_), .int .u8 (v / 256), .int .i64 (2 * at_ + 1), .int .u8 (v % 256)] 132) := by
  go_enter Try.func82, Try.ntmps82
  go_wp2
  go_ret
  exact ⟨rfl, rfl⟩
theorem wby_wword {at_ v : Int} (v0 : 0 ≤ v) (v1 : v ≤ 65535) : WBy (wword at_ v) := fun p hp => by
  simp only [wword, List.mem_cons, List.not_mem_nil, or_false] at hp
  rcases hp with rfl | rfl
  · exact ⟨by simp only; omega, by simp only; omega⟩
  · exact ⟨by simp only; omega, by simp only; omega⟩
def went (i at_ v : Int) : List (Int × Int) := [(2 + 4 * i, at_ / 256), (2 + 4 * i + 1, at_ % 256), (2 + 4 * i + 2, v / 256), (2 + 4 * i + 3, v % 256), (0, i + 1)]
theorem wby_went {i at_ v : Int} (i0 : 0 ≤ i) (i1 : i ≤ 100) (a0 : 0 ≤ at_) (a1 : at_ ≤ 32767) (v0 : 0 ≤ v) (v1 : v ≤ 65535) : WBy (went i at_ v) := fun p hp => by
  simp only [went, List.mem_cons, List.not_mem_nil, or_false] at hp
  rcases hp with rfl | rfl | rfl | rfl | rfl
  · exact ⟨by simp only; omega, by simp only; omega⟩
  · exact ⟨by simp only; omega, by simp only; omega⟩
  · exact ⟨by simp only; omega, by simp only; omega⟩
  · exact ⟨by simp only; omega, by simp only; omega⟩
  · exact ⟨by simp only; omega, by simp only; omega⟩
theorem went_fent {i at_ v : Int} (i0 : 0 ≤ i) (i1 : i ≤ 100) (a0 : 0 ≤ at_) (a1 : at_ ≤ 32767) : (went i at_ v).map fp = fent i at_ v := by
  have e1 : at_ / 256 % 256 = at_ / 256 := by omega
  have e2 : (i + 1) % 256 = i + 1 := by omega
  simp only [went, fent, fp, List.map_cons, List.map_nil, e1, e2]
set_option maxHeartbeats 1600000 in
set_option maxRecDepth 100000 in
theorem rentry_core (w : World) (T : Nat) (i at_ v : Int) (i0 : 0 ≤ i) (i1 : i ≤ 100) (a0 : 0 ≤ at_) (a1 : at_ ≤ 32767) (v0 : 0 ≤ v) (v1 : v ≤ 65535)
    (ha : Hid (Calls Try.prog 78 #[.pointer (some ⟨T, 0, none⟩), .int .i64 (2 * at_)] w fun e w' => e = .returned (.int .i64 v) ∧ Ch (fun _ => False) w w')) :
    Calls Try.prog 83 #[.pointer (some ⟨T, 0, none⟩), .int .i64 i, .int .i64 at_] w fun e w' => ∃ m : World, Ch (fun _ => False) w m ∧ e = .returned (.slice (some ⟨m.heap.size, 0, none⟩) 5 5) ∧
      w' = m.alloc (.cells #[.int .i64 (2 + 4 * i), .int .u8 (at_ / 256), .int .i64 (2 + 4 * i + 1), .int .u8 (at_ % 256), .int .i64 (2 + 4 * i + 2), .int .u8 (v / 256), .int .i64 (2 + 4 * i + 3), .int .u8 (v % 256), .int .i64 0, .int .u8 (i + 1)] 132) := by
  go_enter Try.func83, Try.ntmps83
  go_wp2_with (fail)
  refine ha.out.mono ?_
  rintro e w1 ⟨rfl, c1⟩
  go_wp2
  go_ret
  exact ⟨w1, c1, rfl, rfl⟩
theorem rentry_any {w : World} {F : Nat → Prop} {T N L : Nat} {s : St} (h : Rx w F T N L s) (i at_ : Int) (i0 : 0 ≤ i) (i1 : i ≤ 100) (a0 : 0 ≤ at_) (a1 : 2 * at_ + 1 < L) :
    Calls Try.prog 83 #[.pointer (some ⟨T, 0, none⟩), .int .i64 i, .int .i64 at_] w fun e w' => ∃ v, e = .returned v ∧ WRow w' w.heap.size v (went i at_ (pr s.l (2 * at_).toNat)) ∧ Ch (fun _ => False) w w' := by
  have h1 := h.ok.len1
  have hl := h.len
  have hb := pr_by h.ok.by_ (2 * at_).toNat
  have h2 := rtwo_any h (2 * at_).toNat (by omega)
  rw [show (((2 * at_).toNat : Nat) : Int) = 2 * at_ from by omega] at h2
  refine (rentry_core w T i at_ _ i0 i1 a0 (by omega) hb.1 hb.2 h2).mono ?_
  rintro e w' ⟨m, c, rfl, rfl⟩
  refine ⟨_, rfl, ⟨?_, wby_went i0 i1 a0 (by omega) hb.1 hb.2⟩, c.alloc _⟩
  exact World.ownsRow_lit m _ 5 c.size (by decide) rfl
theorem rfword_any (w : World) (at_ v : Int) (a0 : 0 ≤ at_) (a1 : at_ ≤ 100000) (v0 : 0 ≤ v) (v1 : v ≤ 65535) :
    Calls Try.prog 82 #[.int .i64 at_, .int .i64 v] w fun e w' => e = .returned (.slice (some ⟨w.heap.size, 0, none⟩) 2 2) ∧ w' = w.alloc (.cells (wcells (wword at_ v)).toArray 132) := rword_core w at_ v a0 a1 v0 v1
set_option maxHeartbeats 1600000 in
set_option maxRecDepth 100000 in
theorem rkept_has (w : World) (T n : Nat) (at_ : Int) (b : Bool) (f : Nat → Int) (hn : n ≤ 100)
    (ha : Hid (Calls Try.prog 85 #[.pointer (some ⟨T, 0, none⟩)] w fun e w' => e = .returned (.int .i64 n) ∧ w = w'))
    (hb : Hid (∀ w1 (j : Nat), j < n → Ch (fun _ => False) w w1 → Calls Try.prog 78 #[.pointer (some ⟨T, 0, none⟩), .int .i64 (2 + 4 * j)] w1 fun e w' => e = .returned (.int .i64 (f j)) ∧ Ch (fun _ => False) w1 w'))
    (hy : Hid (∀ j, j < n → f j = at_ → b = true)) (hz : Hid ((∀ j, j < n → f j ≠ at_) → b = false)) (hh : b = true) :
    Calls Try.prog 80 #[.pointer (some ⟨T, 0, none⟩), .int .i64 at_] w fun e w' => e = .returned (.tuple #[.slice none 0 0, .int .i64 0]) ∧ Ch (fun _ => False) w w' := by
  go_enter Try.func80, Try.ntmps80
  go_wp2_with (fail)
  refine ha.out.mono ?_
  rintro e w1 ⟨rfl, rfl⟩
  go_wp2_with (fail)
  go_loopg [7] n (fun k i wr => ∃ j : Nat, j + k ≤ n ∧ n ≤ j + k ∧ i = .int .i64 j ∧ Ch (fun _ => False) w wr ∧ Hid (∀ i, i < j → f i ≠ at_))
  case atStart => exact ⟨0, by omega, by omega, rfl, Ch.refl _ _, Lib.hid (fun i h => by omega)⟩
  case round =>
    obtain ⟨j, hj1, hj2, rfl, c2, hnone⟩ := hrel
    by_cases hlt : 0 < gk
    · have hi : (j : Int) < (n : Int) := by omega
      have hj : j < n := by omega
      have hB := Lib.hid (hb.out _ j hj c2)
      have hy' := Lib.hid (hy.out j hj)
      have hnn := Lib.hid (fun h : f j ≠ at_ => show ∀ i, i < j + 1 → f i ≠ at_ from fun i hi => by
        by_cases e : i = j
        · subst e; exact h
        · exact hnone.out i (by omega))
      clear hnone
      by_cases hx : f j = at_
      · clear hb hy
        generalize f j = x at *
        subst hx
        go_wp2_with (fail)
        refine hB.out.mono ?_
        rintro e w1 ⟨rfl, c3⟩
        go_wp2_with (fail)
        go_ret2
        exact ⟨rfl, c2.then c3⟩
      · clear hb hy
        generalize f j = x at *
        have hx' : (x == at_) = false := beq_eq_false_iff_ne.2 hx
        go_wp2_with (fail)
        refine hB.out.mono ?_
        rintro e w1 ⟨rfl, c3⟩
        go_wp2_with (fail)
        go_roundg (gk - 1)
        case rel => exact ⟨j + 1, by omega, by omega, by go_num, c2.then c3, Lib.hid (hnn.out hx)⟩
        case measure => omega
    · have hi : ¬ (j : Int) < (n : Int) := by omega
      cases hh.symm.trans (hz.out (fun i h => hnone.out i (by omega)))
set_option maxHeartbeats 1600000 in
set_option maxRecDepth 100000 in
theorem rkept_full (w : World) (T n : Nat) (at_ : Int) (b : Bool) (f : Nat → Int) (hn : n ≤ 100)
    (ha : Hid (Calls Try.prog 85 #[.pointer (some ⟨T, 0, none⟩)] w fun e w' => e = .returned (.int .i64 n) ∧ w = w'))
    (hb : Hid (∀ w1 (j : Nat), j < n → Ch (fun _ => False) w w1 → Calls Try.prog 78 #[.pointer (some ⟨T, 0, none⟩), .int .i64 (2 + 4 * j)] w1 fun e w' => e = .returned (.int .i64 (f j)) ∧ Ch (fun _ => False) w1 w'))
    (hy : Hid (∀ j, j < n → f j = at_ → b = true)) (hz : Hid ((∀ j, j < n → f j ≠ at_) → b = false)) (hh : b = false) (hc : 100 ≤ (n : Int)) :
    Calls Try.prog 80 #[.pointer (some ⟨T, 0, none⟩), .int .i64 at_] w fun e w' => e = .returned (.tuple #[.slice none 0 0, .int .i64 12]) ∧ Ch (fun _ => False) w w' := by
  go_enter Try.func80, Try.ntmps80
  go_wp2_with (fail)
  refine ha.out.mono ?_
  rintro e w1 ⟨rfl, rfl⟩
  go_wp2_with (fail)
  go_loopg [7] n (fun k i wr => ∃ j : Nat, j + k ≤ n ∧ n ≤ j + k ∧ i = .int .i64 j ∧ Ch (fun _ => False) w wr ∧ Hid (∀ i, i < j → f i ≠ at_))
  case atStart => exact ⟨0, by omega, by omega, rfl, Ch.refl _ _, Lib.hid (fun i h => by omega)⟩
  case round =>
    obtain ⟨j, hj1, hj2, rfl, c2, hnone⟩ := hrel
    by_cases hlt : 0 < gk
    · have hi : (j : Int) < (n : Int) := by omega
      have hj : j < n := by omega
      have hB := Lib.hid (hb.out _ j hj c2)
      have hy' := Lib.hid (hy.out j hj)
      have hnn := Lib.hid (fun h : f j ≠ at_ => show ∀ i, i < j + 1 → f i ≠ at_ from fun i hi => by
        by_cases e : i = j
        · subst e; exact h
        · exact hnone.out i (by omega))
      clear hnone
      by_cases hx : f j = at_
      · clear hb hy
        generalize f j = x at *
        cases hh.symm.trans (hy'.out hx)
      · clear hb hy
        generalize f j = x at *
        have hx' : (x == at_) = false := beq_eq_false_iff_ne.2 hx
        go_wp2_with (fail)
        refine hB.out.mono ?_
        rintro e w1 ⟨rfl, c3⟩
        go_wp2_with (fail)
        go_roundg (gk - 1)
        case rel => exact ⟨j + 1, by omega, by omega, by go_num, c2.then c3, Lib.hid (hnn.out hx)⟩
        case measure => omega
    · have hi : ¬ (j : Int) < (n : Int) := by omega
      clear hnone hz hy
      go_wp2_with (fail)
      go_ret2
      exact ⟨rfl, c2⟩
set_option maxHeartbeats 1600000 in
set_option maxRecDepth 100000 in
theorem rkept_new (w : World) (T n : Nat) (at_ : Int) (b : Bool) (f : Nat → Int) (hn : n ≤ 100)
    (ha : Hid (Calls Try.prog 85 #[.pointer (some ⟨T, 0, none⟩)] w fun e w' => e = .returned (.int .i64 n) ∧ w = w'))
    (hb : Hid (∀ w1 (j : Nat), j < n → Ch (fun _ => False) w w1 → Calls Try.prog 78 #[.pointer (some ⟨T, 0, none⟩), .int .i64 (2 + 4 * j)] w1 fun e w' => e = .returned (.int .i64 (f j)) ∧ Ch (fun _ => False) w1 w'))
    (hy : Hid (∀ j, j < n → f j = at_ → b = true)) (hz : Hid ((∀ j, j < n → f j ≠ at_) → b = false)) (ws : List (Int × Int)) (he : Hid (∀ w1 : World, Ch (fun _ => False) w w1 → Calls Try.prog 83 #[.pointer (some ⟨T, 0, none⟩), .int .i64 n, .int .i64 at_] w1 fun e w' => ∃ v, e = .returned v ∧ WRow w' w.heap.size v ws ∧ Ch (fun _ => False) w1 w')) (hh : b = false) (hc : ¬ 100 ≤ (n : Int)) :
    Calls Try.prog 80 #[.pointer (some ⟨T, 0, none⟩), .int .i64 at_] w fun e w' => ∃ v, e = .returned (.tuple #[v, .int .i64 0]) ∧ WRow w' w.heap.size v ws ∧ Ch (fun _ => False) w w' := by
  go_enter Try.func80, Try.ntmps80
  go_wp2_with (fail)
  refine ha.out.mono ?_
  rintro e w1 ⟨rfl, rfl⟩
  go_wp2_with (fail)
  go_loopg [7] n (fun k i wr => ∃ j : Nat, j + k ≤ n ∧ n ≤ j + k ∧ i = .int .i64 j ∧ Ch (fun _ => False) w wr ∧ Hid (∀ i, i < j → f i ≠ at_))
  case atStart => exact ⟨0, by omega, by omega, rfl, Ch.refl _ _, Lib.hid (fun i h => by omega)⟩
  case round =>
    obtain ⟨j, hj1, hj2, rfl, c2, hnone⟩ := hrel
    by_cases hlt : 0 < gk
    · have hi : (j : Int) < (n : Int) := by omega
      have hj : j < n := by omega
      have hB := Lib.hid (hb.out _ j hj c2)
      have hy' := Lib.hid (hy.out j hj)
      have hnn := Lib.hid (fun h : f j ≠ at_ => show ∀ i, i < j + 1 → f i ≠ at_ from fun i hi => by
        by_cases e : i = j
        · subst e; exact h
        · exact hnone.out i (by omega))
      clear hnone
      by_cases hx : f j = at_
      · clear hb hy
        generalize f j = x at *
        cases hh.symm.trans (hy'.out hx)
      · clear hb hy
        generalize f j = x at *
        have hx' : (x == at_) = false := beq_eq_false_iff_ne.2 hx
        go_wp2_with (fail)
        refine hB.out.mono ?_
        rintro e w1 ⟨rfl, c3⟩
        go_wp2_with (fail)
        go_roundg (gk - 1)
        case rel => exact ⟨j + 1, by omega, by omega, by go_num, c2.then c3, Lib.hid (hnn.out hx)⟩
        case measure => omega
    · have hi : ¬ (j : Int) < (n : Int) := by omega
      clear hnone hz hy
      go_wp2_with (fail)
      refine (he.out _ c2).mono ?_
      rintro e w3 ⟨v, rfl, hrow, c3⟩
      go_wp2_with (fail)
      go_ret2
      exact ⟨v, rfl, hrow, c2.then c3⟩
end Go.Proofs.Ytjeaidmmhplglaa.Nvm
