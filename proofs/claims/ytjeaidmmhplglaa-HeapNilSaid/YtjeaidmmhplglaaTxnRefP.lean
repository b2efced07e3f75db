/- The reference's txn: Put and PutByte. -/
import Derived.Test.YtjeaidmmhplglaaTxnRefW
set_option linter.unusedVariables false
set_option linter.unusedSimpArgs false
namespace Go.Proofs.Ytjeaidmmhplglaa.Nvm
open Go.RowKit Go.Proofs.Ytjeaidmmhplglaa.Base
theorem info132 : (Try.prog.info? 132).map (fun i => (i.zero, i.size, i.bytes)) = some (some (.agg #[.int .i64 0, .int .u8 0]), 2, 16) := by kernel_rfl
def kws (s : St) (at_ : Int) : List (Int × Int) := if hs s.l at_ (cnt s.l).toNat = true then [] else if 100 ≤ cnt s.l then [] else went (cnt s.l) at_ (pr s.l (2 * at_).toNat)
def kcode (s : St) (at_ : Int) : Int := if hs s.l at_ (cnt s.l).toNat = true then 0 else if 100 ≤ cnt s.l then 12 else 0
theorem kws_len (s : St) (at_ : Int) : (kws s at_).length ≤ 5 := by
  unfold kws
  split
  · simp
  · split
    · simp
    · simp [went]
theorem runs_flat (fs gs : List (St → St × Int)) (s : St) : runs (runs fs :: gs) s = runs (fs ++ gs) s := (runs_append fs gs s).symm
theorem fkept_eq {s : St} {at_ : Int} (h : By s.l) (a0 : 0 ≤ at_) (a1 : at_ ≤ 32767) : fkept at_ s = if kcode s at_ = 0 then runs ((kws s at_).map fp) s else (s, kcode s at_) := by
  have hb := cnt_b h
  unfold fkept kcode kws
  by_cases c1 : hs s.l at_ (cnt s.l).toNat = true
  · simp only [if_pos c1]; rfl
  · by_cases c2 : 100 ≤ cnt s.l
    · simp only [if_neg c1, if_pos c2]; rfl
    · simp only [if_neg c1, if_neg c2, if_true]
      rw [went_fent hb.1 hb.2 a0 a1]; rfl
/-- What Put with one open comes to. -/
theorem tput_open_eq {s : St} {at_ v : Int} (h : By s.l) (a0 : 0 ≤ at_) (a1 : at_ ≤ 32767) : runs [fkept at_, fword at_ v] s = if kcode s at_ = 0 then runs ((kws s at_ ++ wword at_ v).map fp) s else (s, kcode s at_) := by
  have e := fkept_eq h a0 a1
  have e2 : runs [fword at_ v] = runs ((wword at_ v).map fp) := by
    funext q
    show runs (runs ((wword at_ v).map fp) :: []) q = _
    rw [runs_flat, List.append_nil]
  by_cases c : kcode s at_ = 0
  · rw [if_pos c] at e ⊢
    rw [List.map_append, runs_append]
    show (if (fkept at_ s).2 = 0 then runs [fword at_ v] (fkept at_ s).1 else fkept at_ s) = _
    rw [e, e2]
  · rw [if_neg c] at e ⊢
    show (if (fkept at_ s).2 = 0 then runs [fword at_ v] (fkept at_ s).1 else fkept at_ s) = _
    rw [e, if_neg c]
theorem tputb_open_eq {s : St} {k at_ v : Int} (h : By s.l) (a0 : 0 ≤ k) (a1 : k ≤ 32767) : runs [fkept k, fput at_ v] s = if kcode s k = 0 then runs ((kws s k ++ [(at_, v)]).map fp) s else (s, kcode s k) := by
  have e := fkept_eq h a0 a1
  by_cases c : kcode s k = 0
  · rw [if_pos c] at e ⊢
    rw [List.map_append, runs_append]
    show (if (fkept k s).2 = 0 then runs [fput at_ v] (fkept k s).1 else fkept k s) = _
    rw [e]
    rfl
  · rw [if_neg c] at e ⊢
    show (if (fkept k s).2 = 0 then runs [fput at_ v] (fkept k s).1 else fkept k s) = _
    rw [e, if_neg c]
theorem tput_shut_eq {s : St} {at_ v : Int} (a0 : 0 ≤ at_) (a1 : at_ ≤ 32767) : runs [fentry 0 at_, fword at_ v, fput 0 0] s = runs ((went 0 at_ (pr s.l (2 * at_).toNat) ++ wword at_ v ++ [(0, 0)]).map fp) s := by
  rw [List.map_append, List.map_append, went_fent (by omega) (by omega) a0 a1, List.append_assoc, runs_append]
  show (if (fentry 0 at_ s).2 = 0 then runs [fword at_ v, fput 0 0] (fentry 0 at_ s).1 else fentry 0 at_ s) = _
  have e2 : runs [fword at_ v, fput 0 0] = runs ((wword at_ v).map fp ++ [(0, 0)].map fp) := by
    funext q
    exact runs_flat ((wword at_ v).map fp) ([(0, 0)].map fp) q
  rw [e2]
  rfl
theorem own_low {w : World} {b1 b2 n : Nat} {e : TypeId} {z : Nat} {v : Value} {xs : List Value} (h : w.ownsRow b1 e z v n xs) (hb : b2 ≤ b1) : w.ownsRow b2 e z v n xs :=
  ⟨h.1, h.2.imp id (fun ⟨g, cap, cur, e1, e2, rest⟩ => ⟨g, cap, cur, e1, Nat.le_trans hb e2, rest⟩)⟩
theorem rkept_any {w : World} {F : Nat → Prop} {T N L : Nat} {s : St} (h : Rx w F T N L s) (at_ : Int) (a0 : 0 ≤ at_) (a1 : 2 * at_ + 1 < L) :
    Calls Try.prog 80 #[.pointer (some ⟨T, 0, none⟩), .int .i64 at_] w fun e w' => ∃ v, e = .returned (.tuple #[v, .int .i64 (kcode s at_)]) ∧ WRow w' w.heap.size v (kws s at_) ∧ Ch (fun _ => False) w w' := by
  have h0 := h.ok.len0
  have hl := h.len
  obtain ⟨n, e, hn⟩ := cnt_nat h.ok.by_
  have hb := cnt_b h.ok.by_
  have hc := rcount_any h
  have h2 : ∀ w1 (j : Nat), j < n → Ch (fun _ => False) w w1 → Calls Try.prog _ #[.pointer (some ⟨T, 0, none⟩), .int .i64 (2 + 4 * j)] w1 fun e w' => e = .returned (.int .i64 ((fun j => pr s.l (2 + 4 * j)) j)) ∧ Ch (fun _ => False) w1 w' := fun w1 j hj c => by
    have := rtwo_any (h.gr c) (2 + 4 * j) (by omega)
    simpa using this
  have hy : ∀ j, j < n → (fun j => pr s.l (2 + 4 * j)) j = at_ → hs s.l at_ n = true := fun j hj he => hs_ex hj he
  have hz : (∀ j, j < n → (fun j => pr s.l (2 + 4 * j)) j ≠ at_) → hs s.l at_ n = false := fun he => hs_all he
  unfold kcode kws
  rw [e] at hc hb ⊢
  simp only [Int.toNat_natCast]
  by_cases c1 : hs s.l at_ n = true
  · rw [if_pos c1, if_pos c1]
    refine (rkept_has w T n at_ _ _ hn hc h2 hy hz c1).mono ?_
    rintro e w' ⟨rfl, c⟩
    exact ⟨_, rfl, ⟨World.ownsRow_nil _ _ _ _, fun p hp => by simp at hp⟩, c⟩
  · rw [if_neg c1, if_neg c1]
    have c1' : hs s.l at_ n = false := by simpa using c1
    by_cases c2 : 100 ≤ (n : Int)
    · rw [if_pos c2, if_pos c2]
      refine (rkept_full w T n at_ _ _ hn hc h2 hy hz c1' c2).mono ?_
      rintro e w' ⟨rfl, c⟩
      exact ⟨_, rfl, ⟨World.ownsRow_nil _ _ _ _, fun p hp => by simp at hp⟩, c⟩
    · rw [if_neg c2, if_neg c2]
      exact rkept_new w T n at_ _ _ hn hc h2 hy hz _ (Lib.hid fun w1 c => (rentry_any (h.gr c) n at_ hb.1 hb.2 a0 a1).mono (by
        rintro e w' ⟨v, rfl, hr, k⟩
        exact ⟨v, rfl, ⟨own_low hr.own c.size, hr.by_⟩, k⟩)) c1' c2
set_option maxHeartbeats 1600000 in
set_option maxRecDepth 100000 in
theorem trput_ref {w : World} {F : Nat → Prop} {T N L : Nat} {s : St} (hx : Rx w F T N L s) (at_ v r : Int) (hr : (r != 0) = true) (ha : Hid (Calls Try.prog 77 #[.pointer (some ⟨T, 0, none⟩), .int .i64 at_] w fun e w' => e = .returned (.int .i64 r) ∧ w = w')) :
    Calls Try.prog 75 #[.pointer (some ⟨T, 0, none⟩), .int .i64 at_, .int .u16 v] w (Rds w F T N L (s, r)) := by
  go_enter Try.func75, Try.ntmps75
  go_wp2_with (fail)
  refine ha.out.mono ?_
  rintro e w1 ⟨rfl, rfl⟩
  go_wp2_with (fail)
  go_ret
  exact ⟨rfl, hx, Ch.refl _ _⟩
set_option maxHeartbeats 1600000 in
set_option maxRecDepth 100000 in
theorem trput_kref {w : World} {F : Nat → Prop} {T N L : Nat} {s : St} (hx : Rx w F T N L s) (at_ v r : Int) (ws : List (Int × Int)) (hr : (r != 0) = true) (ha : Hid (Calls Try.prog 77 #[.pointer (some ⟨T, 0, none⟩), .int .i64 at_] w fun e w' => e = .returned (.int .i64 0) ∧ w = w'))
    (ho : Hid (Calls Try.prog 79 #[.pointer (some ⟨T, 0, none⟩)] w fun e w' => e = .returned (.bool true) ∧ w = w'))
    (hk : Hid (Calls Try.prog 80 #[.pointer (some ⟨T, 0, none⟩), .int .i64 at_] w fun e w' => ∃ v, e = .returned (.tuple #[v, .int .i64 r]) ∧ WRow w' w.heap.size v ws ∧ Ch (fun _ => False) w w')) :
    Calls Try.prog 75 #[.pointer (some ⟨T, 0, none⟩), .int .i64 at_, .int .u16 v] w (Rds w F T N L (s, r)) := by
  go_enter Try.func75, Try.ntmps75
  go_wp2_with (fail)
  refine ha.out.mono ?_
  rintro e w1 ⟨rfl, rfl⟩
  go_wp2_with (fail)
  refine ho.out.mono ?_
  rintro e w1 ⟨rfl, rfl⟩
  go_wp2_with (fail)
  refine hk.out.mono ?_
  rintro e w1 ⟨v1, rfl, _, c1⟩
  go_wp2_with (fail)
  go_ret
  exact ⟨rfl, hx.gr c1, c1.gr⟩
theorem own_block {w : World} {base n z : Nat} {e : TypeId} {v : Value} {xs : List Value} (h : w.ownsRow base e z v n xs) : ∀ k, some k = v.ownBlock → ∃ cs fz, w.heap[k]? = some (.cells cs e fz) := by
  intro k hk
  rcases h.2 with ⟨rfl, _⟩ | ⟨g, cap, cur, rfl, _, hg, _⟩
  · simp [Value.ownBlock] at hk
  · simp [Value.ownBlock] at hk
    subst hk
    exact ⟨cur, _, hg⟩
theorem WRow.more {w' : World} {base : Nat} {v' : Value} {ws ys : List (Int × Int)} (h : WBy ws) (hy : WBy ys) (ho : w'.ownsRow base 132 2 v' (ws.length + ys.length) (wcells ws ++ wcells ys)) : WRow w' base v' (ws ++ ys) :=
  ⟨by rw [List.length_append, wcells_append]; exact ho, h.append hy⟩
theorem Rx.grown {w w' : World} {base n : Nat} {F : Nat → Prop} {T N L : Nat} {s : St} {v : Value} {xs : List Value} (h : Rx w F T N L s) (ho : w.ownsRow base 132 2 v n xs) (hg : w.grownBy w' v.ownBlock) (hb : ∀ k, F k → k < base) : Rx w' F T N L s :=
  h.ch (grown_ch hg) (fun k hk he => by
    have := ho.lt k he.symm
    have := hb k hk
    omega) (fun he => by
    obtain ⟨cs, fz, h1⟩ := own_block ho T he
    have h2 := h.t.heap.symm.trans h1
    injection h2 with h2
    injection h2 with _ h2 _
    exact absurd h2 (by decide))
theorem Ch.grown {w w1 w' : World} {base n : Nat} {v : Value} {xs : List Value} (h : Ch (fun _ => False) w w1) (ho : w1.ownsRow base 132 2 v n xs) (hg : w1.grownBy w' v.ownBlock) (hb : w.heap.size ≤ base) : Ch (fun _ => False) w w' :=
  h.trans (grown_ch hg) (fun _ h => h) (fun k hk => Or.inr (by have := ho.lt k hk.symm; omega))
theorem wcells_one (ws : List (Int × Int)) : ∀ u ∈ wcells ws, u.oneCell' = true := by
  intro u hu
  simp only [wcells, List.mem_flatMap, List.mem_cons, List.not_mem_nil, or_false] at hu
  obtain ⟨p, _, rfl | rfl⟩ := hu <;> rfl
theorem wcells_lies (w : World) (ws : List (Int × Int)) : ∀ (j : Nat) (u : Value), (wcells ws)[j]? = some u → (w.alloc (.cells (wcells ws).toArray 132)).cell? ((⟨w.heap.size, 0, none⟩ : Addr).add j) = some u := by
  intro j u h
  rw [Addr.add_mid, (Blk.new w _ _).cell, Nat.zero_add]
  simpa using h
set_option maxHeartbeats 1600000 in
set_option maxRecDepth 100000 in
theorem trput_open {w : World} {F : Nat → Prop} {T N L : Nat} {s : St} (hx : Rx w F T N L s) (at_ v : Int) (ws : List (Int × Int)) (hws : ws.length ≤ 5) (a0 : 0 ≤ at_) (a1 : at_ ≤ 32767) (v0 : 0 ≤ v) (v1 : v ≤ 65535) (ha : Hid (Calls Try.prog 77 #[.pointer (some ⟨T, 0, none⟩), .int .i64 at_] w fun e w' => e = .returned (.int .i64 0) ∧ w = w'))
    (ho : Hid (Calls Try.prog 79 #[.pointer (some ⟨T, 0, none⟩)] w fun e w' => e = .returned (.bool true) ∧ w = w'))
    (hk : Hid (Calls Try.prog 80 #[.pointer (some ⟨T, 0, none⟩), .int .i64 at_] w fun e w' => ∃ v, e = .returned (.tuple #[v, .int .i64 0]) ∧ WRow w' w.heap.size v ws ∧ Ch (fun _ => False) w w')) :
    Calls Try.prog 75 #[.pointer (some ⟨T, 0, none⟩), .int .i64 at_, .int .u16 v] w (Rds w F T N L (runs ((ws ++ wword at_ v).map fp) s)) := by
  obtain ⟨i0, hi, hz0, hz1, hz2⟩ := info_parts info132
  have hbd := Lib.hid hx.n.fb
  have hft := Lib.hid hx.t.lt
  have HW := Lib.hid (rfword_any · at_ v a0 (by omega) v0 v1)
  have hbw := wby_wword (at_ := at_) v0 v1
  have hlw : (wword at_ v).length = 2 := rfl
  generalize hwv : wword at_ v = wv at *
  have HB := Lib.hid hbw
  clear hwv hbw
  generalize hR0 : runs ((ws ++ wv).map fp) s = R at *
  have hR := Lib.hid hR0
  clear hR0
  go_enter Try.func75, Try.ntmps75
  go_wp2_with (fail)
  refine ha.out.mono ?_
  rintro e w1 ⟨rfl, rfl⟩
  go_wp2_with (fail)
  refine ho.out.mono ?_
  rintro e w1 ⟨rfl, rfl⟩
  go_wp2_with (fail)
  refine hk.out.mono ?_
  rintro e w2 ⟨vr, rfl, hrow, c2⟩
  have t2 := hx.gr c2
  have HROW := Lib.hid hrow
  clear hrow ha ho hk
  go_wp2_with (fail)
  refine (HW.out w2).mono ?_
  rintro e w3 ⟨rfl, rfl⟩
  have c3 : Ch (fun _ => False) w2 (w2.alloc (.cells (wcells wv).toArray 132)) := (Ch.refl _ _).alloc _
  have HROW3 := Lib.hid (HROW.out.gr c3)
  have hnew := Lib.hid (Blk.new w2 (wcells wv).toArray 132)
  have hcl : (wcells wv).length = 2 * 2 := by rw [wcells_len, hlw]
  go_wp2_with (first | (at_builtin; refine wpList_append_own _ rfl _ _ 126 rfl w.heap.size 132 i0 (.agg #[.int .i64 0, .int .u8 0]) 2 16 Try.underlying126 hi hz0 hz1 hz2 rfl (by decide) _ _ _ rfl HROW3.out.own ⟨w2.heap.size, 0, none⟩ 2 2 (wcells wv) rfl hcl ?c1 ?c2 ?c3 ?c4 ?c5 ?_) | fail)
  case c1 => exact wcells_lies w2 wv
  case c2 => exact wcells_one wv
  case c3 => unfold maxLen; omega
  case c4 => omega
  case c5 => have := c2.size; simp; omega
  intro v' w6 hown' hgrow _
  have hrow6 : WRow w6 w.heap.size v' (ws ++ wv) := WRow.more HROW.out.by_ HB.out (by rw [hlw]; exact hown')
  have t6 := (t2.gr c3).grown HROW3.out.own hgrow hbd.out
  have cr6 := Ch.grown (c2.then c3) HROW3.out.own hgrow (Nat.le_refl _)
  have HDO := Lib.hid (rall_row t6 hrow6 (by simp; omega) (by simp; omega) hbd.out)
  rw [hR.out] at HDO
  clear hrow6 hown' hgrow HROW3 HROW t2 c3 c2 HW HB
  go_wp2_with (fail)
  refine HDO.out.mono ?_
  rintro e w7 ⟨rfl, t7, c7⟩
  go_wp2_with (fail)
  go_ret
  exact ⟨rfl, t7, cr6.gr.then c7⟩
set_option maxHeartbeats 1600000 in
set_option maxRecDepth 100000 in
theorem trput_shut {w : World} {F : Nat → Prop} {T N L : Nat} {s : St} (hx : Rx w F T N L s) (at_ v : Int) (ws : List (Int × Int)) (hws : ws.length = 5) (a0 : 0 ≤ at_) (a1 : at_ ≤ 32767) (v0 : 0 ≤ v) (v1 : v ≤ 65535) (ha : Hid (Calls Try.prog 77 #[.pointer (some ⟨T, 0, none⟩), .int .i64 at_] w fun e w' => e = .returned (.int .i64 0) ∧ w = w'))
    (ho : Hid (Calls Try.prog 79 #[.pointer (some ⟨T, 0, none⟩)] w fun e w' => e = .returned (.bool false) ∧ w = w'))
    (hk : Hid (Calls Try.prog 83 #[.pointer (some ⟨T, 0, none⟩), .int .i64 0, .int .i64 at_] w fun e w' => ∃ v, e = .returned v ∧ WRow w' w.heap.size v ws ∧ Ch (fun _ => False) w w')) :
    Calls Try.prog 75 #[.pointer (some ⟨T, 0, none⟩), .int .i64 at_, .int .u16 v] w (Rds w F T N L (runs ((ws ++ wword at_ v ++ [(0, 0)]).map fp) s)) := by
  obtain ⟨i0, hi, hz0, hz1, hz2⟩ := info_parts info132
  have hbd := Lib.hid hx.n.fb
  have HW := Lib.hid (rfword_any · at_ v a0 (by omega) v0 v1)
  have hbw := wby_wword (at_ := at_) v0 v1
  have hlw : (wword at_ v).length = 2 := rfl
  generalize hwv : wword at_ v = wv at *
  have HB := Lib.hid hbw
  clear hwv hbw
  generalize hR0 : runs ((ws ++ wv ++ [(0, 0)]).map fp) s = R at *
  have hR := Lib.hid hR0
  clear hR0
  go_enter Try.func75, Try.ntmps75
  go_wp2_with (fail)
  refine ha.out.mono ?_
  rintro e w1 ⟨rfl, rfl⟩
  go_wp2_with (fail)
  refine ho.out.mono ?_
  rintro e w1 ⟨rfl, rfl⟩
  go_wp2_with (fail)
  refine hk.out.mono ?_
  rintro e w2 ⟨vr, rfl, hrow, c2⟩
  have t2 := hx.gr c2
  have HROW := Lib.hid hrow
  clear hrow ha ho hk
  go_wp2_with (fail)
  refine (HW.out w2).mono ?_
  rintro e w3 ⟨rfl, rfl⟩
  have c3 : Ch (fun _ => False) w2 (w2.alloc (.cells (wcells wv).toArray 132)) := (Ch.refl _ _).alloc _
  have HROW3 := Lib.hid (HROW.out.gr c3)
  have hcl : (wcells wv).length = 2 * 2 := by rw [wcells_len, hlw]
  go_wp2_with (first | (at_builtin; refine wpList_append_own _ rfl _ _ 126 rfl w.heap.size 132 i0 (.agg #[.int .i64 0, .int .u8 0]) 2 16 Try.underlying126 hi hz0 hz1 hz2 rfl (by decide) _ _ _ rfl HROW3.out.own ⟨w2.heap.size, 0, none⟩ 2 2 (wcells wv) rfl hcl ?c1 ?c2 ?c3 ?c4 ?c5 ?_) | fail)
  case c1 => exact wcells_lies w2 wv
  case c2 => exact wcells_one wv
  case c3 => unfold maxLen; omega
  case c4 => omega
  case c5 => have := c2.size; simp; omega
  intro v' w6 hown' hgrow _
  have hrow6 := Lib.hid (show WRow w6 w.heap.size v' (ws ++ wv) from WRow.more HROW.out.by_ HB.out (by rw [hlw, hws]; exact hown'))
  have hlen6 : (ws ++ wv).length = 7 := by simp; omega
  have t6 := (t2.gr c3).grown HROW3.out.own hgrow hbd.out
  have cr6 := Ch.grown (c2.then c3) HROW3.out.own hgrow (Nat.le_refl _)
  clear hown' hgrow HROW3 HROW t2 c3 c2 HW HB
  have c7 : Ch (fun _ => False) w6 (w6.alloc (.cells #[.int .i64 0, .int .u8 0] 132)) := (Ch.refl _ _).alloc _
  have HROW7 := Lib.hid (hrow6.out.gr c7)
  generalize hys : ws ++ wv = ys at *
  go_wp2_with (first | (at_builtin; refine wpList_append_own _ rfl _ _ 126 rfl w.heap.size 132 i0 (.agg #[.int .i64 0, .int .u8 0]) 2 16 Try.underlying126 hi hz0 hz1 hz2 rfl (by decide) _ _ _ rfl HROW7.out.own ⟨w6.heap.size, 0, none⟩ 1 1 (wcells [(0, 0)]) rfl rfl ?c1 ?c2 ?c3 ?c4 ?c5 ?_) | fail)
  case c1 => exact wcells_lies w6 [(0, 0)]
  case c2 => exact wcells_one _
  case c3 => unfold maxLen; omega
  case c4 => omega
  case c5 => have := cr6.size; simp; omega
  intro v8 w8 hown8 hgrow8 _
  have hrow8 : WRow w8 w.heap.size v8 (ys ++ [(0, 0)]) := WRow.more hrow6.out.by_ (fun p hp => by simp at hp; subst hp; exact ⟨by simp, by simp⟩) (by rw [hlen6]; exact hown8)
  have t8 := (t6.gr c7).grown HROW7.out.own hgrow8 hbd.out
  have cr8 := Ch.grown (cr6.then c7) HROW7.out.own hgrow8 (Nat.le_refl _)
  have HDO := Lib.hid (rall_row t8 hrow8 (by simp) (by simp; omega) hbd.out)
  rw [hR.out] at HDO
  clear hrow8 hown8 hgrow8 HROW7 hrow6 t6 c7
  go_wp2_with (fail)
  refine HDO.out.mono ?_
  rintro e w9 ⟨rfl, t9, c9⟩
  go_wp2_with (fail)
  go_ret
  exact ⟨rfl, t9, cr8.gr.then c9⟩
end Go.Proofs.Ytjeaidmmhplglaa.Nvm
