/- The reference's txn: Recover and Abort. -/
import Derived.Test.YtfnlpmakhlpgcaaTxnRefQ
namespace Go.Proofs.Ytfnlpmakhlpgcaa.Nvm
open Go.RowKit Go.Proofs.Ytfnlpmakhlpgcaa.Base
/-- The writes by which k entries are undone. -/
def wlist (l : List Int) : Nat → List (Int × Int)
  | 0 => []
  | k + 1 => (if 256 ≤ pr l (2 + 4 * k) ∧ pr l (2 + 4 * k) < (l.length : Int) / 2 then wword (pr l (2 + 4 * k)) (pr l (4 + 4 * k)) else []) ++ wlist l k
theorem wlist_len (l : List Int) (k : Nat) : (wlist l k).length ≤ 2 * k := by
  induction k with
  | zero => simp [wlist]
  | succ k ih =>
    rw [wlist, List.length_append]
    split
    · simp [wword]; omega
    · simp; omega
theorem wlist_runs (l : List Int) (k : Nat) (gs : List (St → St × Int)) (s : St) : runs ((wlist l k).map fp ++ gs) s = runs (ulist l k ++ gs) s := by
  induction k generalizing s with
  | zero => rfl
  | succ k ih =>
    rw [wlist, ulist]
    split
    · rename_i h
      rw [List.map_append, List.append_assoc, List.append_assoc, runs_append]
      show _ = (if (fword (pr l (2 + 4 * k)) (pr l (4 + 4 * k)) s).2 = 0 then runs (ulist l k ++ gs) (fword (pr l (2 + 4 * k)) (pr l (4 + 4 * k)) s).1 else fword (pr l (2 + 4 * k)) (pr l (4 + 4 * k)) s)
      rw [show fword (pr l (2 + 4 * k)) (pr l (4 + 4 * k)) s = runs ((wword (pr l (2 + 4 * k)) (pr l (4 + 4 * k))).map fp) s from rfl, ih]
    · exact ih s
theorem fundo_eq (s : St) : fundo s = runs ((wlist s.l (cnt s.l).toNat ++ [(0, 0), (1, 0)]).map fp) s := by
  rw [List.map_append, wlist_runs]
  rfl
set_option maxHeartbeats 1600000 in
set_option maxRecDepth 100000 in
theorem rrecover_dark (w : World) (T N : Nat) (c0 : w.cell? ⟨T, 0, none⟩ = some (.pointer (some ⟨N, 0, none⟩))) (c2 : w.cell? ⟨N, 2, none⟩ = some (.bool true)) :
    Calls Try.prog 51 #[.pointer (some ⟨T, 0, none⟩)] w fun e w' => e = .returned (.int .i64 13) ∧ w = w' := by
  go_enter Try.func51, Try.ntmps51
  go_wp2
  go_ret
  exact ⟨rfl, rfl⟩
set_option maxHeartbeats 1600000 in
set_option maxRecDepth 100000 in
theorem rrecover_core (w : World) (F : Nat → Prop) (T N L n : Nat) (s : St) (f : Nat → Int) (g : Nat → Int) (us : Nat → List (Int × Int)) (hx : Rx w F T N L s) (hn : n ≤ 100) (hL : L ≤ 65536) (c2 : w.cell? ⟨N, 2, none⟩ = some (.bool false))
    (hf : ∀ j, j < n → 0 ≤ f j ∧ f j ≤ 65535) (hg : ∀ j, j < n → 0 ≤ g j ∧ g j ≤ 65535)
    (hu0 : us 0 = []) (hu : ∀ k, k < n → us (k + 1) = (if 256 ≤ f k ∧ f k < (L : Int) / 2 then wword (f k) (g k) else []) ++ us k)
    (ha : Hid (Calls Try.prog 73 #[.pointer (some ⟨T, 0, none⟩)] w fun e w' => e = .returned (.int .i64 n) ∧ w = w'))
    (hs : Hid (∀ w1 : World, Rx w1 F T N L s → Calls Try.prog 75 #[.pointer (some ⟨T, 0, none⟩)] w1 fun e w' => e = .returned (.int .i64 ((L : Int) / 2)) ∧ w1 = w'))
    (hp : Hid (∀ (w1 : World) (j : Nat), j < n → Rx w1 F T N L s → Calls Try.prog 74 #[.pointer (some ⟨T, 0, none⟩), .int .i64 (2 + 4 * j)] w1 fun e w' => e = .returned (.int .i64 (f j)) ∧ Ch (fun _ => False) w1 w'))
    (hq : Hid (∀ (w1 : World) (j : Nat), j < n → Rx w1 F T N L s → Calls Try.prog 74 #[.pointer (some ⟨T, 0, none⟩), .int .i64 (4 + 4 * j)] w1 fun e w' => e = .returned (.int .i64 (g j)) ∧ Ch (fun _ => False) w1 w')) :
    Calls Try.prog 51 #[.pointer (some ⟨T, 0, none⟩)] w (Rds w F T N L (runs ((us n ++ [(0, 0), (1, 0)]).map fp) s)) := by
  obtain ⟨i0, hi, hz0, hz1, hz2⟩ := info_parts info89
  have HF := Lib.hid hf
  have HG := Lib.hid hg
  have HU := Lib.hid hu
  have HU0 := Lib.hid hu0
  have hb := Lib.hid hx.n.fb
  have z0 := hx.c0
  clear hf hg hu hu0
  generalize hR0 : runs ((us n ++ [(0, 0), (1, 0)]).map fp) s = R at *
  have hR := Lib.hid hR0
  clear hR0
  go_enter Try.func51, Try.ntmps51
  go_wp2_with (fail)
  refine ha.out.mono ?_
  rintro e w1 ⟨rfl, rfl⟩
  go_wp2_with (fail)
  go_loopg [3, 4] n (fun k v i wr => k ≤ n ∧ i = .int .i64 ((k : Int) - 1) ∧ Rx wr F T N L s ∧ Ch (fun _ => False) w wr ∧ ∃ fs, WRow wr w.heap.size v fs ∧ Hid (fs ++ us k = us n) ∧ fs.length + 2 * k ≤ 2 * n)
  case atStart => exact ⟨Nat.le_refl _, rfl, hx, Ch.refl _ _, [], ⟨World.ownsRow_nil _ _ _ _, fun p hp => by simp at hp⟩, Lib.hid rfl, by simp⟩
  case round =>
    clear ha z0 c2
    obtain ⟨hk, rfl, tr, cr1, fs, hrow, heq, hlen⟩ := hrel
    have HR := Lib.hid hrow
    clear hrow
    by_cases hlt : 0 < gk
    · obtain ⟨j, rfl⟩ : ∃ j, gk = j + 1 := ⟨gk - 1, by omega⟩
      have hj : j < n := by omega
      have hfj := HF.out j hj
      have hgj := HG.out j hj
      have huj := Lib.hid (HU.out j hj)
      have hP := Lib.hid (hp.out wr j hj tr)
      have hQ := Lib.hid (fun w1 => hq.out w1 j hj)
      generalize f j = x at *
      generalize g j = y at *
      have hcast : ((j + 1 : Nat) : Int) - 1 = j := by omega
      rw [hcast]
      clear hcast HF HG HU
      go_wp2_with (fail)
      refine hP.out.mono ?_
      rintro e w2 ⟨rfl, c2⟩
      have t2 := tr.gr c2
      have cr2 := cr1.then c2
      have HR2 := Lib.hid (HR.out.gr c2)
      clear hP HR
      have hsz := hs.out w2 t2
      by_cases h256 : 256 ≤ x
      · by_cases hmax : x < (L : Int) / 2
        · have hus : us (j + 1) = wword x y ++ us j := by rw [huj.out, if_pos (by omega)]
          rw [hus, ← List.append_assoc] at heq
          clear hus huj
          go_wp2_with (fail)
          refine hsz.mono ?_
          rintro e w3 ⟨rfl, rfl⟩
          go_wp2_with (fail)
          refine (hQ.out w2 t2).mono ?_
          rintro e w3 ⟨rfl, c3⟩
          have t3 := t2.gr c3
          have cr3 := cr2.then c3
          have HR3 := Lib.hid (HR2.out.gr c3)
          have hw := rword_any w3 x y (by omega) (by omega) hgj.1 hgj.2
          have hbw := Lib.hid (wby_wword (at_ := x) hgj.1 hgj.2)
          have hlw : (wword x y).length = 2 := rfl
          generalize wword x y = wv at *
          clear HR2 hQ
          go_wp2_with (fail)
          refine hw.mono ?_
          rintro e w4 ⟨rfl, rfl⟩
          have c4 : Ch (fun _ => False) w3 (w3.alloc (.cells (wcells wv).toArray 89)) := (Ch.refl _ _).alloc _
          have HR4 := Lib.hid (HR3.out.gr c4)
          have hcl : (wcells wv).length = 2 * 2 := by rw [wcells_len, hlw]
          clear hw
          go_wp2_with (first | (at_builtin; refine wpList_append_own _ rfl _ _ 85 rfl w.heap.size 89 i0 (.agg #[.int .i64 0, .int .u8 0]) 2 16 Try.underlying85 hi hz0 hz1 hz2 rfl (by decide) _ _ _ rfl HR4.out.own ⟨w3.heap.size, 0, none⟩ 2 2 (wcells wv) rfl hcl ?c1 ?c2 ?c3 ?c4 ?c5 ?_) | fail)
          case c1 => exact wcells_lies w3 wv
          case c2 => exact wcells_one wv
          case c3 => unfold maxLen; omega
          case c4 => omega
          case c5 => have := cr3.size; simp; omega
          intro v' w6 hown' hgrow _
          have hrow6 := Lib.hid (show WRow w6 w.heap.size v' (fs ++ wv) from WRow.more HR3.out.by_ hbw.out (by rw [hlw]; exact hown'))
          have t6 := (t3.gr c4).grown HR4.out.own hgrow hb.out
          have cr6 := Ch.grown (cr3.then c4) HR4.out.own hgrow (Nat.le_refl _)
          clear hown' hgrow HR4 HR3 c4 t3 t2
          go_wp2_with (fail)
          go_roundg j
          case rel => exact ⟨by omega, by go_num, t6, cr6, _, hrow6.out, heq, by simp; omega⟩
          case measure => omega
        · have hus : us (j + 1) = us j := by rw [huj.out, if_neg (by omega)]; rfl
          rw [hus] at heq
          clear hus huj
          go_wp2_with (fail)
          refine hsz.mono ?_
          rintro e w3 ⟨rfl, rfl⟩
          go_wp2_with (fail)
          go_roundg j
          case rel => exact ⟨by omega, by go_num, t2, cr2, fs, HR2.out, heq, by omega⟩
          case measure => omega
      · have hus : us (j + 1) = us j := by rw [huj.out, if_neg (by omega)]; rfl
        rw [hus] at heq
        clear hus huj
        go_wp2_with (fail)
        go_roundg j
        case rel => exact ⟨by omega, by go_num, t2, cr2, fs, HR2.out, heq, by omega⟩
        case measure => omega
    · obtain rfl : gk = 0 := by omega
      have heq' : fs = us n := by rw [← heq.out, HU0.out, List.append_nil]
      clear heq HF HG HU HU0 hp hq
      have hR' := hR.out
      rw [← heq'] at hR'
      have hR2 := Lib.hid hR'
      clear heq' hR' hR
      have c7 : Ch (fun _ => False) wr (wr.alloc (.cells #[.int .i64 0, .int .u8 0, .int .i64 1, .int .u8 0] 89)) := (Ch.refl _ _).alloc _
      have HR7 := Lib.hid (HR.out.gr c7)
      go_wp2_with (first | (at_builtin; refine wpList_append_own _ rfl _ _ 85 rfl w.heap.size 89 i0 (.agg #[.int .i64 0, .int .u8 0]) 2 16 Try.underlying85 hi hz0 hz1 hz2 rfl (by decide) _ _ _ rfl HR7.out.own ⟨wr.heap.size, 0, none⟩ 2 2 (wcells [(0, 0), (1, 0)]) rfl rfl ?c1 ?c2 ?c3 ?c4 ?c5 ?_) | fail)
      case c1 => exact wcells_lies wr [(0, 0), (1, 0)]
      case c2 => exact wcells_one _
      case c3 => unfold maxLen; omega
      case c4 => omega
      case c5 => have := cr1.size; simp; omega
      intro v8 w8 hown8 hgrow8 _
      have hrow8 : WRow w8 w.heap.size v8 (fs ++ [(0, 0), (1, 0)]) := WRow.more HR.out.by_ (fun p hp => by simp at hp; rcases hp with rfl | rfl <;> exact ⟨by simp, by simp⟩) hown8
      have t8 := (tr.gr c7).grown HR7.out.own hgrow8 hb.out
      have cr8 := Ch.grown (cr1.then c7) HR7.out.own hgrow8 (Nat.le_refl _)
      have HDO := Lib.hid (rall_row t8 hrow8 (by simp) (by simp; omega) hb.out)
      rw [hR2.out] at HDO
      clear hrow8 hown8 hgrow8 HR7 HR c7
      go_wp2_with (fail)
      refine HDO.out.mono ?_
      rintro e w9 ⟨rfl, t9, c9⟩
      go_wp2_with (fail)
      go_ret
      exact ⟨rfl, t9, cr8.gr.then c9⟩
theorem rrecover_tx {w : World} {F : Nat → Prop} {T N L : Nat} {s : St} (hx : Rx w F T N L s) : Calls Try.prog 51 #[.pointer (some ⟨T, 0, none⟩)] w (Rds w F T N L (trecover s)) := by
  obtain ⟨D, _, c2, _⟩ := hx.cells
  have h0 := hx.ok.len0
  have h1 := hx.ok.len1
  have hl := hx.len
  unfold trecover St.pow
  by_cases d : s.dark = true
  · rw [if_pos d, if_pos (by decide)]
    rw [d] at c2
    refine (rrecover_dark w T N hx.c0 c2).mono ?_
    rintro e w' ⟨rfl, rfl⟩
    exact ⟨rfl, hx, Ch.refl _ _⟩
  · rw [if_neg d, if_neg (by decide), fundo_eq]
    have d' : s.dark = false := by simpa using d
    rw [d'] at c2
    obtain ⟨n, e, hn⟩ := cnt_nat hx.ok.by_
    have hc := rcount_any hx
    rw [e] at hc ⊢
    refine rrecover_core w F T N L n s (fun j => pr s.l (2 + 4 * j)) (fun j => pr s.l (4 + 4 * j)) (wlist s.l) hx hn (by omega) c2 (fun j _ => pr_by hx.ok.by_ _) (fun j _ => pr_by hx.ok.by_ _) rfl (fun k _ => by rw [← hl]; rfl) hc (Lib.hid fun w1 t => rwords_any t) (Lib.hid fun w1 j hj t => ?_) (Lib.hid fun w1 j hj t => ?_)
    · have := rtwo_any t (2 + 4 * j) (by omega)
      simpa using this
    · have := rtwo_any t (4 + 4 * j) (by omega)
      simpa using this
set_option maxHeartbeats 1600000 in
set_option maxRecDepth 100000 in
theorem rabort_no (w : World) (T : Nat) (r : Int) (hr : (r != 0) = true) (ha : Hid (Calls Try.prog 83 #[.pointer (some ⟨T, 0, none⟩), .bool true] w fun e w' => e = .returned (.int .i64 r) ∧ w = w')) :
    Calls Try.prog 69 #[.pointer (some ⟨T, 0, none⟩)] w fun e w' => e = .returned (.int .i64 r) ∧ w = w' := by
  go_enter Try.func69, Try.ntmps69
  go_wp2_with (go_at_call 83; refine ha.out.mono ?_; rintro e w' ⟨rfl, rfl⟩)
  go_ret
  exact ⟨rfl, rfl⟩
set_option maxHeartbeats 1600000 in
set_option maxRecDepth 100000 in
theorem rabort_yes (w : World) (T : Nat) (r : Int) (S : World → Prop) (ha : Hid (Calls Try.prog 83 #[.pointer (some ⟨T, 0, none⟩), .bool true] w fun e w' => e = .returned (.int .i64 0) ∧ w = w'))
    (hp : Hid (Calls Try.prog 51 #[.pointer (some ⟨T, 0, none⟩)] w fun e w' => e = .returned (.int .i64 r) ∧ S w')) :
    Calls Try.prog 69 #[.pointer (some ⟨T, 0, none⟩)] w fun e w' => e = .returned (.int .i64 r) ∧ S w' := by
  go_enter Try.func69, Try.ntmps69
  go_wp2_with (first | (go_at_call 83; refine ha.out.mono ?_; rintro e w' ⟨rfl, rfl⟩) | (go_at_call 51; refine hp.out.mono ?_; rintro e w' ⟨rfl, hS⟩))
  go_ret
  exact ⟨rfl, hS⟩
theorem trabort_tx {w : World} {F : Nat → Prop} {T N L : Nat} {s : St} (hx : Rx w F T N L s) :
    Calls Try.prog 69 #[.pointer (some ⟨T, 0, none⟩)] w (Rds w F T N L (tabort s)) := by
  have ha := rasked_any hx true
  unfold tabort
  by_cases c : tstate s true = 0
  · rw [if_neg (by simp [c])]
    rw [c] at ha
    have hp : s.pow = 0 := by
      unfold tstate at c
      split at c
      · exact c
      · simp at c
    have hr := rrecover_tx hx
    unfold trecover at hr
    rw [if_neg (by simp [hp])] at hr
    exact rabort_yes w T _ (fun w' => Rx w' F T N L (fundo s).1 ∧ Ch F w w') ha hr
  · rw [if_pos c]
    refine (rabort_no w T _ (by rw [bne_iff_ne]; exact c) ha).mono ?_
    rintro e w' ⟨rfl, rfl⟩
    exact ⟨rfl, hx, Ch.refl _ _⟩
end Go.Proofs.Ytfnlpmakhlpgcaa.Nvm
