/- What is undone: the entries, from the last one. -/
import Derived.Test.YtfnlpmakhlpgcaaTxnPut
namespace Go.Proofs.Ytfnlpmakhlpgcaa.Nvm
open Go.RowKit Go.Proofs.Ytfnlpmakhlpgcaa.Base
/-- The steps by which k entries are undone. -/
def ulist (l : List Int) : Nat → List (St → St × Int)
  | 0 => []
  | k + 1 => (if 256 ≤ pr l (2 + 4 * k) ∧ pr l (2 + 4 * k) < (l.length : Int) / 2 then [fword (pr l (2 + 4 * k)) (pr l (4 + 4 * k))] else []) ++ ulist l k
def fundo (s : St) : St × Int := runs (ulist s.l (cnt s.l).toNat ++ [fput 0 0, fput 1 0]) s
/-- A row of steps of the call's own. -/
structure Row (w : World) (base : Nat) (F : Nat → Prop) (T N L : Nat) (v : Value) (fs : List (St → St × Int)) (xs : List Value) : Prop where
  own : w.ownsRow base 63 1 v fs.length xs
  st : ∀ j, j < fs.length → ∃ u, xs[j]? = some u ∧ Stp w F T N L (fs.getD j (fun s => (s, 0))) u
theorem grown_ch {w w' : World} {row : Option Nat} (h : w.grownBy w' row) : Ch (fun k => some k = row) w w' := ⟨h.os, h.tape, h.output, h.size, fun k hk hn => h.block k hk hn⟩
theorem own_steps {w : World} {base n : Nat} {v : Value} {xs : List Value} (h : w.ownsRow base 63 1 v n xs) : ∀ k, some k = v.ownBlock → ∃ cs fz, w.heap[k]? = some (.cells cs 63 fz) := by
  intro k hk
  rcases h.2 with ⟨rfl, _⟩ | ⟨g, cap, cur, rfl, _, hg, _⟩
  · simp [Value.ownBlock] at hk
  · simp [Value.ownBlock] at hk
    subst hk
    exact ⟨cur, _, hg⟩
theorem Row.gr {w w' : World} {base : Nat} {F : Nat → Prop} {T N L : Nat} {v : Value} {fs : List (St → St × Int)} {xs : List Value} (h : Row w base F T N L v fs xs) (c : Ch (fun _ => False) w w') : Row w' base F T N L v fs xs :=
  ⟨h.own.kept (row := none) ⟨c.os, c.tape, c.output, c.size, fun k hk _ => c.block k hk (fun h => h)⟩ (by cases v.ownBlock <;> simp), fun j hj => by
    obtain ⟨u, hu, hs⟩ := h.st j hj
    exact ⟨u, hu, hs.ch c.gr⟩⟩
/-- Steps are laid behind a row. -/
theorem Row.more {w w' : World} {base : Nat} {F : Nat → Prop} {T N L : Nat} {v v' : Value} {fs gs : List (St → St × Int)} {xs ys : List Value} (h : Row w base F T N L v fs xs) (hl : ys.length = gs.length)
    (hg : ∀ j, j < gs.length → ∃ u, ys[j]? = some u ∧ Stp w F T N L (gs.getD j (fun s => (s, 0))) u) (ho : w'.ownsRow base 63 1 v' (fs.length + gs.length) (xs ++ ys)) (hgr : w.grownBy w' v.ownBlock) : Row w' base F T N L v' (fs ++ gs) (xs ++ ys) := by
  have hxl : xs.length = fs.length := by simpa using h.own.1
  have mv : ∀ {f u}, Stp w F T N L f u → Stp w' F T N L f u := fun hs => hs.to (grown_ch hgr) (fun k hk => Or.inr (own_steps h.own k hk))
  refine ⟨by rw [List.length_append]; exact ho, fun j hj => ?_⟩
  rw [List.length_append] at hj
  by_cases hc : j < fs.length
  · obtain ⟨u, hu, hs⟩ := h.st j hc
    refine ⟨u, by rw [List.getElem?_append_left (by omega)]; exact hu, ?_⟩
    rw [List.getD_eq_getElem?_getD, List.getElem?_append_left hc, ← List.getD_eq_getElem?_getD]
    exact mv hs
  · obtain ⟨u, hu, hs⟩ := hg (j - fs.length) (by omega)
    refine ⟨u, by rw [List.getElem?_append_right (by omega), hxl]; exact hu, ?_⟩
    rw [List.getD_eq_getElem?_getD, List.getElem?_append_right (by omega), ← List.getD_eq_getElem?_getD]
    exact mv hs
theorem info63 : (Try.prog.info? 63).map (fun i => (i.zero, i.size, i.bytes)) = some (some .nilFunc, 1, 8) := by kernel_rfl
/-- A row is done. -/
theorem do_row {w : World} {base : Nat} {F : Nat → Prop} {T N L : Nat} {s : St} {v : Value} {fs : List (St → St × Int)} {xs : List Value} (hx : Tx w F T N L s) (h : Row w base F T N L v fs xs) (hn : 0 < fs.length) (hn1 : fs.length ≤ 1000000) (hb : ∀ k, F k → k < base) :
    Calls Try.prog 33 #[v] w (Does w F T N L (runs fs s)) := by
  rcases h.own.2 with ⟨_, h0⟩ | ⟨g, cap, cur, rfl, hg, hh, _⟩
  · omega
  · refine do_any w F T N L s g 0 fs.length cap fs rfl hn1 hx (Array.getElem?_eq_some_iff.1 hh).1 (fun hf => by have := hb g hf; omega) (fun j hj => ?_)
    obtain ⟨u, hu, hs⟩ := h.st j hj
    exact ⟨u, by rw [Nat.zero_add, h.own.cellAt j (by omega)]; exact hu, hs⟩
set_option maxHeartbeats 1600000 in
set_option maxRecDepth 100000 in
theorem undo_core (w : World) (F : Nat → Prop) (T N L n : Nat) (s : St) (f : Nat → Int) (g : Nat → Int) (us : Nat → List (St → St × Int)) (hx : Tx w F T N L s) (hn : n ≤ 100) (hL : L ≤ 65536)
    (hf : ∀ j, j < n → 0 ≤ f j ∧ f j ≤ 65535) (hg : ∀ j, j < n → 0 ≤ g j ∧ g j ≤ 65535)
    (hu0 : us 0 = []) (hu : ∀ k, k < n → us (k + 1) = (if 256 ≤ f k ∧ f k < (L : Int) / 2 then [fword (f k) (g k)] else []) ++ us k)
    (ha : Hid (Calls Try.prog 45 #[.pointer (some ⟨T, 0, none⟩)] w fun e w' => e = .returned (.int .i64 n) ∧ Ch (fun _ => False) w w'))
    (hs : Hid (∀ w1 : World, Tx w1 F T N L s → Calls Try.prog 28 #[.pointer (some ⟨N, 0, none⟩)] w1 fun e w' => e = .returned (.int .i64 L) ∧ w1 = w'))
    (hp : Hid (∀ (w1 : World) (j : Nat), j < n → Tx w1 F T N L s → Calls Try.prog 54 #[.pointer (some ⟨T, 0, none⟩), .int .i64 (2 + 4 * j)] w1 fun e w' => e = .returned (.int .u16 (f j)) ∧ Ch (fun _ => False) w1 w'))
    (hq : Hid (∀ (w1 : World) (j : Nat), j < n → Tx w1 F T N L s → Calls Try.prog 54 #[.pointer (some ⟨T, 0, none⟩), .int .i64 (2 + 4 * j + 2)] w1 fun e w' => e = .returned (.int .u16 (g j)) ∧ Ch (fun _ => False) w1 w')) :
    Calls Try.prog 41 #[.pointer (some ⟨T, 0, none⟩)] w (Does w F T N L (runs (us n ++ [fput 0 0, fput 1 0]) s)) := by
  obtain ⟨i0, hi, hz0, hz1, hz2⟩ := info_parts info63
  have HF := Lib.hid hf
  have HG := Lib.hid hg
  have HU := Lib.hid hu
  have HU0 := Lib.hid hu0
  have hb := Lib.hid hx.n.fb
  clear hf hg hu hu0
  generalize hR0 : runs (us n ++ [fput 0 0, fput 1 0]) s = R at *
  have hR := Lib.hid hR0
  clear hR0
  go_enter Try.func41, Try.ntmps41
  go_wp2_with (fail)
  refine ha.out.mono ?_
  rintro e w1 ⟨rfl, c1⟩
  have t1 := hx.gr c1
  go_wp2_with (fail)
  go_loopg [3, 4] n (fun k v i wr => k ≤ n ∧ i = .int .i64 ((k : Int) - 1) ∧ Tx wr F T N L s ∧ Ch (fun _ => False) w wr ∧ ∃ fs xs, Row wr w.heap.size F T N L v fs xs ∧ Hid (fs ++ us k = us n) ∧ fs.length + k ≤ n)
  case atStart => exact ⟨Nat.le_refl _, rfl, t1, c1, [], [], ⟨World.ownsRow_nil _ _ _ _, fun j hj => by simp at hj⟩, Lib.hid rfl, by simp⟩
  case round =>
    clear t1 c1 ha
    obtain ⟨hk, rfl, tr, cr1, fs, xs, hrow, heq, hlen⟩ := hrel
    have HR := Lib.hid hrow
    clear hrow
    by_cases hlt : 0 < gk
    · obtain ⟨j, rfl⟩ : ∃ j, gk = j + 1 := ⟨gk - 1, by omega⟩
      have hj : j < n := by omega
      have hfj := HF.out j hj
      have hgj := HG.out j hj
      have huj := Lib.hid (HU.out j hj)
      have hP := Lib.hid (hp.out wr j hj tr)
      have hQ := Lib.hid (fun w1 => hq.out w1 j hj)
      generalize f j = x at *
      generalize g j = y at *
      have hcast : ((j + 1 : Nat) : Int) - 1 = j := by omega
      rw [hcast]
      clear hcast HF HG HU
      go_wp2_with (fail)
      refine hP.out.mono ?_
      rintro e w2 ⟨rfl, c2⟩
      have t2 := tr.gr c2
      have cr2 := cr1.then c2
      have HR2 := Lib.hid (HR.out.gr c2)
      clear hP HR
      have hsz := hs.out w2 t2
      have z2 := t2.c0
      by_cases h256 : x < 256
      · have hus : us (j + 1) = us j := by rw [huj.out, if_neg (by omega)]; rfl
        rw [hus] at heq
        clear hus huj
        go_wp2_with (fail)
        go_roundg j
        case rel => exact ⟨by omega, by go_num, t2, cr2, fs, xs, HR2.out, heq, by omega⟩
        case measure => omega
      · by_cases hmax : (L : Int) / 2 ≤ x
        · have hus : us (j + 1) = us j := by rw [huj.out, if_neg (by omega)]; rfl
          rw [hus] at heq
          clear hus huj
          go_wp2_with (fail)
          refine hsz.mono ?_
          rintro e w3 ⟨rfl, rfl⟩
          go_wp2_with (fail)
          go_roundg j
          case rel => exact ⟨by omega, by go_num, t2, cr2, fs, xs, HR2.out, heq, by omega⟩
          case measure => omega
        · have hus : us (j + 1) = [fword x y] ++ us j := by rw [huj.out, if_pos (by omega)]
          rw [hus, ← List.append_assoc] at heq
          clear hus huj
          go_wp2_with (fail)
          refine hsz.mono ?_
          rintro e w3 ⟨rfl, rfl⟩
          go_wp2_with (fail)
          refine (hQ.out w2 t2).mono ?_
          rintro e w3 ⟨rfl, c3⟩
          have t3 := t2.gr c3
          have cr3 := cr2.then c3
          have HR3 := Lib.hid (HR2.out.gr c3)
          have hw := words_any t3 x y (by omega) (by omega) hgj.1 hgj.2
          clear HR2 hQ
          go_wp2_with (fail)
          refine hw.mono ?_
          rintro e w4 ⟨G, C, rfl, hst, c4⟩
          have t4 := t3.gr c4
          have cr4 := cr3.then c4
          have HR4 := Lib.hid (HR3.out.gr c4)
          have HST := Lib.hid hst
          clear HR3 hw hst
          have hc5 : Ch (fun _ => False) w4 (w4.alloc (.cells #[.func (.func G) #[] C] 63)) := (Ch.refl _ _).alloc _
          go_wp2_with (first | (at_builtin; refine wpList_append_own _ rfl _ _ 79 rfl w.heap.size 63 i0 .nilFunc 1 8 Try.underlying79 hi hz0 hz1 hz2 rfl (by decide) _ _ _ rfl (HR4.out.gr hc5).own ⟨w4.heap.size, 0, none⟩ 1 1 [.func (.func G) #[] C] rfl rfl ?c1 ?c2 ?c3 ?c4 ?c5 ?_) | fail)
          case c1 => intro q u hq; match q, hq with | 0, hq => simp at hq; subst hq; simp [Addr.add]
          case c2 => intro u hu; simp at hu; subst hu; rfl
          case c3 => unfold maxLen; omega
          case c4 => omega
          case c5 => have := cr4.size; simp; omega
          intro v' w6 hown' hgrow _
          have hbd := hb.out
          have hrow6 := (HR4.out.gr hc5).more (gs := [fword x y]) (ys := [.func (.func G) #[] C]) rfl (fun q hq => by obtain rfl : q = 0 := (by simpa using hq); exact ⟨_, rfl, HST.out.ch hc5.gr⟩) hown' hgrow
          have hown4 := (HR4.out.gr hc5).own
          have hg6 := grown_ch hgrow
          have t6 : Tx w6 F T N L s := (t4.gr hc5).ch hg6 (fun k hk he => by
            have := hown4.lt k he.symm
            have := hbd k hk
            omega) (fun he => by
            obtain ⟨cs, fz, h1⟩ := own_steps hown4 T he
            exact Blk.not_steps ((t4.gr hc5).t) (by decide) cs fz h1)
          have cr6 : Ch (fun _ => False) w w6 := (cr4.then hc5).trans hg6 (fun _ h => h) (fun k hk => Or.inr (by have := hown4.lt k hk.symm; omega))
          have HR6 := Lib.hid hrow6
          clear hrow6 hown4 hg6 hown' hgrow HR4 HST hc5 t4 t3 t2
          go_wp2_with (fail)
          go_roundg j
          case rel => exact ⟨by omega, by go_num, t6, cr6, _, _, HR6.out, heq, by simp; omega⟩
          case measure => omega
    · obtain rfl : gk = 0 := by omega
      have heq' : fs = us n := by rw [← heq.out, HU0.out, List.append_nil]
      clear heq HF HG HU HU0 hp hq
      have hR' := hR.out
      rw [← heq'] at hR'
      have hR2 := Lib.hid hR'
      clear heq' hR' hR
      have hp1 := puts_any tr 0 0 (by omega) (by omega)
      go_wp2_with (fail)
      refine hp1.mono ?_
      rintro e w2 ⟨G1, C1, rfl, s1, c2⟩
      have t2 := tr.gr c2
      have cr2 := cr1.then c2
      have HR2 := Lib.hid (HR.out.gr c2)
      have S1 := Lib.hid s1
      have hp2 := puts_any t2 1 0 (by omega) (by omega)
      clear HR s1 hp1
      go_wp2_with (fail)
      refine hp2.mono ?_
      rintro e w3 ⟨G2, C2, rfl, s2, c3⟩
      have t3 := t2.gr c3
      have cr3 := cr2.then c3
      have HR3 := Lib.hid (HR2.out.gr c3)
      have S2 := Lib.hid s2
      have S1' := Lib.hid (S1.out.ch c3.gr)
      have hc5 : Ch (fun _ => False) w3 (w3.alloc (.cells #[.func (.func G1) #[] C1, .func (.func G2) #[] C2] 63)) := (Ch.refl _ _).alloc _
      clear HR2 s2 hp2 S1
      go_wp2_with (first | (at_builtin; refine wpList_append_own _ rfl _ _ 79 rfl w.heap.size 63 i0 .nilFunc 1 8 Try.underlying79 hi hz0 hz1 hz2 rfl (by decide) _ _ _ rfl (HR3.out.gr hc5).own ⟨w3.heap.size, 0, none⟩ 2 2 [.func (.func G1) #[] C1, .func (.func G2) #[] C2] rfl rfl ?c1 ?c2 ?c3 ?c4 ?c5 ?_) | fail)
      case c1 => intro q u hq; match q, hq with | 0, hq => (simp at hq; subst hq; simp [Addr.add]) | 1, hq => (simp at hq; subst hq; simp [Addr.add])
      case c2 => intro u hu; simp at hu; rcases hu with rfl | rfl <;> rfl
      case c3 => unfold maxLen; omega
      case c4 => omega
      case c5 => have := cr3.size; simp; omega
      intro v' w6 hown' hgrow _
      have hbd := hb.out
      have hrow6 := (HR3.out.gr hc5).more (gs := [fput 0 0, fput 1 0]) (ys := [.func (.func G1) #[] C1, .func (.func G2) #[] C2]) rfl (fun q hq => by
        rcases (by simp at hq; omega : q = 0 ∨ q = 1) with rfl | rfl
        · exact ⟨_, rfl, S1'.out.ch hc5.gr⟩
        · exact ⟨_, rfl, S2.out.ch hc5.gr⟩) hown' hgrow
      have hown4 := (HR3.out.gr hc5).own
      have hg6 := grown_ch hgrow
      have t6 : Tx w6 F T N L s := (t3.gr hc5).ch hg6 (fun k hk he => by
        have := hown4.lt k he.symm
        have := hbd k hk
        omega) (fun he => by
        obtain ⟨cs, fz, h1⟩ := own_steps hown4 T he
        exact Blk.not_steps ((t3.gr hc5).t) (by decide) cs fz h1)
      have cr6 : Ch (fun _ => False) w w6 := (cr3.then hc5).trans hg6 (fun _ h => h) (fun k hk => Or.inr (by have := hown4.lt k hk.symm; omega))
      have hdo := do_row t6 hrow6 (by simp) (by simp; omega) hbd
      rw [hR2.out] at hdo
      have HDO := Lib.hid hdo
      clear hdo hrow6 hown4 hg6 hown' hgrow HR3 S1' S2 hc5 t3 t2
      go_wp2_with (fail)
      refine HDO.out.mono ?_
      rintro e w7 ⟨rfl, t7, c7⟩
      go_wp2_with (fail)
      go_ret
      exact ⟨rfl, t7, cr6.gr.then c7⟩
theorem undo_tx {w : World} {F : Nat → Prop} {T N L : Nat} {s : St} (hx : Tx w F T N L s) : Calls Try.prog 41 #[.pointer (some ⟨T, 0, none⟩)] w (Does w F T N L (fundo s)) := by
  have h0 := hx.ok.len0
  have h1 := hx.ok.len1
  have hl := hx.len
  obtain ⟨n, e, hn⟩ := cnt_nat hx.ok.by_
  have hc := count_any hx
  unfold fundo
  rw [e] at hc ⊢
  refine undo_core w F T N L n s (fun j => pr s.l (2 + 4 * j)) (fun j => pr s.l (4 + 4 * j)) (ulist s.l) hx hn (by omega) (fun j _ => pr_by hx.ok.by_ _) (fun j _ => pr_by hx.ok.by_ _) rfl (fun k _ => by rw [← hl]; rfl) hc (Lib.hid fun w1 t => ?_) (Lib.hid fun w1 j hj t => ?_) (Lib.hid fun w1 j hj t => ?_)
  · have := size_any t.n
    rwa [hl] at this
  · have := pair_any t (2 + 4 * j) (by omega)
    simpa using this
  · have := pair_any t (4 + 4 * j) (by omega)
    rw [show ((4 + 4 * j : Nat) : Int) = 2 + 4 * j + 2 from by omega] at this
    exact this
end Go.Proofs.Ytfnlpmakhlpgcaa.Nvm
