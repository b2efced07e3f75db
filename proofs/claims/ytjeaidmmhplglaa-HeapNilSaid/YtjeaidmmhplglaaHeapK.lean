/- The walks of heap: Make. -/
import Derived.Test.YtjeaidmmhplglaaHeapR
import Derived.BigQuiet
set_option linter.unusedVariables false
set_option linter.unusedSimpArgs false
namespace Go.Proofs.Ytjeaidmmhplglaa.Nvm
open Go.RowKit Go.Proofs.Ytjeaidmmhplglaa.Base
set_option maxHeartbeats 1600000 in
set_option maxRecDepth 100000 in
theorem hmake_may (w : World) (H T : Nat) (x : Hd) (f0 : 0 ≤ x.flags) (c0 : w.cell? ⟨H, 0, none⟩ = some (.pointer (some ⟨T, 0, none⟩))) (hm : hmay x = false) :
    Calls Try.prog 8 #[.pointer (some ⟨H, 0, none⟩), enc x] w fun e w' => e = .returned (.tuple #[.int .i64 0, .int .i64 2]) ∧ Ch (fun _ => False) w w' := by
  have hmy := fun w1 => hmay_any w1 x f0
  rw [hm] at hmy
  obtain ⟨kd, cl, el, ow, fl, cn⟩ := x
  simp only [enc] at hmy ⊢
  have HM := Lib.hid hmy
  have ho := hoff_some (w.alloc (.cells #[.int .u8 kd, .int .i64 cl, .int .i64 el, .int .i64 ow, .int .u8 fl, .int .i64 cn] 46)) H T ((World.cell?_alloc_some _ _ _ (by rw [c0]; rfl)).trans c0)
  have HO := Lib.hid ho
  clear hmy hm ho
  go_enter Try.func8, Try.ntmps8
  go_wp2_with (first | (go_at_call 24; refine HO.out.mono ?_; rintro e w1 ⟨rfl, rfl⟩) | (go_at_call 25; refine (HM.out _).mono ?_; rintro e w2 ⟨rfl, c2⟩))
  refine bodyPost_ret (v := .tuple #[.int .i64 0, .int .i64 2]) (by simp [results, Try.results8, go_sem]) rfl ⟨rfl, ((Ch.refl _ w).alloc _).then c2⟩
set_option maxHeartbeats 1600000 in
set_option maxRecDepth 100000 in
theorem hmake_dark (w : World) (H T : Nat) (x : Hd) (f0 : 0 ≤ x.flags) (c0 : w.cell? ⟨H, 0, none⟩ = some (.pointer (some ⟨T, 0, none⟩))) (hm : hmay x = true)
    (ha : Hid (∀ w1, Ch (fun _ => False) w w1 → Calls Try.prog 26 #[.pointer (some ⟨H, 0, none⟩)] w1 fun e w' => e = .returned (.int .i64 13) ∧ Ch (fun _ => False) w1 w')) :
    Calls Try.prog 8 #[.pointer (some ⟨H, 0, none⟩), enc x] w fun e w' => e = .returned (.tuple #[.int .i64 0, .int .i64 13]) ∧ Ch (fun _ => False) w w' := by
  have hmy := fun w1 => hmay_any w1 x f0
  rw [hm] at hmy
  obtain ⟨kd, cl, el, ow, fl, cn⟩ := x
  simp only [enc] at hmy ⊢
  have HM := Lib.hid hmy
  have ho := hoff_some (w.alloc (.cells #[.int .u8 kd, .int .i64 cl, .int .i64 el, .int .i64 ow, .int .u8 fl, .int .i64 cn] 46)) H T ((World.cell?_alloc_some _ _ _ (by rw [c0]; rfl)).trans c0)
  have HO := Lib.hid ho
  clear hmy hm ho
  go_enter Try.func8, Try.ntmps8
  go_wp2_with (first | (go_at_call 24; refine HO.out.mono ?_; rintro e w1 ⟨rfl, rfl⟩) | (go_at_call 25; refine (HM.out _).mono ?_; rintro e w2 ⟨rfl, c2⟩) | (go_at_call 26; refine (ha.out _ (((Ch.refl _ w).alloc _).then c2)).mono ?_; rintro e w3 ⟨rfl, c3⟩))
  refine bodyPost_ret (v := .tuple #[.int .i64 0, .int .i64 13]) (by simp [results, Try.results8, go_sem]) rfl ⟨rfl, (((Ch.refl _ w).alloc _).then c2).then c3⟩
/-- What is read of a new object's head, and of the heap. -/
def Mk (w : World) (H T R : Nat) (kd cl el ow fl cn : Int) (W : World) : Prop := W.cell? ⟨w.heap.size, 0, none⟩ = some (.int .u8 kd) ∧ W.cell? ⟨w.heap.size, 1, none⟩ = some (.int .i64 cl) ∧ W.cell? ⟨w.heap.size, 2, none⟩ = some (.int .i64 el) ∧ W.cell? ⟨w.heap.size, 3, none⟩ = some (.int .i64 ow) ∧ W.cell? ⟨w.heap.size, 4, none⟩ = some (.int .u8 fl) ∧ W.cell? ⟨w.heap.size, 5, none⟩ = some (.int .i64 cn) ∧ W.cell? ⟨H, 0, none⟩ = some (.pointer (some ⟨T, 0, none⟩)) ∧ W.cell? ⟨H, 1, none⟩ = some (.pointer (some ⟨R, 0, none⟩))
/-- Is there no room? -/
def hfull (s : St) (L : Nat) (Z fl N : Int) : Bool := decide ((L : Int) / 2 < hw s 256 + Z) || (fl % 4 != 0 && decide (1024 < hw s 257 + N))
/-- A heap behind Make. -/
def Mdo (w : World) (F : Nat → Prop) (H T N R L : Nat) (p : St × List Int × Int × Int) (e : Ending) (w' : World) : Prop := e = .returned (.tuple #[.int .i64 p.2.2.1, .int .i64 p.2.2.2]) ∧ Hx w' F H T N R L p.1 p.2.1 ∧ Ch (Hb F H T R) w w'
/-- Words in a block. -/
def cw (l : List Int) : Array Value := (l.map (Value.int .u16)).toArray
theorem cw_get (l : List Int) (j : Nat) (h : j < l.length) : (cw l)[j]? = some (.int .u16 (l.getD j 0)) := by simp [cw, h]
theorem cw_set (l : List Int) (j : Nat) (b : Int) : (cw l).setIfInBounds j (.int .u16 b) = cw (l.set j b) := by simp [cw, List.map_set]
theorem infoW : (Try.prog.info? 22).map (fun i => (i.zero, i.size, i.bytes)) = some (some (.int .u16 0), 1, 2) := by kernel_rfl
/-- make([]uint16, n). -/
theorem run_makeWords (w : World) (n : Nat) (hn : n ≤ 65540) : (Instr.makeSlice 74 (.int .i64 n) (.int .i64 n)).run Try.prog w = .ok (.slice (some ⟨w.heap.size, 0, none⟩) n n) (w.alloc (.cells (cw (List.replicate n 0)) 22)) := by
  obtain ⟨i0, hi, hz0, hz1, hz2⟩ := info_parts infoW
  have h := run_make (P := Try.prog) w 74 22 i0 (.int .u16 0) Try.underlying74 hi hz0 .i64 .i64 n n (by omega) (Int.le_refl _) (by rw [hz2]; omega) (by omega)
  rw [h]
  have e : (madeCells (Value.int .u16 0).cells (n * i0.size)) = cw (List.replicate n 0) := by
    rw [hz1, Nat.mul_one]
    have := toList_madeCells_one (.int .u16 0) n
    unfold cw
    rw [List.map_replicate]
    show madeCells #[.int .u16 0] n = _
    rw [← this]
  simp only [Int.toNat_natCast, e]
/-- The words of a new object. -/
def hwf (x : Hd) (Z place : Int) : List Int := [if x.kind = 4 then x.cls else 32768 + x.kind, 256 * x.owner + x.flags, x.count, if lst x.flags = true then place else x.elem] ++ List.replicate (Z.toNat - 4) 0
/-- What is done behind the words of a new object. -/
def hmkf (s : St) (m : List Int) (x : Hd) (Z N : Int) (r : St × Int) : St × List Int × Int × Int :=
  if r.2 ≠ 0 then (r.1, m, 0, r.2)
  else if lst x.flags = true then
    (if (tput r.1 257 (hw s 257 + N)).2 ≠ 0 then ((tput r.1 257 (hw s 257 + N)).1, (rclear m (hw s 257) N).1, 0, (tput r.1 257 (hw s 257 + N)).2)
     else if (tput (tput r.1 257 (hw s 257 + N)).1 256 (hw s 256 + Z)).2 ≠ 0 then ((tput (tput r.1 257 (hw s 257 + N)).1 256 (hw s 256 + Z)).1, (rclear m (hw s 257) N).1, 0, (tput (tput r.1 257 (hw s 257 + N)).1 256 (hw s 256 + Z)).2)
     else ((tput (tput r.1 257 (hw s 257 + N)).1 256 (hw s 256 + Z)).1, (rclear m (hw s 257) N).1, hw s 256, 0))
  else if (tput r.1 256 (hw s 256 + Z)).2 ≠ 0 then ((tput r.1 256 (hw s 256 + Z)).1, m, 0, (tput r.1 256 (hw s 256 + Z)).2)
  else ((tput r.1 256 (hw s 256 + Z)).1, m, hw s 256, 0)
def hmk (s : St) (m : List Int) (L : Nat) (x : Hd) (Z K : Int) : St × List Int × Int × Int :=
  if hfull s L Z x.flags (x.count * K) = true then (s, m, 0, 11) else hmkf s m x Z (x.count * K) (runs (rawws (hw s 256) (hwf x Z (hw s 257))) s)
theorem hmay_b {x : Hd} (h : hmay x = true) : 4 ≤ x.kind ∧ x.kind ≤ 8 ∧ (x.kind = 4 → 0 ≤ x.cls ∧ x.cls ≤ 32767) ∧ 0 ≤ x.elem ∧ x.elem ≤ 32767 ∧ x.flags ≤ 2 ∧ 0 ≤ x.owner ∧ x.owner ≤ 255 ∧ 0 ≤ x.count ∧ x.count ≤ 2000 := by
  unfold hmay at h
  obtain ⟨a, b, c, d, e, f, g, i, j⟩ := of_decide_eq_true h
  refine ⟨a, b, fun hk => by rwa [if_pos hk] at c, ?_, ?_, ?_, f, g, i, j⟩
  · split at d <;> omega
  · split at d <;> omega
  · split at e <;> omega
theorem or_kind {k : Int} (h0 : 4 ≤ k) (h1 : k ≤ 8) : bits .or .u16 32768 k = 32768 + k := by
  have : k = 4 ∨ k = 5 ∨ k = 6 ∨ k = 7 ∨ k = 8 := by omega
  rcases this with rfl | rfl | rfl | rfl | rfl <;> rfl
theorem wr16 {x : Int} (h0 : 0 ≤ x) (h1 : x ≤ 65535) : IntKind.u16.wrap x = x := by rw [Ram.u16wrap]; omega
theorem sets4 (n : Nat) (h : 4 ≤ n) (a b c d : Int) : ((((List.replicate n (0 : Int)).set 0 a).set 1 b).set 2 c).set 3 d = [a, b, c, d] ++ List.replicate (n - 4) 0 := by
  obtain ⟨k, rfl⟩ : ∃ k, n = k + 4 := ⟨n - 4, by omega⟩
  simp [List.replicate_succ]
theorem sets_over (l : List Int) (a b c f : Int) : (((l.set 0 a).set 1 b).set 2 c).set 0 f = ((l.set 0 f).set 1 b).set 2 c := by
  cases l with
  | nil => rfl
  | cons x l => simp only [List.set_cons_zero, List.set_cons_succ]
theorem hmkf_no (s : St) (m : List Int) (x : Hd) (Z N : Int) {rs : St} {re : Int} (h : re ≠ 0) : hmkf s m x Z N (rs, re) = (rs, m, 0, re) := by unfold hmkf; rw [if_pos h]
theorem hfull_no {s : St} {L : Nat} {Z fl N : Int} (h : hfull s L Z fl N = false) : hw s 256 + Z ≤ (L : Int) / 2 ∧ ((fl % 4 != 0) = true → hw s 257 + N ≤ 1024) := by
  unfold hfull at h
  rw [Bool.or_eq_false_iff] at h
  refine ⟨by have := of_decide_eq_false h.1; omega, fun hl => ?_⟩
  have h2 := h.2
  rw [hl, Bool.true_and] at h2
  have := of_decide_eq_false h2
  omega
/-- Words. -/
def W16 (l : List Int) : Prop := ∀ x ∈ l, 0 ≤ x ∧ x ≤ 65535
theorem W16.at {l : List Int} (h : W16 l) (k : Nat) : 0 ≤ l.getD k 0 ∧ l.getD k 0 ≤ 65535 := by
  rw [List.getD_eq_getElem?_getD]
  cases e : l[k]? with
  | none => simp
  | some x => exact h x (List.mem_of_getElem? e)
/-- What is left of the words leads to (rs, re). -/
def Rem (A : Int) (l : List Int) (s rs : St) (re : Int) : Prop := runs (rawws A l) s = (rs, re)
def Rem1 (A v : Int) (l : List Int) (s rs : St) (re : Int) : Prop := runs (ftraw (2 * A + 1) (v % 256) :: rawws (A + 1) l) s = (rs, re)
theorem Rem.nil {A : Int} {s rs : St} {re : Int} (h : Rem A [] s rs re) : rs = s ∧ re = 0 := by
  unfold Rem rawws runs at h
  exact ⟨(congrArg Prod.fst h).symm, (congrArg Prod.snd h).symm⟩
theorem Rem.no {A v : Int} {l : List Int} {s rs : St} {re : Int} (h : Rem A (v :: l) s rs re) (hz : (traw s (2 * A) (v / 256)).2 ≠ 0) : (rs, re) = traw s (2 * A) (v / 256) := by
  have h : (if (traw s (2 * A) (v / 256)).2 = 0 then runs (ftraw (2 * A + 1) (v % 256) :: rawws (A + 1) l) (traw s (2 * A) (v / 256)).1 else traw s (2 * A) (v / 256)) = (rs, re) := h
  rw [if_neg hz] at h
  exact h.symm
theorem Rem.go {A v : Int} {l : List Int} {s rs : St} {re : Int} (h : Rem A (v :: l) s rs re) (hz : (traw s (2 * A) (v / 256)).2 = 0) : Rem1 A v l (traw s (2 * A) (v / 256)).1 rs re := by
  have h : (if (traw s (2 * A) (v / 256)).2 = 0 then runs (ftraw (2 * A + 1) (v % 256) :: rawws (A + 1) l) (traw s (2 * A) (v / 256)).1 else traw s (2 * A) (v / 256)) = (rs, re) := h
  rw [if_pos hz] at h
  exact h
theorem Rem1.no {A v : Int} {l : List Int} {s rs : St} {re : Int} (h : Rem1 A v l s rs re) (hz : (traw s (2 * A + 1) (v % 256)).2 ≠ 0) : (rs, re) = traw s (2 * A + 1) (v % 256) := by
  have h : (if (traw s (2 * A + 1) (v % 256)).2 = 0 then runs (rawws (A + 1) l) (traw s (2 * A + 1) (v % 256)).1 else traw s (2 * A + 1) (v % 256)) = (rs, re) := h
  rw [if_neg hz] at h
  exact h.symm
theorem Rem1.go {A v : Int} {l : List Int} {s rs : St} {re : Int} (h : Rem1 A v l s rs re) (hz : (traw s (2 * A + 1) (v % 256)).2 = 0) : Rem (A + 1) l (traw s (2 * A + 1) (v % 256)).1 rs re := by
  have h : (if (traw s (2 * A + 1) (v % 256)).2 = 0 then runs (rawws (A + 1) l) (traw s (2 * A + 1) (v % 256)).1 else traw s (2 * A + 1) (v % 256)) = (rs, re) := h
  rw [if_pos hz] at h
  exact h
/-- What is read of a new object's head. -/
structure Mx (w : World) (kd cl el ow fl cn : Int) (W : World) : Prop where
  z0 : W.cell? ⟨w.heap.size, 0, none⟩ = some (.int .u8 kd)
  z1 : W.cell? ⟨w.heap.size, 1, none⟩ = some (.int .i64 cl)
  z2 : W.cell? ⟨w.heap.size, 2, none⟩ = some (.int .i64 el)
  z3 : W.cell? ⟨w.heap.size, 3, none⟩ = some (.int .i64 ow)
  z4 : W.cell? ⟨w.heap.size, 4, none⟩ = some (.int .u8 fl)
  z5 : W.cell? ⟨w.heap.size, 5, none⟩ = some (.int .i64 cn)
set_option maxHeartbeats 16000000 in
set_option maxRecDepth 100000 in
theorem hmake_live {w : World} {F : Nat → Prop} {H T N R L : Nat} {s : St} {m : List Int} (h : Hx w F H T N R L s m) (x : Hd) (hb : x.B) (hm : hmay x = true) (hd0 : s.dark = false) :
    Calls Try.prog 8 #[.pointer (some ⟨H, 0, none⟩), enc x] w (Mdo w F H T N R L (hmk s m L x (hlen x) (ksz x.kind))) := by
  have HX := Lib.hid (hmay_b hm)
  have hp0 : s.pow = 0 := by simp [St.pow, hd0]
  have f0 := hb.f0
  have n0 := hb.n0
  have n1 := hb.n1
  have c0 := h.c0
  have hmy := fun w1 => hmay_any w1 x f0
  have hkd := fun w1 => hkind_any w1 x
  have hln := fun w1 => hlen_any w1 x hb
  have hlb := hlen_b hb
  have hkz := ksz_b x.kind
  have A3 := and3 hb.f0 hb.f1
  have hal := fun w1 (c : Ch (fun _ => False) w w1) => halive_any (h.gr c)
  rw [hp0] at hal
  rw [hm] at hmy
  have ha0 := hw_b h.ok 256
  have ha1 := hw_b h.ok 257
  have hwd := fun w1 (c : Ch (fun _ => False) w w1) k => hword_any (h.gr c) k
  have hnv := fun w1 (c : Ch (fun _ => False) w w1) => nvm_core w1 T N (h.gr c).t.c0
  have hsz := fun w1 (c : Ch (fun _ => False) w w1) => size_any (h.gr c).t.n
  have hL := h.t.len
  have hL1 := h.ok.len1
  rw [hL] at hsz hL1
  clear hL
  generalize hlen x = Z at *
  obtain ⟨kd, cl, el, ow, fl, cn⟩ := x
  dsimp only at *
  generalize ksz kd = K at *
  have hN : 0 ≤ cn * K ∧ cn * K ≤ 131070 := by rcases hkz with rfl | rfl <;> omega
  simp only [enc] at hmy hkd hln ⊢
  have HM := Lib.hid hmy
  have HK := Lib.hid hkd
  have HL := Lib.hid hln
  have HA := Lib.hid hal
  have HW := Lib.hid hwd
  have HN := Lib.hid hnv
  have HS := Lib.hid hsz
  have ho := hoff_some (w.alloc (.cells #[.int .u8 kd, .int .i64 cl, .int .i64 el, .int .i64 ow, .int .u8 fl, .int .i64 cn] 46)) H T ((World.cell?_alloc_some _ _ _ (by rw [c0]; rfl)).trans c0)
  have HO := Lib.hid ho
  have C0 : Ch (fun _ => False) w (w.alloc (.cells #[.int .u8 kd, .int .i64 cl, .int .i64 el, .int .i64 ow, .int .u8 fl, .int .i64 cn] 46)) := (Ch.refl _ w).alloc _
  have Z0 := Blk.new w #[.int .u8 kd, .int .i64 cl, .int .i64 el, .int .i64 ow, .int .u8 fl, .int .i64 cn] 46
  have hk := Lib.hid (fun (wy : World) (c : Ch (fun _ => False) (w.alloc (.cells #[.int .u8 kd, .int .i64 cl, .int .i64 el, .int .i64 ow, .int .u8 fl, .int .i64 cn] 46)) wy) => show Mk w H T R kd cl el ow fl cn wy from
      ⟨(Z0.ch c (fun h => h)).cell 0, (Z0.ch c (fun h => h)).cell 1, (Z0.ch c (fun h => h)).cell 2, (Z0.ch c (fun h => h)).cell 3, (Z0.ch c (fun h => h)).cell 4, (Z0.ch c (fun h => h)).cell 5, (h.gr (C0.then c)).c0, (h.gr (C0.then c)).c1⟩)
  have hnx : ¬ Hb F H T R w.heap.size := fun hk => Nat.lt_irrefl _ (h.lt _ hk)
  have hkx := Lib.hid (fun (wy : World) (c : Ch (Hb F H T R) (w.alloc (.cells #[.int .u8 kd, .int .i64 cl, .int .i64 el, .int .i64 ow, .int .u8 fl, .int .i64 cn] 46)) wy) => show Mx w kd cl el ow fl cn wy from ⟨(Z0.ch c hnx).cell 0, (Z0.ch c hnx).cell 1, (Z0.ch c hnx).cell 2, (Z0.ch c hnx).cell 3, (Z0.ch c hnx).cell 4, (Z0.ch c hnx).cell 5⟩)
  clear hnx
  have hWn : IntKind.i64.wrap (cn * K) = cn * K := wr64 (by omega) (by omega)
  have hW1 : IntKind.i64.wrap (hw s 256 + Z) = hw s 256 + Z := wr64 (by omega) (by omega)
  have hW2 : IntKind.i64.wrap ((L : Int) / 2) = (L : Int) / 2 := wr64 (by omega) (by omega)
  have hW3 : IntKind.i64.wrap (hw s 257 + cn * K) = hw s 257 + cn * K := wr64 (by omega) (by omega)
  clear hmy hm ho hkd hln hal hwd hnv hsz Z0 hb hkz hp0 c0
  have d := Ch.refl (fun _ => False) (w.alloc (.cells #[.int .u8 kd, .int .i64 cl, .int .i64 el, .int .i64 ow, .int .u8 fl, .int .i64 cn] 46))
  go_enter Try.func8, Try.ntmps8
  go_wp2_with (first | (go_at_call 24; refine HO.out.mono ?_; rintro e w1 ⟨rfl, rfl⟩) | (go_at_call 25; refine (HM.out _).mono ?_; rintro e w2 ⟨rfl, c2⟩; replace d := d.then c2) | (go_at_call 26; refine (HA.out _ (C0.then d)).mono ?_; rintro e w3 ⟨rfl, c3⟩; replace d := d.then c3) | (go_at_call 27; refine (HW.out _ (C0.then d) _).mono ?_; rintro e w4 ⟨rfl, c4⟩; replace d := d.then c4))
  obtain ⟨z0, z1, z2, z3, z4, z5, z6, z7⟩ := hk.out _ d
  go_region_held3 (fun w' => w'.cell? ⟨w.heap.size, 0, none⟩ = some (.int .u8 kd) ∧ w'.cell? ⟨w.heap.size, 1, none⟩ = some (.int .i64 cl) ∧ w'.cell? ⟨w.heap.size, 2, none⟩ = some (.int .i64 el) ∧ w'.cell? ⟨w.heap.size, 3, none⟩ = some (.int .i64 ow) ∧ w'.cell? ⟨w.heap.size, 4, none⟩ = some (.int .u8 fl) ∧ w'.cell? ⟨w.heap.size, 5, none⟩ = some (.int .i64 cn) ∧ w'.cell? ⟨H, 0, none⟩ = some (.pointer (some ⟨T, 0, none⟩)) ∧ w'.cell? ⟨H, 1, none⟩ = some (.pointer (some ⟨R, 0, none⟩))) (first | exact ⟨z0, z1, z2, z3, z4, z5, z6, z7⟩ | exact hk.out _ d | exact hk.out _ d.drew | exact hk.out _ (d.drewN _)) (first | (go_at_call 28; refine (HK.out _).mono ?_; rintro e w5 ⟨rfl, c5⟩; replace d := d.then (by first | exact c5 | exact c5.undrew | exact c5.undrewN : Ch (fun _ => False) w4 w5)))
  clear z0 z1 z2 z3 z4 z5 z6 z7
  obtain ⟨z0, z1, z2, z3, z4, z5, z6, z7⟩ := hk.out _ d
  go_upto_region 11 with (fail)
  clear z0 z1 z2 z3 z4 z5 z6 z7 HO HM HA HW HK
  generalize hW0 : w.alloc (.cells #[.int .u8 kd, .int .i64 cl, .int .i64 el, .int .i64 ow, .int .u8 fl, .int .i64 cn] 46) = W0 at hk hkx C0 d ⊢
  clear hW0
  have hd := d
  clear d
  go_cut [10, 62] (fun u10 u62 wx => u10 = .bool (fl % 4 != 0) ∧ u62 = .bool (hfull s L Z fl (cn * K)) ∧ Ch (fun _ => False) W0 wx)
  case first => as_aux_lemma =>
    have hu : undef = Value.tuple #[] := rfl
    by_cases hF : (L : Int) / 2 < hw s 256 + Z
    · have hFd := decide_eq_true hF
      have hfE : hfull s L Z fl (cn * K) = true := by unfold hfull; rw [hFd, Bool.true_or]
      have HfE := Lib.hid hfE
      clear hfE
      refine wp_region_held_drew (S := (fun W => Ch (fun _ => False) W0 W)) (by kernel_rfl) (by exact hd.drew) (fun hHeld => ?_)
      refine wpAnyH_take (i := 0) (v := ?_) rfl (by kernel_rfl) (by kernel_rfl) (by kernel_rfl) (fun _ _ _ h => h) (Or.inl ⟨by rfl, ?_⟩) (by assumption) ?_
      rotate_left
      · (intro wS hS; obtain ⟨z0, z1, z2, z3, z4, z5, z6, z7⟩ := hk.out _ hS; go_simp; try with_reducible rfl)
      simp only [List.getElem_toArray, List.getElem_cons_succ, List.getElem_cons_zero, Act.put, List.setIfInBounds_toArray, List.set_cons_zero, List.set_cons_succ]
      refine wpAnyH_take (i := 1) (v := ?_) rfl (by kernel_rfl) (by kernel_rfl) (by kernel_rfl) (fun _ _ _ h => h) (Or.inl ⟨by rfl, ?_⟩) (by assumption) ?_
      rotate_left
      · (intro wS hS; obtain ⟨z0, z1, z2, z3, z4, z5, z6, z7⟩ := hk.out _ hS; go_simp; try with_reducible rfl)
      simp only [List.getElem_toArray, List.getElem_cons_succ, List.getElem_cons_zero, Act.put, List.setIfInBounds_toArray, List.set_cons_zero, List.set_cons_succ]
      refine wpAnyH_take (i := 4) (v := ?_) rfl (by kernel_rfl) (by kernel_rfl) (by kernel_rfl) (fun _ _ _ h => h) (Or.inl ⟨by rfl, ?_⟩) (by assumption) ?_
      rotate_left
      · (intro wS hS; obtain ⟨z0, z1, z2, z3, z4, z5, z6, z7⟩ := hk.out _ hS; go_simp; try with_reducible rfl)
      simp only [List.getElem_toArray, List.getElem_cons_succ, List.getElem_cons_zero, Act.put, List.setIfInBounds_toArray, List.set_cons_zero, List.set_cons_succ]
      refine wpAnyH_take (i := 5) (v := ?_) rfl (by kernel_rfl) (by kernel_rfl) (by kernel_rfl) (fun _ _ _ h => h) (Or.inl ⟨by rfl, ?_⟩) (by assumption) ?_
      rotate_left
      · (intro wS hS; obtain ⟨z0, z1, z2, z3, z4, z5, z6, z7⟩ := hk.out _ hS; go_simp; try with_reducible rfl)
      simp only [List.getElem_toArray, List.getElem_cons_succ, List.getElem_cons_zero, Act.put, List.setIfInBounds_toArray, List.set_cons_zero, List.set_cons_succ]
      refine wpAnyH_take (i := 6) (v := ?_) rfl (by kernel_rfl) (by kernel_rfl) (by kernel_rfl) (fun _ _ _ h => h) (Or.inl ⟨by rfl, ?_⟩) (by assumption) ?_
      rotate_left
      · (intro wS hS; obtain ⟨z0, z1, z2, z3, z4, z5, z6, z7⟩ := hk.out _ hS; go_simp; try with_reducible rfl)
      simp only [List.getElem_toArray, List.getElem_cons_succ, List.getElem_cons_zero, Act.put, List.setIfInBounds_toArray, List.set_cons_zero, List.set_cons_succ]
      refine wpAnyH_take (i := 7) (v := ?_) rfl (by kernel_rfl) (by kernel_rfl) (by kernel_rfl) (fun _ _ _ h => h) (Or.inl ⟨by rfl, ?_⟩) (by assumption) ?_
      rotate_left
      · (intro wS hS; obtain ⟨z0, z1, z2, z3, z4, z5, z6, z7⟩ := hk.out _ hS; go_simp; try with_reducible rfl)
      simp only [List.getElem_toArray, List.getElem_cons_succ, List.getElem_cons_zero, Act.put, List.setIfInBounds_toArray, List.set_cons_zero, List.set_cons_succ]
      refine wpAnyH_ready (rs := [2]) (by kernel_rfl) (by simp) (AllReadyH.cons rfl (fun K hK => ?_) AllReadyH.nil)
      go_simp; go_at_call 29; refine (HL.out _).mono ?_; rintro e w6 ⟨rfl, c6⟩; replace c6 := hHeld.then c6; clear hHeld
      refine hK.out _ _ (by exact c6) (fun hHeld => ?_)
      clear hK K
      refine wpAnyH_take (i := 3) (v := ?_) rfl (by kernel_rfl) (by kernel_rfl) (by kernel_rfl) (fun _ _ _ h => h) (Or.inl ⟨by rfl, ?_⟩) (by assumption) ?_
      rotate_left
      · (intro wS hS; obtain ⟨z0, z1, z2, z3, z4, z5, z6, z7⟩ := hk.out _ hS; go_simp; try with_reducible rfl)
      simp only [List.getElem_toArray, List.getElem_cons_succ, List.getElem_cons_zero, Act.put, List.setIfInBounds_toArray, List.set_cons_zero, List.set_cons_succ]
      refine wpAnyH_ready (rs := [8]) (by kernel_rfl) (by simp) (AllReadyH.cons rfl (fun K hK => ?_) AllReadyH.nil)
      go_simp; go_at_call 19; refine (HN.out _ (C0.then hHeld)).mono ?_; rintro e w7 ⟨rfl, rfl⟩; have c6 := hHeld; clear hHeld
      refine hK.out _ _ (by exact c6) (fun hHeld => ?_)
      clear hK K
      refine wpAnyH_ready (rs := [9]) (by kernel_rfl) (by simp) (AllReadyH.cons rfl (fun K hK => ?_) AllReadyH.nil)
      go_simp; go_at_call 23; refine (HS.out _ (C0.then hHeld)).mono ?_; rintro e w7 ⟨rfl, rfl⟩; have c6 := hHeld; clear hHeld
      refine hK.out _ _ (by exact c6) (fun hHeld => ?_)
      clear hK K
      refine wpAnyH_take (i := 10) (v := ?_) rfl (by kernel_rfl) (by kernel_rfl) (by kernel_rfl) (fun _ _ _ h => h) (Or.inl ⟨by rfl, ?_⟩) (by assumption) ?_
      rotate_left
      · (intro wS hS; obtain ⟨z0, z1, z2, z3, z4, z5, z6, z7⟩ := hk.out _ hS; go_simp; try with_reducible rfl)
      simp only [List.getElem_toArray, List.getElem_cons_succ, List.getElem_cons_zero, Act.put, List.setIfInBounds_toArray, List.set_cons_zero, List.set_cons_succ]
      refine wpAnyH_take (i := 11) (v := ?_) rfl (by kernel_rfl) (by kernel_rfl) (by kernel_rfl) (fun _ _ _ h => h) (Or.inl ⟨by rfl, ?_⟩) (by assumption) ?_
      rotate_left
      · (intro wS hS; obtain ⟨z0, z1, z2, z3, z4, z5, z6, z7⟩ := hk.out _ hS; go_simp; try with_reducible rfl)
      simp only [List.getElem_toArray, List.getElem_cons_succ, List.getElem_cons_zero, Act.put, List.setIfInBounds_toArray, List.set_cons_zero, List.set_cons_succ]
      refine wpAnyH_take (i := 12) (v := ?_) rfl (by kernel_rfl) (by kernel_rfl) (by kernel_rfl) (fun _ _ _ h => h) (Or.inl ⟨by rfl, ?_⟩) (by assumption) ?_
      rotate_left
      · (intro wS hS; obtain ⟨z0, z1, z2, z3, z4, z5, z6, z7⟩ := hk.out _ hS; go_simp; try with_reducible rfl)
      simp only [List.getElem_toArray, List.getElem_cons_succ, List.getElem_cons_zero, Act.put, List.setIfInBounds_toArray, List.set_cons_zero, List.set_cons_succ]
      refine wpAnyH_take (i := 13) (v := undef) rfl (by kernel_rfl) (by kernel_rfl) (by kernel_rfl) (fun _ _ _ h => h) (Or.inr ⟨by kernel_rfl, rfl⟩) (by assumption) ?_
      simp only [List.getElem_toArray, List.getElem_cons_succ, List.getElem_cons_zero, Act.put, List.setIfInBounds_toArray, List.set_cons_zero, List.set_cons_succ]
      refine wpAnyH_take (i := 14) (v := undef) rfl (by kernel_rfl) (by kernel_rfl) (by kernel_rfl) (fun _ _ _ h => h) (Or.inr ⟨by kernel_rfl, rfl⟩) (by assumption) ?_
      simp only [List.getElem_toArray, List.getElem_cons_succ, List.getElem_cons_zero, Act.put, List.setIfInBounds_toArray, List.set_cons_zero, List.set_cons_succ]
      refine wpAnyH_take (i := 15) (v := undef) rfl (by kernel_rfl) (by kernel_rfl) (by kernel_rfl) (fun _ _ _ h => h) (Or.inr ⟨by kernel_rfl, rfl⟩) (by assumption) ?_
      simp only [List.getElem_toArray, List.getElem_cons_succ, List.getElem_cons_zero, Act.put, List.setIfInBounds_toArray, List.set_cons_zero, List.set_cons_succ]
      refine wpAnyH_take (i := 16) (v := undef) rfl (by kernel_rfl) (by kernel_rfl) (by kernel_rfl) (fun _ _ _ h => h) (Or.inr ⟨by kernel_rfl, rfl⟩) (by assumption) ?_
      simp only [List.getElem_toArray, List.getElem_cons_succ, List.getElem_cons_zero, Act.put, List.setIfInBounds_toArray, List.set_cons_zero, List.set_cons_succ]
      refine wpAnyH_take (i := 17) (v := undef) rfl (by kernel_rfl) (by kernel_rfl) (by kernel_rfl) (fun _ _ _ h => h) (Or.inr ⟨by kernel_rfl, rfl⟩) (by assumption) ?_
      simp only [List.getElem_toArray, List.getElem_cons_succ, List.getElem_cons_zero, Act.put, List.setIfInBounds_toArray, List.set_cons_zero, List.set_cons_succ]
      refine wpAnyH_take (i := 18) (v := undef) rfl (by kernel_rfl) (by kernel_rfl) (by kernel_rfl) (fun _ _ _ h => h) (Or.inr ⟨by kernel_rfl, rfl⟩) (by assumption) ?_
      simp only [List.getElem_toArray, List.getElem_cons_succ, List.getElem_cons_zero, Act.put, List.setIfInBounds_toArray, List.set_cons_zero, List.set_cons_succ]
      refine wpAnyH_take (i := 19) (v := undef) rfl (by kernel_rfl) (by kernel_rfl) (by kernel_rfl) (fun _ _ _ h => h) (Or.inr ⟨by kernel_rfl, rfl⟩) (by assumption) ?_
      simp only [List.getElem_toArray, List.getElem_cons_succ, List.getElem_cons_zero, Act.put, List.setIfInBounds_toArray, List.set_cons_zero, List.set_cons_succ]
      refine wpAnyH_take (i := 20) (v := ?_) rfl (by kernel_rfl) (by kernel_rfl) (by kernel_rfl) (fun _ _ _ h => h) (Or.inl ⟨by rfl, ?_⟩) (by assumption) ?_
      rotate_left
      · (intro wS hS; obtain ⟨z0, z1, z2, z3, z4, z5, z6, z7⟩ := hk.out _ hS; go_simp; try with_reducible rfl)
      simp only [List.getElem_toArray, List.getElem_cons_succ, List.getElem_cons_zero, Act.put, List.setIfInBounds_toArray, List.set_cons_zero, List.set_cons_succ]
      refine wpAnyH_done (by kernel_rfl) ?_ _
      go_wp2_with (fail)
      go_meet
      exact ⟨by first | rfl | rw [hl], by rw [HfE.out], hHeld⟩
    · have hFd := decide_eq_false hF
      by_cases hl : (fl % 4 != 0) = true
      · have hfE : hfull s L Z fl (cn * K) = decide (1024 < hw s 257 + cn * K) := by unfold hfull; rw [hFd, hl, Bool.false_or, Bool.true_and]
        generalize hGd : decide (1024 < hw s 257 + cn * K) = g at hfE ⊢
        have HfE := Lib.hid hfE
        clear hfE
        simp only [hl]
        refine wp_region_held_drew (S := (fun W => Ch (fun _ => False) W0 W)) (by kernel_rfl) (by exact hd.drew) (fun hHeld => ?_)
        refine wpAnyH_take (i := 0) (v := ?_) rfl (by kernel_rfl) (by kernel_rfl) (by kernel_rfl) (fun _ _ _ h => h) (Or.inl ⟨by rfl, ?_⟩) (by assumption) ?_
        rotate_left
        · (intro wS hS; obtain ⟨z0, z1, z2, z3, z4, z5, z6, z7⟩ := hk.out _ hS; go_simp; try with_reducible rfl)
        simp only [List.getElem_toArray, List.getElem_cons_succ, List.getElem_cons_zero, Act.put, List.setIfInBounds_toArray, List.set_cons_zero, List.set_cons_succ]
        refine wpAnyH_take (i := 1) (v := ?_) rfl (by kernel_rfl) (by kernel_rfl) (by kernel_rfl) (fun _ _ _ h => h) (Or.inl ⟨by rfl, ?_⟩) (by assumption) ?_
        rotate_left
        · (intro wS hS; obtain ⟨z0, z1, z2, z3, z4, z5, z6, z7⟩ := hk.out _ hS; go_simp; try with_reducible rfl)
        simp only [List.getElem_toArray, List.getElem_cons_succ, List.getElem_cons_zero, Act.put, List.setIfInBounds_toArray, List.set_cons_zero, List.set_cons_succ]
        refine wpAnyH_take (i := 4) (v := ?_) rfl (by kernel_rfl) (by kernel_rfl) (by kernel_rfl) (fun _ _ _ h => h) (Or.inl ⟨by rfl, ?_⟩) (by assumption) ?_
        rotate_left
        · (intro wS hS; obtain ⟨z0, z1, z2, z3, z4, z5, z6, z7⟩ := hk.out _ hS; go_simp; try with_reducible rfl)
        simp only [List.getElem_toArray, List.getElem_cons_succ, List.getElem_cons_zero, Act.put, List.setIfInBounds_toArray, List.set_cons_zero, List.set_cons_succ]
        refine wpAnyH_take (i := 5) (v := ?_) rfl (by kernel_rfl) (by kernel_rfl) (by kernel_rfl) (fun _ _ _ h => h) (Or.inl ⟨by rfl, ?_⟩) (by assumption) ?_
        rotate_left
        · (intro wS hS; obtain ⟨z0, z1, z2, z3, z4, z5, z6, z7⟩ := hk.out _ hS; go_simp; try with_reducible rfl)
        simp only [List.getElem_toArray, List.getElem_cons_succ, List.getElem_cons_zero, Act.put, List.setIfInBounds_toArray, List.set_cons_zero, List.set_cons_succ]
        refine wpAnyH_take (i := 6) (v := ?_) rfl (by kernel_rfl) (by kernel_rfl) (by kernel_rfl) (fun _ _ _ h => h) (Or.inl ⟨by rfl, ?_⟩) (by assumption) ?_
        rotate_left
        · (intro wS hS; obtain ⟨z0, z1, z2, z3, z4, z5, z6, z7⟩ := hk.out _ hS; go_simp; try with_reducible rfl)
        simp only [List.getElem_toArray, List.getElem_cons_succ, List.getElem_cons_zero, Act.put, List.setIfInBounds_toArray, List.set_cons_zero, List.set_cons_succ]
        refine wpAnyH_take (i := 7) (v := ?_) rfl (by kernel_rfl) (by kernel_rfl) (by kernel_rfl) (fun _ _ _ h => h) (Or.inl ⟨by rfl, ?_⟩) (by assumption) ?_
        rotate_left
        · (intro wS hS; obtain ⟨z0, z1, z2, z3, z4, z5, z6, z7⟩ := hk.out _ hS; go_simp; try with_reducible rfl)
        simp only [List.getElem_toArray, List.getElem_cons_succ, List.getElem_cons_zero, Act.put, List.setIfInBounds_toArray, List.set_cons_zero, List.set_cons_succ]
        refine wpAnyH_ready (rs := [2]) (by kernel_rfl) (by simp) (AllReadyH.cons rfl (fun K hK => ?_) AllReadyH.nil)
        go_simp; go_at_call 29; refine (HL.out _).mono ?_; rintro e w6 ⟨rfl, c6⟩; replace c6 := hHeld.then c6; clear hHeld
        refine hK.out _ _ (by exact c6) (fun hHeld => ?_)
        clear hK K
        refine wpAnyH_take (i := 3) (v := ?_) rfl (by kernel_rfl) (by kernel_rfl) (by kernel_rfl) (fun _ _ _ h => h) (Or.inl ⟨by rfl, ?_⟩) (by assumption) ?_
        rotate_left
        · (intro wS hS; obtain ⟨z0, z1, z2, z3, z4, z5, z6, z7⟩ := hk.out _ hS; go_simp; try with_reducible rfl)
        simp only [List.getElem_toArray, List.getElem_cons_succ, List.getElem_cons_zero, Act.put, List.setIfInBounds_toArray, List.set_cons_zero, List.set_cons_succ]
        refine wpAnyH_ready (rs := [8]) (by kernel_rfl) (by simp) (AllReadyH.cons rfl (fun K hK => ?_) AllReadyH.nil)
        go_simp; go_at_call 19; refine (HN.out _ (C0.then hHeld)).mono ?_; rintro e w7 ⟨rfl, rfl⟩; have c6 := hHeld; clear hHeld
        refine hK.out _ _ (by exact c6) (fun hHeld => ?_)
        clear hK K
        refine wpAnyH_ready (rs := [9]) (by kernel_rfl) (by simp) (AllReadyH.cons rfl (fun K hK => ?_) AllReadyH.nil)
        go_simp; go_at_call 23; refine (HS.out _ (C0.then hHeld)).mono ?_; rintro e w7 ⟨rfl, rfl⟩; have c6 := hHeld; clear hHeld
        refine hK.out _ _ (by exact c6) (fun hHeld => ?_)
        clear hK K
        refine wpAnyH_take (i := 10) (v := ?_) rfl (by kernel_rfl) (by kernel_rfl) (by kernel_rfl) (fun _ _ _ h => h) (Or.inl ⟨by rfl, ?_⟩) (by assumption) ?_
        rotate_left
        · (intro wS hS; obtain ⟨z0, z1, z2, z3, z4, z5, z6, z7⟩ := hk.out _ hS; go_simp; try with_reducible rfl)
        simp only [List.getElem_toArray, List.getElem_cons_succ, List.getElem_cons_zero, Act.put, List.setIfInBounds_toArray, List.set_cons_zero, List.set_cons_succ]
        refine wpAnyH_take (i := 11) (v := ?_) rfl (by kernel_rfl) (by kernel_rfl) (by kernel_rfl) (fun _ _ _ h => h) (Or.inl ⟨by rfl, ?_⟩) (by assumption) ?_
        rotate_left
        · (intro wS hS; obtain ⟨z0, z1, z2, z3, z4, z5, z6, z7⟩ := hk.out _ hS; go_simp; try with_reducible rfl)
        simp only [List.getElem_toArray, List.getElem_cons_succ, List.getElem_cons_zero, Act.put, List.setIfInBounds_toArray, List.set_cons_zero, List.set_cons_succ]
        refine wpAnyH_take (i := 12) (v := ?_) rfl (by kernel_rfl) (by kernel_rfl) (by kernel_rfl) (fun _ _ _ h => h) (Or.inl ⟨by rfl, ?_⟩) (by assumption) ?_
        rotate_left
        · (intro wS hS; obtain ⟨z0, z1, z2, z3, z4, z5, z6, z7⟩ := hk.out _ hS; go_simp; try with_reducible rfl)
        simp only [List.getElem_toArray, List.getElem_cons_succ, List.getElem_cons_zero, Act.put, List.setIfInBounds_toArray, List.set_cons_zero, List.set_cons_succ]
        refine wpAnyH_take (i := 13) (v := ?_) rfl (by kernel_rfl) (by kernel_rfl) (by kernel_rfl) (fun _ _ _ h => h) (Or.inl ⟨by rfl, ?_⟩) (by assumption) ?_
        rotate_left
        · (intro wS hS; obtain ⟨z0, z1, z2, z3, z4, z5, z6, z7⟩ := hk.out _ hS; go_simp; try with_reducible rfl)
        simp only [List.getElem_toArray, List.getElem_cons_succ, List.getElem_cons_zero, Act.put, List.setIfInBounds_toArray, List.set_cons_zero, List.set_cons_succ]
        refine wpAnyH_take (i := 14) (v := ?_) rfl (by kernel_rfl) (by kernel_rfl) (by kernel_rfl) (fun _ _ _ h => h) (Or.inl ⟨by rfl, ?_⟩) (by assumption) ?_
        rotate_left
        · (intro wS hS; obtain ⟨z0, z1, z2, z3, z4, z5, z6, z7⟩ := hk.out _ hS; go_simp; try with_reducible rfl)
        simp only [List.getElem_toArray, List.getElem_cons_succ, List.getElem_cons_zero, Act.put, List.setIfInBounds_toArray, List.set_cons_zero, List.set_cons_succ]
        refine wpAnyH_take (i := 15) (v := ?_) rfl (by kernel_rfl) (by kernel_rfl) (by kernel_rfl) (fun _ _ _ h => h) (Or.inl ⟨by rfl, ?_⟩) (by assumption) ?_
        rotate_left
        · (intro wS hS; obtain ⟨z0, z1, z2, z3, z4, z5, z6, z7⟩ := hk.out _ hS; go_simp; try with_reducible rfl)
        simp only [List.getElem_toArray, List.getElem_cons_succ, List.getElem_cons_zero, Act.put, List.setIfInBounds_toArray, List.set_cons_zero, List.set_cons_succ]
        refine wpAnyH_take (i := 16) (v := ?_) rfl (by kernel_rfl) (by kernel_rfl) (by kernel_rfl) (fun _ _ _ h => h) (Or.inl ⟨by rfl, ?_⟩) (by assumption) ?_
        rotate_left
        · (intro wS hS; obtain ⟨z0, z1, z2, z3, z4, z5, z6, z7⟩ := hk.out _ hS; go_simp; try with_reducible rfl)
        simp only [List.getElem_toArray, List.getElem_cons_succ, List.getElem_cons_zero, Act.put, List.setIfInBounds_toArray, List.set_cons_zero, List.set_cons_succ]
        refine wpAnyH_take (i := 17) (v := ?_) rfl (by kernel_rfl) (by kernel_rfl) (by kernel_rfl) (fun _ _ _ h => h) (Or.inl ⟨by rfl, ?_⟩) (by assumption) ?_
        rotate_left
        · (intro wS hS; obtain ⟨z0, z1, z2, z3, z4, z5, z6, z7⟩ := hk.out _ hS; go_simp; try with_reducible rfl)
        simp only [List.getElem_toArray, List.getElem_cons_succ, List.getElem_cons_zero, Act.put, List.setIfInBounds_toArray, List.set_cons_zero, List.set_cons_succ]
        refine wpAnyH_take (i := 18) (v := ?_) rfl (by kernel_rfl) (by kernel_rfl) (by kernel_rfl) (fun _ _ _ h => h) (Or.inl ⟨by rfl, ?_⟩) (by assumption) ?_
        rotate_left
        · (intro wS hS; obtain ⟨z0, z1, z2, z3, z4, z5, z6, z7⟩ := hk.out _ hS; go_simp; try with_reducible rfl)
        simp only [List.getElem_toArray, List.getElem_cons_succ, List.getElem_cons_zero, Act.put, List.setIfInBounds_toArray, List.set_cons_zero, List.set_cons_succ]
        refine wpAnyH_take (i := 19) (v := ?_) rfl (by kernel_rfl) (by kernel_rfl) (by kernel_rfl) (fun _ _ _ h => h) (Or.inl ⟨by rfl, ?_⟩) (by assumption) ?_
        rotate_left
        · (intro wS hS; obtain ⟨z0, z1, z2, z3, z4, z5, z6, z7⟩ := hk.out _ hS; go_simp; try with_reducible rfl)
        simp only [List.getElem_toArray, List.getElem_cons_succ, List.getElem_cons_zero, Act.put, List.setIfInBounds_toArray, List.set_cons_zero, List.set_cons_succ]
        refine wpAnyH_take (i := 20) (v := ?_) rfl (by kernel_rfl) (by kernel_rfl) (by kernel_rfl) (fun _ _ _ h => h) (Or.inl ⟨by rfl, ?_⟩) (by assumption) ?_
        rotate_left
        · (intro wS hS; obtain ⟨z0, z1, z2, z3, z4, z5, z6, z7⟩ := hk.out _ hS; go_simp; try with_reducible rfl)
        simp only [List.getElem_toArray, List.getElem_cons_succ, List.getElem_cons_zero, Act.put, List.setIfInBounds_toArray, List.set_cons_zero, List.set_cons_succ]
        refine wpAnyH_done (by kernel_rfl) ?_ _
        go_wp2_with (fail)
        go_meet
        exact ⟨by first | rfl | rw [hl], by rw [HfE.out], hHeld⟩
      · have hl := Bool.eq_false_iff.2 hl
        have hfE : hfull s L Z fl (cn * K) = false := by unfold hfull; rw [hFd, hl, Bool.false_or, Bool.false_and]
        have HfE := Lib.hid hfE
        clear hfE
        refine wp_region_held_drew (S := (fun W => Ch (fun _ => False) W0 W)) (by kernel_rfl) (by exact hd.drew) (fun hHeld => ?_)
        refine wpAnyH_take (i := 0) (v := ?_) rfl (by kernel_rfl) (by kernel_rfl) (by kernel_rfl) (fun _ _ _ h => h) (Or.inl ⟨by rfl, ?_⟩) (by assumption) ?_
        rotate_left
        · (intro wS hS; obtain ⟨z0, z1, z2, z3, z4, z5, z6, z7⟩ := hk.out _ hS; go_simp; try with_reducible rfl)
        simp only [List.getElem_toArray, List.getElem_cons_succ, List.getElem_cons_zero, Act.put, List.setIfInBounds_toArray, List.set_cons_zero, List.set_cons_succ]
        refine wpAnyH_take (i := 1) (v := ?_) rfl (by kernel_rfl) (by kernel_rfl) (by kernel_rfl) (fun _ _ _ h => h) (Or.inl ⟨by rfl, ?_⟩) (by assumption) ?_
        rotate_left
        · (intro wS hS; obtain ⟨z0, z1, z2, z3, z4, z5, z6, z7⟩ := hk.out _ hS; go_simp; try with_reducible rfl)
        simp only [List.getElem_toArray, List.getElem_cons_succ, List.getElem_cons_zero, Act.put, List.setIfInBounds_toArray, List.set_cons_zero, List.set_cons_succ]
        refine wpAnyH_take (i := 4) (v := ?_) rfl (by kernel_rfl) (by kernel_rfl) (by kernel_rfl) (fun _ _ _ h => h) (Or.inl ⟨by rfl, ?_⟩) (by assumption) ?_
        rotate_left
        · (intro wS hS; obtain ⟨z0, z1, z2, z3, z4, z5, z6, z7⟩ := hk.out _ hS; go_simp; try with_reducible rfl)
        simp only [List.getElem_toArray, List.getElem_cons_succ, List.getElem_cons_zero, Act.put, List.setIfInBounds_toArray, List.set_cons_zero, List.set_cons_succ]
        refine wpAnyH_take (i := 5) (v := ?_) rfl (by kernel_rfl) (by kernel_rfl) (by kernel_rfl) (fun _ _ _ h => h) (Or.inl ⟨by rfl, ?_⟩) (by assumption) ?_
        rotate_left
        · (intro wS hS; obtain ⟨z0, z1, z2, z3, z4, z5, z6, z7⟩ := hk.out _ hS; go_simp; try with_reducible rfl)
        simp only [List.getElem_toArray, List.getElem_cons_succ, List.getElem_cons_zero, Act.put, List.setIfInBounds_toArray, List.set_cons_zero, List.set_cons_succ]
        refine wpAnyH_take (i := 6) (v := ?_) rfl (by kernel_rfl) (by kernel_rfl) (by kernel_rfl) (fun _ _ _ h => h) (Or.inl ⟨by rfl, ?_⟩) (by assumption) ?_
        rotate_left
        · (intro wS hS; obtain ⟨z0, z1, z2, z3, z4, z5, z6, z7⟩ := hk.out _ hS; go_simp; try with_reducible rfl)
        simp only [List.getElem_toArray, List.getElem_cons_succ, List.getElem_cons_zero, Act.put, List.setIfInBounds_toArray, List.set_cons_zero, List.set_cons_succ]
        refine wpAnyH_take (i := 7) (v := ?_) rfl (by kernel_rfl) (by kernel_rfl) (by kernel_rfl) (fun _ _ _ h => h) (Or.inl ⟨by rfl, ?_⟩) (by assumption) ?_
        rotate_left
        · (intro wS hS; obtain ⟨z0, z1, z2, z3, z4, z5, z6, z7⟩ := hk.out _ hS; go_simp; try with_reducible rfl)
        simp only [List.getElem_toArray, List.getElem_cons_succ, List.getElem_cons_zero, Act.put, List.setIfInBounds_toArray, List.set_cons_zero, List.set_cons_succ]
        refine wpAnyH_ready (rs := [2]) (by kernel_rfl) (by simp) (AllReadyH.cons rfl (fun K hK => ?_) AllReadyH.nil)
        go_simp; go_at_call 29; refine (HL.out _).mono ?_; rintro e w6 ⟨rfl, c6⟩; replace c6 := hHeld.then c6; clear hHeld
        refine hK.out _ _ (by exact c6) (fun hHeld => ?_)
        clear hK K
        refine wpAnyH_take (i := 3) (v := ?_) rfl (by kernel_rfl) (by kernel_rfl) (by kernel_rfl) (fun _ _ _ h => h) (Or.inl ⟨by rfl, ?_⟩) (by assumption) ?_
        rotate_left
        · (intro wS hS; obtain ⟨z0, z1, z2, z3, z4, z5, z6, z7⟩ := hk.out _ hS; go_simp; try with_reducible rfl)
        simp only [List.getElem_toArray, List.getElem_cons_succ, List.getElem_cons_zero, Act.put, List.setIfInBounds_toArray, List.set_cons_zero, List.set_cons_succ]
        refine wpAnyH_ready (rs := [8]) (by kernel_rfl) (by simp) (AllReadyH.cons rfl (fun K hK => ?_) AllReadyH.nil)
        go_simp; go_at_call 19; refine (HN.out _ (C0.then hHeld)).mono ?_; rintro e w7 ⟨rfl, rfl⟩; have c6 := hHeld; clear hHeld
        refine hK.out _ _ (by exact c6) (fun hHeld => ?_)
        clear hK K
        refine wpAnyH_ready (rs := [9]) (by kernel_rfl) (by simp) (AllReadyH.cons rfl (fun K hK => ?_) AllReadyH.nil)
        go_simp; go_at_call 23; refine (HS.out _ (C0.then hHeld)).mono ?_; rintro e w7 ⟨rfl, rfl⟩; have c6 := hHeld; clear hHeld
        refine hK.out _ _ (by exact c6) (fun hHeld => ?_)
        clear hK K
        refine wpAnyH_take (i := 10) (v := ?_) rfl (by kernel_rfl) (by kernel_rfl) (by kernel_rfl) (fun _ _ _ h => h) (Or.inl ⟨by rfl, ?_⟩) (by assumption) ?_
        rotate_left
        · (intro wS hS; obtain ⟨z0, z1, z2, z3, z4, z5, z6, z7⟩ := hk.out _ hS; go_simp; try with_reducible rfl)
        simp only [List.getElem_toArray, List.getElem_cons_succ, List.getElem_cons_zero, Act.put, List.setIfInBounds_toArray, List.set_cons_zero, List.set_cons_succ]
        refine wpAnyH_take (i := 11) (v := ?_) rfl (by kernel_rfl) (by kernel_rfl) (by kernel_rfl) (fun _ _ _ h => h) (Or.inl ⟨by rfl, ?_⟩) (by assumption) ?_
        rotate_left
        · (intro wS hS; obtain ⟨z0, z1, z2, z3, z4, z5, z6, z7⟩ := hk.out _ hS; go_simp; try with_reducible rfl)
        simp only [List.getElem_toArray, List.getElem_cons_succ, List.getElem_cons_zero, Act.put, List.setIfInBounds_toArray, List.set_cons_zero, List.set_cons_succ]
        refine wpAnyH_take (i := 12) (v := ?_) rfl (by kernel_rfl) (by kernel_rfl) (by kernel_rfl) (fun _ _ _ h => h) (Or.inl ⟨by rfl, ?_⟩) (by assumption) ?_
        rotate_left
        · (intro wS hS; obtain ⟨z0, z1, z2, z3, z4, z5, z6, z7⟩ := hk.out _ hS; go_simp; try with_reducible rfl)
        simp only [List.getElem_toArray, List.getElem_cons_succ, List.getElem_cons_zero, Act.put, List.setIfInBounds_toArray, List.set_cons_zero, List.set_cons_succ]
        refine wpAnyH_take (i := 13) (v := ?_) rfl (by kernel_rfl) (by kernel_rfl) (by kernel_rfl) (fun _ _ _ h => h) (Or.inl ⟨by rfl, ?_⟩) (by assumption) ?_
        rotate_left
        · (intro wS hS; obtain ⟨z0, z1, z2, z3, z4, z5, z6, z7⟩ := hk.out _ hS; go_simp; try with_reducible rfl)
        simp only [List.getElem_toArray, List.getElem_cons_succ, List.getElem_cons_zero, Act.put, List.setIfInBounds_toArray, List.set_cons_zero, List.set_cons_succ]
        refine wpAnyH_take (i := 14) (v := ?_) rfl (by kernel_rfl) (by kernel_rfl) (by kernel_rfl) (fun _ _ _ h => h) (Or.inl ⟨by rfl, ?_⟩) (by assumption) ?_
        rotate_left
        · (intro wS hS; obtain ⟨z0, z1, z2, z3, z4, z5, z6, z7⟩ := hk.out _ hS; go_simp; try with_reducible rfl)
        simp only [List.getElem_toArray, List.getElem_cons_succ, List.getElem_cons_zero, Act.put, List.setIfInBounds_toArray, List.set_cons_zero, List.set_cons_succ]
        refine wpAnyH_take (i := 15) (v := undef) rfl (by kernel_rfl) (by kernel_rfl) (by kernel_rfl) (fun _ _ _ h => h) (Or.inr ⟨by kernel_rfl, rfl⟩) (by assumption) ?_
        simp only [List.getElem_toArray, List.getElem_cons_succ, List.getElem_cons_zero, Act.put, List.setIfInBounds_toArray, List.set_cons_zero, List.set_cons_succ]
        refine wpAnyH_take (i := 16) (v := undef) rfl (by kernel_rfl) (by kernel_rfl) (by kernel_rfl) (fun _ _ _ h => h) (Or.inr ⟨by kernel_rfl, rfl⟩) (by assumption) ?_
        simp only [List.getElem_toArray, List.getElem_cons_succ, List.getElem_cons_zero, Act.put, List.setIfInBounds_toArray, List.set_cons_zero, List.set_cons_succ]
        refine wpAnyH_take (i := 17) (v := undef) rfl (by kernel_rfl) (by kernel_rfl) (by kernel_rfl) (fun _ _ _ h => h) (Or.inr ⟨by kernel_rfl, rfl⟩) (by assumption) ?_
        simp only [List.getElem_toArray, List.getElem_cons_succ, List.getElem_cons_zero, Act.put, List.setIfInBounds_toArray, List.set_cons_zero, List.set_cons_succ]
        refine wpAnyH_take (i := 18) (v := undef) rfl (by kernel_rfl) (by kernel_rfl) (by kernel_rfl) (fun _ _ _ h => h) (Or.inr ⟨by kernel_rfl, rfl⟩) (by assumption) ?_
        simp only [List.getElem_toArray, List.getElem_cons_succ, List.getElem_cons_zero, Act.put, List.setIfInBounds_toArray, List.set_cons_zero, List.set_cons_succ]
        refine wpAnyH_take (i := 19) (v := ?_) rfl (by kernel_rfl) (by kernel_rfl) (by kernel_rfl) (fun _ _ _ h => h) (Or.inl ⟨by rfl, ?_⟩) (by assumption) ?_
        rotate_left
        · (intro wS hS; obtain ⟨z0, z1, z2, z3, z4, z5, z6, z7⟩ := hk.out _ hS; go_simp; try with_reducible rfl)
        simp only [List.getElem_toArray, List.getElem_cons_succ, List.getElem_cons_zero, Act.put, List.setIfInBounds_toArray, List.set_cons_zero, List.set_cons_succ]
        refine wpAnyH_take (i := 20) (v := ?_) rfl (by kernel_rfl) (by kernel_rfl) (by kernel_rfl) (fun _ _ _ h => h) (Or.inl ⟨by rfl, ?_⟩) (by assumption) ?_
        rotate_left
        · (intro wS hS; obtain ⟨z0, z1, z2, z3, z4, z5, z6, z7⟩ := hk.out _ hS; go_simp; try with_reducible rfl)
        simp only [List.getElem_toArray, List.getElem_cons_succ, List.getElem_cons_zero, Act.put, List.setIfInBounds_toArray, List.set_cons_zero, List.set_cons_succ]
        refine wpAnyH_done (by kernel_rfl) ?_ _
        go_wp2_with (fail)
        go_meet
        exact ⟨by first | rfl | rw [hl], by rw [HfE.out], hHeld⟩
  case rest => as_aux_lemma =>
    obtain ⟨rfl, rfl, hd⟩ := hcut
    clear HN HS
    generalize hf : hfull s L Z fl (cn * K) = g at ⊢
    cases g with
    | true =>
      have hE : hmk s m L ⟨kd, cl, el, ow, fl, cn⟩ Z K = (s, m, 0, 11) := by unfold hmk; rw [if_pos hf]
      have HE := Lib.hid hE
      clear hE hf
      go_wp2_with (fail)
      refine bodyPost_ret (v := .tuple #[.int .i64 0, .int .i64 11]) (by simp [results, Try.results8, go_sem]) rfl ?_
      rw [HE.out]
      exact ⟨rfl, h.gr (C0.then hd), (C0.then hd).gr⟩
    | false =>
      have hE : hmk s m L ⟨kd, cl, el, ow, fl, cn⟩ Z K = hmkf s m ⟨kd, cl, el, ow, fl, cn⟩ Z (cn * K) (runs (rawws (hw s 256) (hwf ⟨kd, cl, el, ow, fl, cn⟩ Z (hw s 257))) s) := by unfold hmk; rw [if_neg (by rw [hf]; decide)]
      have HE := Lib.hid hE
      clear hE
      have HNF := Lib.hid (hfull_no hf)
      clear hf
      obtain ⟨n, rfl⟩ := Int.eq_ofNat_of_zero_le (show 0 ≤ Z by omega)
      have hn4 : 4 ≤ n := by omega
      have hmw := fun wx => run_makeWords wx n (by omega)
      have hn0 : (0 : Int) < n := by omega
      have hn1 : (1 : Int) < n := by omega
      have hn2 : (2 : Int) < n := by omega
      have hn3 : (3 : Int) < n := by omega
      obtain ⟨z0, z1, z2, z3, z4, z5, z6, z7⟩ := hk.out _ hd
      go_upto_region 14 with (go_at_call 29; refine (HL.out _).mono ?_; rintro e w6 ⟨rfl, c6⟩)
      have hd7 := (hd.then c6).alloc (.cells (cw (List.replicate n 0)) 22)
      have hBn := Blk.new w6 (cw (List.replicate n 0)) 22
      have hlen0 : (List.replicate n (0 : Int)).length = n := by simp
      have hBW : W0.heap.size ≤ w6.heap.size := (hd.then c6).size
      generalize hl0 : List.replicate n (0 : Int) = l0 at hd7 hBn hlen0 ⊢
      clear hmw z0 z1 z2 z3 z4 z5 z6 z7 c6 hd
      generalize w6.alloc (.cells (cw l0) 22) = w7 at hd7 hBn ⊢
      generalize w6.heap.size = Bw at hBn hBW ⊢
      have q0 : w7.cell? ⟨Bw, 0, none⟩ = some (.int .u16 (l0.getD 0 0)) := by rw [hBn.cell]; exact cw_get _ _ (by omega)
      have q1 : w7.cell? ⟨Bw, 1, none⟩ = some (.int .u16 (l0.getD 1 0)) := by rw [hBn.cell]; exact cw_get _ _ (by omega)
      have q2 : w7.cell? ⟨Bw, 2, none⟩ = some (.int .u16 (l0.getD 2 0)) := by rw [hBn.cell]; exact cw_get _ _ (by omega)
      have f0' : w7.frozen? ⟨Bw, 0, none⟩ = false := hBn.free 0
      have f1' : w7.frozen? ⟨Bw, 1, none⟩ = false := hBn.free 1
      have f2' : w7.frozen? ⟨Bw, 2, none⟩ = false := hBn.free 2
      obtain ⟨z0, z1, z2, z3, z4, z5, z6, z7⟩ := hk.out _ hd7
      have hL0 := Lib.hid hl0
      have HLn := Lib.hid hlen0
      clear hl0 hlen0
      go_region
      go_upto_region 15 with (fail)
      have e1 : bits BinOp.or IntKind.u16 (IntKind.u16.wrap (IntKind.u16.wrap ow * 256)) (IntKind.u16.wrap fl) = 256 * ow + fl := by
        obtain ⟨_, _, _, _, _, x5, x6, x7, _, _⟩ := HX.out
        rw [wr16 (x := ow) (by omega) (by omega), wr16 (x := ow * 256) (by omega) (by omega), wr16 (x := fl) (by omega) (by omega)]
        exact Ram.or_join x6 x7 f0 (by omega)
      rw [e1]
      clear e1
      generalize ha0e : IntKind.u16.wrap cl = a0 at ⊢
      have HA0 := Lib.hid ha0e
      clear ha0e
      have hd8 := ((((hd7.setCell (p := ⟨Bw, 0, none⟩) (Or.inr (by simpa using hBW)) (.int .u16 a0)).setCell (p := ⟨Bw, 1, none⟩) (Or.inr (by simpa using hBW)) (.int .u16 (256 * ow + fl)))).setCell (p := ⟨Bw, 2, none⟩) (Or.inr (by simpa using hBW)) (.int .u16 cn)).drew
      have hB8 := (((hBn.set 0 (.int .u16 a0)).set 1 (.int .u16 (256 * ow + fl))).set 2 (.int .u16 cn)).drew
      rw [cw_set, cw_set, cw_set] at hB8
      clear q0 q1 q2 f0' f1' f2' z0 z1 z2 z3 z4 z5 z6 z7 hBn
      generalize (((w7.setCell ⟨Bw, 0, none⟩ (.int .u16 a0)).setCell ⟨Bw, 1, none⟩ (.int .u16 (256 * ow + fl))).setCell ⟨Bw, 2, none⟩ (.int .u16 cn)).drew = w8 at hd8 hB8 ⊢
      obtain ⟨F0, HF⟩ : ∃ F0, Hid ((if kd = 4 then cl else 32768 + kd) = F0) := ⟨_, Lib.hid rfl⟩
      obtain ⟨z0, z1, z2, z3, z4, z5, z6, z7⟩ := hk.out _ hd8
      have q0 : w8.cell? ⟨Bw, 0, none⟩ = some (.int .u16 ((((l0.set 0 a0).set 1 (256 * ow + fl)).set 2 cn).getD 0 0)) := by rw [hB8.cell]; exact cw_get _ _ (by simp [HLn.out]; omega)
      have f0' : w8.frozen? ⟨Bw, 0, none⟩ = false := hB8.free 0
      have hkw : IntKind.u16.wrap kd = kd := by obtain ⟨x0, x1, _⟩ := HX.out; exact wr16 (by omega) (by omega)
      have hok : bits .or .u16 32768 kd = 32768 + kd := by obtain ⟨x0, x1, _⟩ := HX.out; exact or_kind x0 x1
      have hew : IntKind.u16.wrap el = el := by obtain ⟨_, _, _, x3, x4, _⟩ := HX.out; exact wr16 (by omega) (by omega)
      go_upto_if 88 with (fail)
      clear z0 z1 z2 z3 z4 z5 z6 z7
      go_cut [11] (fun u11 wx => u11 = .slice (some ⟨Bw, 0, none⟩) n n ∧ Blk wx Bw (cw (((l0.set 0 F0).set 1 (256 * ow + fl)).set 2 cn)) 22 ∧ Ch (fun _ => False) W0 wx)
      case first => as_aux_lemma =>
        obtain ⟨z0, z1, z2, z3, z4, z5, z6, z7⟩ := hk.out _ hd8
        by_cases h4 : kd = 4
        · have hb4 : (kd != 4) = false := by simp [h4]
          have eF : a0 = F0 := by
            obtain ⟨_, _, x2, _⟩ := HX.out
            have := x2 h4
            rw [← HF.out, if_pos h4, ← HA0.out]
            exact wr16 (by omega) (by omega)
          have HE4 := Lib.hid eF
          clear eF h4
          go_wp2_with (fail)
          go_meet
          exact ⟨rfl, HE4.out ▸ hB8, hd8⟩
        · have hb4 : (kd != 4) = true := by simp [h4]
          have eF : 32768 + kd = F0 := by rw [← HF.out, if_neg h4]
          have HE4 := Lib.hid eF
          clear eF h4
          go_wp2_with (fail)
          go_meet
          refine ⟨rfl, ?_, hd8.setCell (Or.inr (by simpa using hBW)) _⟩
          have := hB8.set 0 (.int .u16 (32768 + kd))
          rw [cw_set, sets_over, HE4.out] at this
          rw [HE4.out]
          exact this
      case rest => as_aux_lemma =>
        obtain ⟨rfl, hB9, hd9⟩ := hcut
        clear q0 f0' hkw hok hB8 hd8
        obtain ⟨G0, HG⟩ : ∃ G0, Hid ((if (fl % 4 != 0) = true then hw s 257 else el) = G0) := ⟨_, Lib.hid rfl⟩
        obtain ⟨z0, z1, z2, z3, z4, z5, z6, z7⟩ := hk.out _ hd9
        have hl9 : (((l0.set 0 F0).set 1 (256 * ow + fl)).set 2 cn).length = n := by simp [HLn.out]
        generalize he9 : ((l0.set 0 F0).set 1 (256 * ow + fl)).set 2 cn = l9 at hB9 hl9
        have q3 : wc.cell? ⟨Bw, 3, none⟩ = some (.int .u16 (l9.getD 3 0)) := by rw [hB9.cell]; exact cw_get _ _ (by omega)
        have f3' : wc.frozen? ⟨Bw, 3, none⟩ = false := hB9.free 3
        have HE9 := Lib.hid he9
        have HL9 := Lib.hid hl9
        clear he9 hl9
        go_upto_if 100 with (fail)
        have hB10 := hB9.set 3 (.int .u16 el)
        rw [cw_set] at hB10
        have hd10 := hd9.setCell (p := ⟨Bw, 3, none⟩) (Or.inr (by simpa using hBW)) (.int .u16 el)
        clear q3 f3' hB9 hd9 z0 z1 z2 z3 z4 z5 z6 z7 hew
        generalize wc.setCell ⟨Bw, 3, none⟩ (.int .u16 el) = w10 at hB10 hd10 ⊢
        go_cut [11] (fun u11 wx => u11 = .slice (some ⟨Bw, 0, none⟩) n n ∧ Blk wx Bw (cw (l9.set 3 G0)) 22 ∧ Ch (fun _ => False) W0 wx)
        case first => as_aux_lemma =>
          by_cases hl : (fl % 4 != 0) = true
          · have eG : hw s 257 = G0 := by rw [← HG.out, if_pos hl]
            have HE4 := Lib.hid eG
            have q3 : w10.cell? ⟨Bw, 3, none⟩ = some (.int .u16 ((l9.set 3 el).getD 3 0)) := by rw [hB10.cell]; exact cw_get _ _ (by have := HL9.out; simp; omega)
            have f3' : w10.frozen? ⟨Bw, 3, none⟩ = false := hB10.free 3
            clear eG
            go_wp2_with (fail)
            go_meet
            refine ⟨rfl, ?_, hd10.setCell (Or.inr (by simpa using hBW)) _⟩
            have := hB10.set 3 (.int .u16 (hw s 257))
            rw [cw_set, List.set_set, HE4.out] at this
            rw [HE4.out]
            exact this
          · have eG : el = G0 := by rw [← HG.out, if_neg hl]
            have HE4 := Lib.hid eG
            have hl := Bool.eq_false_iff.2 hl
            clear eG
            go_wp2_with (fail)
            go_meet
            refine ⟨rfl, ?_, hd10⟩
            rw [← HE4.out]
            exact hB10
        case rest => as_aux_lemma =>
          obtain ⟨rfl, hB11, hd11⟩ := hcut
          clear hB10 hd10
          have hws : l9.set 3 G0 = hwf ⟨kd, cl, el, ow, fl, cn⟩ n (hw s 257) := by
            rw [← HE9.out, ← hL0.out, sets4 n hn4, ← HF.out, ← HG.out]
            rfl
          have hln : (l9.set 3 G0).length = n := by simp [HL9.out]
          have h16 : W16 (l9.set 3 G0) := by
            obtain ⟨x0, x1, x2, x3, x4, x5, x6, x7, x8, x9⟩ := HX.out
            rw [hws]
            intro y hy
            unfold hwf at hy
            simp only [List.cons_append, List.nil_append, List.mem_cons, List.mem_replicate] at hy
            rcases hy with rfl | rfl | rfl | rfl | ⟨_, rfl⟩
            · split <;> omega
            · omega
            · omega
            · split <;> omega
            · omega
          generalize hl4 : l9.set 3 G0 = l4 at hws hln h16 hB11
          have hrem : Rem (hw s 256) l4 s (runs (rawws (hw s 256) l4) s).1 (runs (rawws (hw s 256) l4) s).2 := rfl
          have hres := HE.out
          rw [← hws] at hres
          generalize runs (rawws (hw s 256) l4) s = rr at hres hrem
          obtain ⟨rs, re⟩ := rr
          dsimp only at hrem
          have HRES := Lib.hid hres
          clear HE hres hws hl4 HF HG HE9 HL9 HA0 hL0 HLn
          have hx11 := h.gr (C0.then hd11)
          have HLN := Lib.hid hln
          have HW16 := Lib.hid h16
          clear hln h16
          go_wp2_with (fail)
          have hnB : ¬ Hb F H T R Bw := fun hk => by have := h.lt _ hk; have := C0.size; omega
          go_loopg [107] n (fun q i wl => ∃ k : Nat, ∃ s1 : St, k + q ≤ n ∧ n ≤ k + q ∧ i = .int .i64 k ∧ Hx wl F H T N R L s1 m ∧ Blk wl Bw (cw l4) 22 ∧ Ch (Hb F H T R) W0 wl ∧ Rem (hw s 256 + k) (l4.drop k) s1 rs re)
          case atStart => exact ⟨0, s, by omega, by omega, rfl, hx11, hB11, hd11.gr, by simpa using hrem⟩
          case round => as_aux_lemma =>
            clear hx11 hB11 hd11 hrem
            obtain ⟨k, s1, hk1, hk2, rfl, hx1, hB1, hd1, hr1⟩ := hrel
            by_cases hlt : 0 < gk
            · have hkn : (k : Int) < n := by omega
              have hlen := HLN.out
              have hv := W16.at HW16.out k
              have hdr : l4.drop k = l4.getD k 0 :: l4.drop (k + 1) := by
                rw [List.drop_eq_getElem_cons (by omega), List.getD_eq_getElem?_getD, List.getElem?_eq_getElem (by omega)]
                rfl
              have qk : wr.cell? ⟨Bw, k, none⟩ = some (.int .u16 (l4.getD k 0)) := by rw [hB1.cell]; exact cw_get _ _ (by omega)
              rw [hdr] at hr1
              clear hdr hlen
              generalize l4.getD k 0 = v at hv hr1 qk
              obtain ⟨v0, v1⟩ := hv
              go_wp2_with (fail)
              clear qk
              have ix0 : ∀ w, (Instr.index 76 (.agg #[.int .u8 (v / 256), .int .u8 (v % 256)]) (.int .i64 0)).run Try.prog w = .ok (.int .u8 (v / 256)) w := fun _ => by kernel_rfl
              have ix1 : ∀ w, (Instr.index 76 (.agg #[.int .u8 (v / 256), .int .u8 (v % 256)]) (.int .i64 1)).run Try.prog w = .ok (.int .u8 (v % 256)) w := fun _ => by kernel_rfl
              obtain ⟨g1, HG1⟩ : ∃ g1, Hid (g1 = gk) := ⟨_, Lib.hid rfl⟩
              go_loopg [118] 2 (fun q j wi => (q = 2 ∧ j = .int .i64 0 ∧ wi = wr) ∨ (q = 1 ∧ j = .int .i64 1 ∧ ∃ s2 : St, Hx wi F H T N R L s2 m ∧ Blk wi Bw (cw l4) 22 ∧ Ch (Hb F H T R) W0 wi ∧ Rem1 (hw s 256 + k) v (l4.drop (k + 1)) s2 rs re) ∨
                (q = 0 ∧ j = .int .i64 2 ∧ ∃ s3 : St, Hx wi F H T N R L s3 m ∧ Blk wi Bw (cw l4) 22 ∧ Ch (Hb F H T R) W0 wi ∧ Rem (hw s 256 + k + 1) (l4.drop (k + 1)) s3 rs re))
              case atStart => exact Or.inl ⟨rfl, rfl, rfl⟩
              case round => as_aux_lemma =>
                rcases hrel with ⟨hq, rfl, rfl⟩ | ⟨hq, rfl, s2, hx2, hB2, hd2, hr2⟩ | ⟨hq, rfl, s3, hx3, hB3, hd3, hr3⟩
                · have hT := traw_tx hx1.t (2 * (hw s 256 + k)) (v / 256) (by omega) (by omega) (by omega)
                  have hno := hr1.no
                  have hgo := hr1.go
                  generalize traw s1 (2 * (hw s 256 + k)) (v / 256) = y at hT hno hgo
                  obtain ⟨s2, e2⟩ := y
                  dsimp only at hno hgo
                  have HT := Lib.hid hT
                  have HNO := Lib.hid hno
                  have HGO := Lib.hid hgo
                  clear hT hno hgo hr1
                  have k0 := hx1.c0
                  by_cases hz : e2 = 0
                  · subst hz
                    go_wp2_with (go_at_call 30; refine HT.out.mono ?_; rintro e w2 ⟨rfl, d1, d2⟩)
                    go_roundg 1
                    case measure => omega
                    case rel => exact Or.inr (Or.inl ⟨rfl, rfl, s2, hx1.mem d1 d2, hB1.ch d2 (fun hk => hnB (Or.inl hk)), hd1.then (d2.mono (fun _ hk => Or.inl hk)), HGO.out trivial⟩)
                  · have b0 : (e2 != 0) = true := by rw [bne_iff_ne]; exact hz
                    have HZ := Lib.hid hz
                    clear hz
                    go_wp2_with (go_at_call 30; refine HT.out.mono ?_; rintro e w2 ⟨rfl, d1, d2⟩)
                    refine bodyPost_ret (v := .tuple #[.int .i64 0, .int .i64 e2]) (by simp [results, Try.results8, go_sem]) rfl ?_
                    obtain ⟨rfl, rfl⟩ := Prod.mk.inj (HNO.out HZ.out)
                    rw [HRES.out, hmkf_no _ _ _ _ _ HZ.out]
                    exact ⟨rfl, hx1.mem d1 d2, C0.gr.then (hd1.then (d2.mono (fun _ hk => Or.inl hk)))⟩
                · have hT := traw_tx hx2.t (2 * (hw s 256 + k) + 1) (v % 256) (by omega) (by omega) (by omega)
                  have hno := hr2.no
                  have hgo := hr2.go
                  generalize traw s2 (2 * (hw s 256 + k) + 1) (v % 256) = y at hT hno hgo
                  obtain ⟨s3, e2⟩ := y
                  dsimp only at hno hgo
                  have HT := Lib.hid hT
                  have HNO := Lib.hid hno
                  have HGO := Lib.hid hgo
                  clear hT hno hgo hr2
                  have k0 := hx2.c0
                  by_cases hz : e2 = 0
                  · subst hz
                    go_wp2_with (go_at_call 30; refine HT.out.mono ?_; rintro e w2 ⟨rfl, d1, d2⟩)
                    go_roundg 0
                    case measure => omega
                    case rel => exact Or.inr (Or.inr ⟨rfl, rfl, s3, hx2.mem d1 d2, hB2.ch d2 (fun hk => hnB (Or.inl hk)), hd2.then (d2.mono (fun _ hk => Or.inl hk)), HGO.out trivial⟩)
                  · have b0 : (e2 != 0) = true := by rw [bne_iff_ne]; exact hz
                    have HZ := Lib.hid hz
                    clear hz
                    go_wp2_with (go_at_call 30; refine HT.out.mono ?_; rintro e w2 ⟨rfl, d1, d2⟩)
                    refine bodyPost_ret (v := .tuple #[.int .i64 0, .int .i64 e2]) (by simp [results, Try.results8, go_sem]) rfl ?_
                    obtain ⟨rfl, rfl⟩ := Prod.mk.inj (HNO.out HZ.out)
                    rw [HRES.out, hmkf_no _ _ _ _ _ HZ.out]
                    exact ⟨rfl, hx2.mem d1 d2, C0.gr.then (hd2.then (d2.mono (fun _ hk => Or.inl hk)))⟩
                · go_wp2_with (fail)
                  go_roundg (g1 - 1)
                  case measure => have := HG1.out; omega
                  case rel => exact ⟨k + 1, s3, by have := HG1.out; omega, by have := HG1.out; omega, by go_num, hx3, hB3, hd3, by rw [show hw s 256 + ((k + 1 : Nat) : Int) = hw s 256 + k + 1 by omega]; exact hr3⟩
            · have hkn : ¬ ((k : Int) < n) := by omega
              have hke : l4.drop k = [] := List.drop_eq_nil_of_le (by have := HLN.out; omega)
              rw [hke] at hr1
              obtain ⟨rfl, rfl⟩ := hr1.nil
              clear hke hr1
              clear hk1 hk2 hlt
              have hBx := hd1
              go_upto_if 139 with (fail)
              have hd2 := hd1
              clear hd1 hB1
              generalize hP : hmkf s m ⟨kd, cl, el, ow, fl, cn⟩ n (cn * K) (rs, 0) = P0 at HRES
              have hP' : (if (fl % 4 != 0) = true then
                  (if (tput rs 257 (hw s 257 + cn * K)).2 ≠ 0 then ((tput rs 257 (hw s 257 + cn * K)).1, (rclear m (hw s 257) (cn * K)).1, 0, (tput rs 257 (hw s 257 + cn * K)).2)
                   else if (tput (tput rs 257 (hw s 257 + cn * K)).1 256 (hw s 256 + n)).2 ≠ 0 then ((tput (tput rs 257 (hw s 257 + cn * K)).1 256 (hw s 256 + n)).1, (rclear m (hw s 257) (cn * K)).1, 0, (tput (tput rs 257 (hw s 257 + cn * K)).1 256 (hw s 256 + n)).2)
                   else ((tput (tput rs 257 (hw s 257 + cn * K)).1 256 (hw s 256 + n)).1, (rclear m (hw s 257) (cn * K)).1, hw s 256, 0))
                else if (tput rs 256 (hw s 256 + n)).2 ≠ 0 then ((tput rs 256 (hw s 256 + n)).1, m, 0, (tput rs 256 (hw s 256 + n)).2)
                else ((tput rs 256 (hw s 256 + n)).1, m, hw s 256, 0)) = P0 := by
                rw [← hP]
                unfold hmkf
                rw [if_neg (c := (rs, (0 : Int)).2 ≠ 0) (by simp)]
                rfl
              have HP := Lib.hid hP'
              clear hP hP'
              obtain ⟨nf1, nf2⟩ := HNF.out
              have hU1 : IntKind.u16.wrap (hw s 256 + n) = hw s 256 + n := wr16 (by omega) (by omega)
              go_cut [10, 11, 139] (fun u10 u11 u139 wx => u10 = .bool (fl % 4 != 0) ∧ u11 = .slice (some ⟨Bw, 0, none⟩) n n ∧ u139 = .bool (fl % 4 != 0) ∧ Ch (Hb F H T R) W0 wx ∧ ∃ s4 m4, Hx wx F H T N R L s4 m4 ∧ (if (tput s4 256 (hw s 256 + n)).2 ≠ 0 then ((tput s4 256 (hw s 256 + n)).1, m4, 0, (tput s4 256 (hw s 256 + n)).2) else ((tput s4 256 (hw s 256 + n)).1, m4, hw s 256, 0)) = P0)
              case first => as_aux_lemma =>
                by_cases hl : (fl % 4 != 0) = true
                · have hp := HP.out
                  rw [if_pos hl] at hp
                  have HP' := Lib.hid hp
                  clear HP hp
                  have hU2 : IntKind.u16.wrap (hw s 257 + cn * K) = hw s 257 + cn * K := wr16 (by omega) (by have := nf2 hl; omega)
                  have c0 := hx1.c0
                  have c1 := hx1.c1
                  have hRC := Lib.hid (rclear_any hx1 (hw s 257) (cn * K))
                  have hb2 := nf2 hl
                  clear nf2
                  go_wp2_with (go_at_call 31; refine hRC.out.mono ?_; rintro e w2 ⟨rfl, hx2, d2⟩; clear hRC c0 c1; have c0 := hx2.c0)
                  have hT := tput_tx hx2.t 257 (hw s 257 + cn * K) (by omega) (by omega)
                  have hp := HP'.out
                  generalize tput rs 257 (hw s 257 + cn * K) = y at hT hp
                  obtain ⟨s4, e4⟩ := y
                  dsimp only at hp hx2
                  have d3 := hd2.then d2
                  clear d2 HP'
                  refine hT.mono ?_
                  rintro e w3 ⟨rfl, t1, d4⟩
                  have hx4 := hx2.mem t1 d4
                  have d5 := d3.then (d4.mono (fun _ hk => Or.inl hk))
                  clear hT t1 d4 d3 c0
                  by_cases hz : e4 = 0
                  · subst hz
                    rw [if_neg (by simp)] at hp
                    have HP' := Lib.hid hp
                    clear hp
                    go_wp2_with (fail)
                    go_meet
                    exact ⟨by first | rfl | rw [hl], rfl, by first | rfl | rw [hl], d5, s4, _, hx4, HP'.out⟩
                  · have b0 : (e4 != 0) = true := by rw [bne_iff_ne]; exact hz
                    rw [if_pos hz] at hp
                    have HP' := Lib.hid hp
                    clear hp hz
                    go_wp2_with (fail)
                    refine bodyPost_ret (v := .tuple #[.int .i64 0, .int .i64 e4]) (by simp [results, Try.results8, go_sem]) rfl ?_
                    rw [HRES.out, ← HP'.out]
                    exact ⟨rfl, hx4, C0.gr.then d5⟩
                · have hp := HP.out
                  rw [if_neg hl] at hp
                  have hl := Bool.eq_false_iff.2 hl
                  clear HP nf2
                  go_wp2_with (fail)
                  go_meet
                  exact ⟨by first | rfl | rw [hl], rfl, by first | rfl | rw [hl], hd2, rs, m, hx1, hp⟩
              case rest => as_aux_lemma =>
                obtain ⟨rfl, rfl, rfl, hd6, s4, m4, hx4, hp⟩ := hcut
                have HP4 := Lib.hid hp
                clear hp HP nf2 hx1 hd2 hBx
                go_upto_region 36 with (fail)
                refine wp_region_held_drew (S := (fun W => Ch (Hb F H T R) W0 W ∧ W.cell? ⟨H, 0, none⟩ = some (.pointer (some ⟨T, 0, none⟩)))) (by kernel_rfl) (by exact ⟨hd6.drew, (hx4.gr (Ch.refl _ _).drew).c0⟩) (fun hHeld => ?_)
                refine wpAnyH_take (i := 0) (v := ?_) rfl (by kernel_rfl) (by kernel_rfl) (by kernel_rfl) (fun _ _ _ h => h) (Or.inl ⟨by rfl, ?_⟩) (by assumption) ?_
                rotate_left
                · (intro wS hS; obtain ⟨z0, z1, z2, z3, z4, z5⟩ := hkx.out _ hS.1; have z6 := hS.2; go_simp; try with_reducible rfl)
                simp only [List.getElem_toArray, List.getElem_cons_succ, List.getElem_cons_zero, Act.put, List.setIfInBounds_toArray, List.set_cons_zero, List.set_cons_succ]
                refine wpAnyH_take (i := 1) (v := ?_) rfl (by kernel_rfl) (by kernel_rfl) (by kernel_rfl) (fun _ _ _ h => h) (Or.inl ⟨by rfl, ?_⟩) (by assumption) ?_
                rotate_left
                · (intro wS hS; obtain ⟨z0, z1, z2, z3, z4, z5⟩ := hkx.out _ hS.1; have z6 := hS.2; go_simp; try with_reducible rfl)
                simp only [List.getElem_toArray, List.getElem_cons_succ, List.getElem_cons_zero, Act.put, List.setIfInBounds_toArray, List.set_cons_zero, List.set_cons_succ]
                refine wpAnyH_take (i := 2) (v := ?_) rfl (by kernel_rfl) (by kernel_rfl) (by kernel_rfl) (fun _ _ _ h => h) (Or.inl ⟨by rfl, ?_⟩) (by assumption) ?_
                rotate_left
                · (intro wS hS; obtain ⟨z0, z1, z2, z3, z4, z5⟩ := hkx.out _ hS.1; have z6 := hS.2; go_simp; try with_reducible rfl)
                simp only [List.getElem_toArray, List.getElem_cons_succ, List.getElem_cons_zero, Act.put, List.setIfInBounds_toArray, List.set_cons_zero, List.set_cons_succ]
                refine wpAnyH_take (i := 3) (v := ?_) rfl (by kernel_rfl) (by kernel_rfl) (by kernel_rfl) (fun _ _ _ h => h) (Or.inl ⟨by rfl, ?_⟩) (by assumption) ?_
                rotate_left
                · (intro wS hS; obtain ⟨z0, z1, z2, z3, z4, z5⟩ := hkx.out _ hS.1; have z6 := hS.2; go_simp; try with_reducible rfl)
                simp only [List.getElem_toArray, List.getElem_cons_succ, List.getElem_cons_zero, Act.put, List.setIfInBounds_toArray, List.set_cons_zero, List.set_cons_succ]
                refine wpAnyH_take (i := 4) (v := ?_) rfl (by kernel_rfl) (by kernel_rfl) (by kernel_rfl) (fun _ _ _ h => h) (Or.inl ⟨by rfl, ?_⟩) (by assumption) ?_
                rotate_left
                · (intro wS hS; obtain ⟨z0, z1, z2, z3, z4, z5⟩ := hkx.out _ hS.1; have z6 := hS.2; go_simp; try with_reducible rfl)
                simp only [List.getElem_toArray, List.getElem_cons_succ, List.getElem_cons_zero, Act.put, List.setIfInBounds_toArray, List.set_cons_zero, List.set_cons_succ]
                refine wpAnyH_take (i := 5) (v := ?_) rfl (by kernel_rfl) (by kernel_rfl) (by kernel_rfl) (fun _ _ _ h => h) (Or.inl ⟨by rfl, ?_⟩) (by assumption) ?_
                rotate_left
                · (intro wS hS; obtain ⟨z0, z1, z2, z3, z4, z5⟩ := hkx.out _ hS.1; have z6 := hS.2; go_simp; try with_reducible rfl)
                simp only [List.getElem_toArray, List.getElem_cons_succ, List.getElem_cons_zero, Act.put, List.setIfInBounds_toArray, List.set_cons_zero, List.set_cons_succ]
                refine wpAnyH_ready (rs := [6]) (by kernel_rfl) (by simp) (AllReadyH.cons rfl (fun K hK => ?_) AllReadyH.nil)
                go_simp; go_at_call 29; refine (HL.out _).mono ?_; rintro e w6 ⟨rfl, c6⟩; have hx6 := hx4.gr c6.undrew; replace c6 := (And.intro (hHeld.1.then c6.gr) hx6.c0 : Ch (Hb F H T R) W0 w6 ∧ w6.cell? ⟨H, 0, none⟩ = some (.pointer (some ⟨T, 0, none⟩))); clear hHeld
                refine hK.out _ _ (by exact c6) (fun hHeld => ?_)
                clear hK K
                refine wpAnyH_take (i := 7) (v := ?_) rfl (by kernel_rfl) (by kernel_rfl) (by kernel_rfl) (fun _ _ _ h => h) (Or.inl ⟨by rfl, ?_⟩) (by assumption) ?_
                rotate_left
                · (intro wS hS; obtain ⟨z0, z1, z2, z3, z4, z5⟩ := hkx.out _ hS.1; have z6 := hS.2; go_simp; try with_reducible rfl)
                simp only [List.getElem_toArray, List.getElem_cons_succ, List.getElem_cons_zero, Act.put, List.setIfInBounds_toArray, List.set_cons_zero, List.set_cons_succ]
                refine wpAnyH_take (i := 8) (v := ?_) rfl (by kernel_rfl) (by kernel_rfl) (by kernel_rfl) (fun _ _ _ h => h) (Or.inl ⟨by rfl, ?_⟩) (by assumption) ?_
                rotate_left
                · (intro wS hS; obtain ⟨z0, z1, z2, z3, z4, z5⟩ := hkx.out _ hS.1; have z6 := hS.2; go_simp; try with_reducible rfl)
                simp only [List.getElem_toArray, List.getElem_cons_succ, List.getElem_cons_zero, Act.put, List.setIfInBounds_toArray, List.set_cons_zero, List.set_cons_succ]
                refine wpAnyH_ready (rs := [9]) (by kernel_rfl) (by simp) (AllReadyH.cons rfl (fun K hK => ?_) AllReadyH.nil)
                have hT := tput_tx hx6.t 256 (hw s 256 + n) (by omega) (by omega); have hp := HP4.out; generalize tput s4 256 (hw s 256 + n) = y at hT hp; obtain ⟨s5, e5⟩ := y; dsimp only at hp; have HP5 := Lib.hid hp; clear hp HP4; go_simp; go_at_call 22; refine hT.mono ?_; rintro e w7 ⟨rfl, t1, d4⟩; have hx7 := hx6.mem t1 d4; have c6 := (And.intro (hHeld.1.then (d4.mono (fun _ hk => Or.inl hk))) hx7.c0 : Ch (Hb F H T R) W0 w7 ∧ w7.cell? ⟨H, 0, none⟩ = some (.pointer (some ⟨T, 0, none⟩))); clear hHeld hT t1 d4
                refine hK.out _ _ (by exact c6) (fun hHeld => ?_)
                clear hK K
                refine wpAnyH_take (i := 10) (v := ?_) rfl (by kernel_rfl) (by kernel_rfl) (by kernel_rfl) (fun _ _ _ h => h) (Or.inl ⟨by rfl, ?_⟩) (by assumption) ?_
                rotate_left
                · (intro wS hS; obtain ⟨z0, z1, z2, z3, z4, z5⟩ := hkx.out _ hS.1; have z6 := hS.2; go_simp; try with_reducible rfl)
                simp only [List.getElem_toArray, List.getElem_cons_succ, List.getElem_cons_zero, Act.put, List.setIfInBounds_toArray, List.set_cons_zero, List.set_cons_succ]
                refine wpAnyH_done (by kernel_rfl) ?_ _
                by_cases hz : e5 = 0
                · subst hz
                  have hp := HP5.out
                  rw [if_neg (by simp)] at hp
                  have HP6 := Lib.hid hp
                  clear HP5 hp
                  go_wp2_with (fail)
                  refine bodyPost_ret (v := .tuple #[.int .i64 (hw s 256), .int .i64 0]) (by simp [results, Try.results8, go_sem]) rfl ?_
                  rw [HRES.out, ← HP6.out]
                  exact ⟨rfl, hx7, C0.gr.then hHeld.1⟩
                · have b0 : (e5 != 0) = true := by rw [bne_iff_ne]; exact hz
                  have hp := HP5.out
                  rw [if_pos hz] at hp
                  have HP6 := Lib.hid hp
                  clear HP5 hp hz
                  go_wp2_with (fail)
                  refine bodyPost_ret (v := .tuple #[.int .i64 0, .int .i64 e5]) (by simp [results, Try.results8, go_sem]) rfl ?_
                  rw [HRES.out, ← HP6.out]
                  exact ⟨rfl, hx7, C0.gr.then hHeld.1⟩
end Go.Proofs.Ytjeaidmmhplglaa.Nvm
