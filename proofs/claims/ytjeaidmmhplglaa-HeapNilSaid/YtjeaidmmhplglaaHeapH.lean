/- The walks of heap: Get, Put, Raw. -/
import Derived.Test.YtjeaidmmhplglaaHeapG
set_option linter.unusedVariables false
set_option linter.unusedSimpArgs false
namespace Go.Proofs.Ytjeaidmmhplglaa.Nvm
open Go.RowKit Go.Proofs.Ytjeaidmmhplglaa.Base
structure Sl.B (x : Sl) : Prop where
  p0 : 0 ≤ x.p
  p1 : x.p ≤ 300000
  z : x.e = 0 → x.z = 1 ∨ x.z = 2
theorem hslot_b {s : St} (h : Ok s) (at_ i : Int) : (hslot s at_ i).B := by
  have hb := hfind_b h at_
  have h0 := hb.p0
  have h1 := hb.p1
  have h2 := hb.x.n0
  have h3 := hb.x.n1
  rw [hslot_eq]
  unfold slotf
  split
  · rename_i he
    exact ⟨by simp, by simp, fun h => absurd h he⟩
  · split
    · exact ⟨by simp, by simp, fun h => by simp at h⟩
    · rcases ksz_b (hfind s at_).x.kind with e | e <;> rw [e]
      · exact ⟨by dsimp only; omega, by dsimp only; omega, fun _ => Or.inl rfl⟩
      · exact ⟨by dsimp only; omega, by dsimp only; omega, fun _ => Or.inr rfl⟩
def hgetx (s : St) (m : List Int) (x : Sl) : Int × Int :=
  if x.e ≠ 0 then (0, x.e) else if x.z = 2 then (if x.ram = true then rword m x.p else tword s (x.p / 2))
  else if x.ram = true then (sg (rbyte m x.p).1, (rbyte m x.p).2) else (sg (tbyte s x.p).1, (tbyte s x.p).2)
theorem hget_eq (s : St) (m : List Int) (at_ i : Int) : hget s m at_ i = hgetx s m (hslot s at_ i) := rfl
theorem sg_wrap {b : Int} (b0 : 0 ≤ b) (b1 : b ≤ 255) : IntKind.u16.wrap (IntKind.i8.wrap b) = sg b := by
  simp [IntKind.wrap, IntKind.bits, IntKind.signed, sg]
  split <;> split <;> omega
set_option maxHeartbeats 4000000 in
set_option maxRecDepth 100000 in
theorem hget_core {w : World} {F : Nat → Prop} {H T N R L : Nat} {s : St} {m : List Int} (h : Hx w F H T N R L s m) (at_ i : Int) (x : Sl) (hb : x.B)
    (hs : Hid (Calls Try.prog 33 #[.pointer (some ⟨H, 0, none⟩), .int .i64 at_, .int .i64 i] w fun e2 w' => e2 = .returned (slv x) ∧ Ch (fun _ => False) w w')) :
    Calls Try.prog 10 #[.pointer (some ⟨H, 0, none⟩), .int .i64 at_, .int .i64 i] w fun e w' => e = .returned (.tuple #[.int .u16 (hgetx s m x).1, .int .i64 (hgetx s m x).2]) ∧ Ch (fun _ => False) w w' := by
  obtain ⟨p, z, r, e⟩ := x
  have p0 := hb.p0
  have p1 := hb.p1
  have hz := hb.z
  unfold slv at hs
  unfold hgetx
  dsimp only at *
  clear hb
  by_cases he : e = 0
  · subst he
    rw [if_neg (by simp)]
    rcases hz rfl with rfl | rfl
    · rw [if_neg (by decide)]
      cases r with
      | true =>
        have hr := fun w1 (c : Ch (fun _ => False) w w1) => rbyte_any (h.gr c) p
        have hbb : 0 ≤ (rbyte m p).1 ∧ (rbyte m p).1 ≤ 255 := by unfold rbyte; split; exact h.mb.get _; simp
        rw [if_pos rfl, ← sg_wrap hbb.1 hbb.2]
        generalize rbyte m p = y at *
        obtain ⟨y, e2⟩ := y
        have HR := Lib.hid hr
        clear hr hz
        go_enter Try.func10, Try.ntmps10
        go_wp2_with (first | (go_at_call 33; refine hs.out.mono ?_; rintro e w1 ⟨rfl, c1⟩; have k0 := (h.gr c1).c0; have k1 := (h.gr c1).c1) | (go_at_call 35; refine (HR.out _ c1).mono ?_; rintro e w2 ⟨rfl, c2⟩))
        go_ret2
        exact ⟨rfl, c1.then c2⟩
      | false =>
        have hr := fun w1 (c : Ch (fun _ => False) w w1) => tbyte_tx (h.gr c).t p (by omega)
        have hbb : 0 ≤ (tbyte s p).1 ∧ (tbyte s p).1 ≤ 255 := by unfold tbyte St.get; have := h.ok.by_.get p.toNat; split <;> (try split) <;> (try split) <;> simp_all
        rw [if_neg (by decide), ← sg_wrap hbb.1 hbb.2]
        generalize tbyte s p = y at *
        obtain ⟨y, e2⟩ := y
        have HR := Lib.hid hr
        clear hr hz
        go_enter Try.func10, Try.ntmps10
        go_wp2_with (first | (go_at_call 33; refine hs.out.mono ?_; rintro e w1 ⟨rfl, c1⟩; have k0 := (h.gr c1).c0; have k1 := (h.gr c1).c1) | (go_at_call 36; refine (HR.out _ c1).mono ?_; rintro e w2 ⟨rfl, rfl⟩))
        go_ret2
        exact ⟨rfl, c1⟩
    · rw [if_pos rfl]
      cases r with
      | true =>
        have hr := fun w1 (c : Ch (fun _ => False) w w1) => rword_any (h.gr c) p
        rw [if_pos rfl]
        generalize rword m p = y at *
        obtain ⟨y, e2⟩ := y
        have HR := Lib.hid hr
        clear hr hz
        go_enter Try.func10, Try.ntmps10
        go_wp2_with (first | (go_at_call 33; refine hs.out.mono ?_; rintro e w1 ⟨rfl, c1⟩; have k0 := (h.gr c1).c0; have k1 := (h.gr c1).c1) | (go_at_call 34; refine (HR.out _ c1).mono ?_; rintro e w2 ⟨rfl, c2⟩))
        go_ret2
        exact ⟨rfl, c1.then c2⟩
      | false =>
        have hr := fun w1 (c : Ch (fun _ => False) w w1) => word_tx (h.gr c).t (p / 2)
        rw [if_neg (by decide)]
        generalize tword s (p / 2) = y at *
        obtain ⟨y, e2⟩ := y
        have HR := Lib.hid hr
        clear hr hz
        go_enter Try.func10, Try.ntmps10
        go_wp2_with (first | (go_at_call 33; refine hs.out.mono ?_; rintro e w1 ⟨rfl, c1⟩; have k0 := (h.gr c1).c0; have k1 := (h.gr c1).c1) | (go_at_call 21; refine (HR.out _ c1).mono ?_; rintro e w2 ⟨rfl, c2⟩))
        go_ret2
        exact ⟨rfl, c1.then c2⟩
  · have hb2 : (e == 0) = false := beq_eq_false_iff_ne.2 he
    have hb3 : (e != 0) = true := by rw [bne, hb2]; rfl
    rw [if_pos he]
    clear hz
    go_enter Try.func10, Try.ntmps10
    go_wp2_with (go_at_call 33; refine hs.out.mono ?_; rintro e w1 ⟨rfl, c1⟩)
    go_ret2
    exact ⟨rfl, c1⟩
theorem hget_any {w : World} {F : Nat → Prop} {H T N R L : Nat} {s : St} {m : List Int} (h : Hx w F H T N R L s m) (at_ i : Int) :
    Calls Try.prog 10 #[.pointer (some ⟨H, 0, none⟩), .int .i64 at_, .int .i64 i] w fun e w' => e = .returned (.tuple #[.int .u16 (hget s m at_ i).1, .int .i64 (hget s m at_ i).2]) ∧ Ch (fun _ => False) w w' :=
  hget_core h at_ i _ (hslot_b h.ok at_ i) (hslot_any h at_ i)
set_option maxHeartbeats 4000000 in
set_option maxRecDepth 100000 in
theorem hinr_any {w : World} {F : Nat → Prop} {H T N R L : Nat} {s : St} {m : List Int} (h : Hx w F H T N R L s m) (p z v : Int) (v0 : 0 ≤ v) (v1 : v ≤ 65535) :
    Calls Try.prog 38 #[.pointer (some ⟨H, 0, none⟩), .int .i64 p, .int .i64 z, .int .u16 v] w (Hdo w F H T N R L (s, rput m p z v)) := by
  have c0 := h.c0
  have c1 := h.c1
  unfold rput
  by_cases hz : z = 2
  · subst hz
    rw [if_pos rfl]
    have hr := rputw_any h p v v0 v1
    generalize rputw m p v = y at *
    obtain ⟨m2, e2⟩ := y
    have HR := Lib.hid hr
    clear hr
    go_enter Try.func38, Try.ntmps38
    go_wp2_with (go_at_call 59; refine HR.out.mono ?_; rintro e w2 ⟨rfl, d1, d2⟩)
    go_ret
    exact ⟨rfl, d1, d2⟩
  · rw [if_neg hz]
    have hb : (z == 2) = false := beq_eq_false_iff_ne.2 hz
    have hr := rputb_any h p (v % 256) (by omega) (by omega)
    generalize rputb m p (v % 256) = y at *
    obtain ⟨m2, e2⟩ := y
    have HR := Lib.hid hr
    clear hr
    go_enter Try.func38, Try.ntmps38
    go_wp2_with (go_at_call 60; refine HR.out.mono ?_; rintro e w2 ⟨rfl, d1, d2⟩)
    go_ret
    exact ⟨rfl, d1, d2⟩
def hputx (s : St) (m : List Int) (x : Sl) (v : Int) : St × List Int × Int :=
  if x.e ≠ 0 then (s, m, x.e) else if x.ram = true then (s, rput m x.p x.z v)
  else if x.z = 2 then ((tput s (x.p / 2) v).1, m, (tput s (x.p / 2) v).2) else ((tputb s x.p (v % 256)).1, m, (tputb s x.p (v % 256)).2)
theorem hput_eq (s : St) (m : List Int) (at_ i v : Int) : hput s m at_ i v = hputx s m (hslot s at_ i) v := rfl
theorem Hdo.from {w w1 w' : World} {F : Nat → Prop} {H T N R L : Nat} {p : St × List Int × Int} {e : Ending} (c : Ch (fun _ => False) w w1) (h : Hdo w1 F H T N R L p e w') : Hdo w F H T N R L p e w' := ⟨h.1, h.2.1, c.gr.then h.2.2⟩
theorem Hdo.tx {w w' : World} {F : Nat → Prop} {H T N R L : Nat} {s : St} {m : List Int} {q : St × Int} {e : Ending} (h : Hx w F H T N R L s m) (d : Does w F T N L q e w') : Hdo w F H T N R L (q.1, m, q.2) e w' := ⟨d.1, h.mem d.2.1 d.2.2, d.2.2.mono (fun _ hk => Or.inl hk)⟩
set_option maxHeartbeats 4000000 in
set_option maxRecDepth 100000 in
theorem hput_core {w : World} {F : Nat → Prop} {H T N R L : Nat} {s : St} {m : List Int} (h : Hx w F H T N R L s m) (at_ i v : Int) (v0 : 0 ≤ v) (v1 : v ≤ 65535) (x : Sl) (hb : x.B)
    (hs : Hid (Calls Try.prog 33 #[.pointer (some ⟨H, 0, none⟩), .int .i64 at_, .int .i64 i] w fun e2 w' => e2 = .returned (slv x) ∧ Ch (fun _ => False) w w')) :
    Calls Try.prog 13 #[.pointer (some ⟨H, 0, none⟩), .int .i64 at_, .int .i64 i, .int .u16 v] w (Hdo w F H T N R L (hputx s m x v)) := by
  obtain ⟨p, z, r, e⟩ := x
  have p0 := hb.p0
  have p1 := hb.p1
  have hz := hb.z
  unfold slv at hs
  unfold hputx
  dsimp only at *
  clear hb
  by_cases he : e = 0
  · subst he
    have hz := hz rfl
    rw [if_neg (by simp)]
    cases r with
    | true =>
      rw [if_pos rfl]
      have hr := fun w1 (c : Ch (fun _ => False) w w1) => hinr_any (h.gr c) p z v v0 v1
      have HR := Lib.hid hr
      clear hr
      generalize rput m p z v = y at *
      obtain ⟨m2, e2⟩ := y
      rcases hz with rfl | rfl <;>
      · go_enter Try.func13, Try.ntmps13
        go_wp2_with (first | (go_at_call 33; refine hs.out.mono ?_; rintro e w1 ⟨rfl, c1⟩) | (go_at_call 38; refine (HR.out _ c1).mono ?_; rintro e w2 ⟨rfl, d1, d2⟩))
        go_ret
        exact ⟨rfl, d1, c1.gr.then d2⟩
    | false =>
      rw [if_neg (by decide)]
      rcases hz with rfl | rfl
      · rw [if_neg (by decide)]
        have hr := fun w1 (c : Ch (fun _ => False) w w1) => tputb_tx (h.gr c).t p (v % 256) (by omega) (by omega) (by omega)
        generalize tputb s p (v % 256) = y at *
        obtain ⟨s2, e2⟩ := y
        have HR := Lib.hid hr
        clear hr
        go_enter Try.func13, Try.ntmps13
        go_wp2_with (first | (go_at_call 33; refine hs.out.mono ?_; rintro e w1 ⟨rfl, c1⟩; have k0 := (h.gr c1).c0; have k1 := (h.gr c1).c1) | (go_at_call 39; refine (HR.out _ c1).mono ?_; rintro e w2 ⟨rfl, d1, d2⟩))
        go_ret
        exact Hdo.from c1 (Hdo.tx (q := (s2, e2)) (h.gr c1) ⟨rfl, d1, d2⟩)
      · rw [if_pos rfl]
        have hr := fun w1 (c : Ch (fun _ => False) w w1) => tput_tx (h.gr c).t (p / 2) v v0 v1
        generalize tput s (p / 2) v = y at *
        obtain ⟨s2, e2⟩ := y
        have HR := Lib.hid hr
        clear hr
        go_enter Try.func13, Try.ntmps13
        go_wp2_with (first | (go_at_call 33; refine hs.out.mono ?_; rintro e w1 ⟨rfl, c1⟩; have k0 := (h.gr c1).c0; have k1 := (h.gr c1).c1) | (go_at_call 22; refine (HR.out _ c1).mono ?_; rintro e w2 ⟨rfl, d1, d2⟩))
        go_ret
        exact Hdo.from c1 (Hdo.tx (q := (s2, e2)) (h.gr c1) ⟨rfl, d1, d2⟩)
  · have hb2 : (e == 0) = false := beq_eq_false_iff_ne.2 he
    have hb3 : (e != 0) = true := by rw [bne, hb2]; rfl
    rw [if_pos he]
    clear hz
    go_enter Try.func13, Try.ntmps13
    go_wp2_with (go_at_call 33; refine hs.out.mono ?_; rintro e w1 ⟨rfl, c1⟩)
    go_ret
    exact ⟨rfl, h.gr c1, c1.gr⟩
theorem hput_any {w : World} {F : Nat → Prop} {H T N R L : Nat} {s : St} {m : List Int} (h : Hx w F H T N R L s m) (at_ i v : Int) (v0 : 0 ≤ v) (v1 : v ≤ 65535) :
    Calls Try.prog 13 #[.pointer (some ⟨H, 0, none⟩), .int .i64 at_, .int .i64 i, .int .u16 v] w (Hdo w F H T N R L (hput s m at_ i v)) :=
  hput_core h at_ i v v0 v1 _ (hslot_b h.ok at_ i) (hslot_any h at_ i)
def hrawx (s : St) (m : List Int) (x : Sl) (v : Int) : St × List Int × Int :=
  if x.e ≠ 0 then (s, m, x.e) else if x.ram = true then (s, rput m x.p x.z v) else ((runs (hrawl x.p x.z v) s).1, m, (runs (hrawl x.p x.z v) s).2)
theorem hraw_eq (s : St) (m : List Int) (at_ i v : Int) : hraw s m at_ i v = hrawx s m (hslot s at_ i) v := rfl
set_option maxHeartbeats 4000000 in
set_option maxRecDepth 100000 in
theorem hraw_core {w : World} {F : Nat → Prop} {H T N R L : Nat} {s : St} {m : List Int} (h : Hx w F H T N R L s m) (at_ i v : Int) (v0 : 0 ≤ v) (v1 : v ≤ 65535) (x : Sl) (hb : x.B)
    (hs : Hid (Calls Try.prog 33 #[.pointer (some ⟨H, 0, none⟩), .int .i64 at_, .int .i64 i] w fun e2 w' => e2 = .returned (slv x) ∧ Ch (fun _ => False) w w')) :
    Calls Try.prog 14 #[.pointer (some ⟨H, 0, none⟩), .int .i64 at_, .int .i64 i, .int .u16 v] w (Hdo w F H T N R L (hrawx s m x v)) := by
  obtain ⟨p, z, r, e⟩ := x
  have p0 := hb.p0
  have p1 := hb.p1
  have hz := hb.z
  unfold slv at hs
  unfold hrawx
  dsimp only at *
  clear hb
  by_cases he : e = 0
  · subst he
    have hz := hz rfl
    rw [if_neg (by simp)]
    cases r with
    | true =>
      rw [if_pos rfl]
      have hr := fun w1 (c : Ch (fun _ => False) w w1) => hinr_any (h.gr c) p z v v0 v1
      have HR := Lib.hid hr
      clear hr
      generalize rput m p z v = y at *
      obtain ⟨m2, e2⟩ := y
      rcases hz with rfl | rfl <;>
      · go_enter Try.func14, Try.ntmps14
        go_wp2_with (first | (go_at_call 33; refine hs.out.mono ?_; rintro e w1 ⟨rfl, c1⟩) | (go_at_call 38; refine (HR.out _ c1).mono ?_; rintro e w2 ⟨rfl, d1, d2⟩))
        go_ret
        exact ⟨rfl, d1, c1.gr.then d2⟩
    | false =>
      rw [if_neg (by decide)]
      rcases hz with rfl | rfl
      · unfold hrawl
        rw [if_neg (by decide)]
        have hr := fun (wx : World) (hx : Hx wx F H T N R L s m) => traw_tx hx.t p (v % 256) (by omega) (by omega) (by omega)
        have e1 : runs [ftraw p (v % 256)] s = (if (traw s p (v % 256)).2 = 0 then ((traw s p (v % 256)).1, 0) else traw s p (v % 256)) := rfl
        generalize runs [ftraw p (v % 256)] s = q at e1 ⊢
        generalize traw s p (v % 256) = y at *
        obtain ⟨s2, e2⟩ := y
        have HR := Lib.hid hr
        have HQ := Lib.hid e1
        clear hr e1
        go_enter Try.func14, Try.ntmps14
        go_wp2_with (go_at_call 33; refine hs.out.mono ?_; rintro e w1 ⟨rfl, c1⟩; have k0 := (h.gr c1).c0; have k1 := (h.gr c1).c1)
        have hx1 := h.gr c1
        go_loopw [13] (fun i wr => (i = .int .i64 0 ∧ wr = w1) ∨ (i = .int .i64 (-1) ∧ e2 = 0 ∧ Hx wr F H T N R L s2 m ∧ Ch F w1 wr)) (fun i _ => (intOf i + 1).toNat)
        case atStart => exact Or.inl ⟨rfl, rfl⟩
        case round =>
          rcases hrel with ⟨rfl, rfl⟩ | ⟨rfl, rfl, hx2, c2⟩
          · have k0 := hx1.c0
            by_cases h0 : e2 = 0
            · subst h0
              go_wp2_with (go_at_call 30; refine (HR.out _ hx1).mono ?_; rintro e w2 ⟨rfl, d1, d2⟩)
              go_roundw
              case rel => exact Or.inr ⟨rfl, trivial, hx1.mem d1 d2, d2⟩
              case measure => simp [intOf]
            · have b0 : (e2 != 0) = true := by rw [bne_iff_ne]; exact h0
              go_wp2_with (go_at_call 30; refine (HR.out _ hx1).mono ?_; rintro e w2 ⟨rfl, d1, d2⟩)
              go_ret
              rw [HQ.out, if_neg h0]
              exact ⟨rfl, hx1.mem d1 d2, c1.gr.then (d2.mono (fun _ hk => Or.inl hk))⟩
          · go_wp2
            go_ret
            rw [HQ.out]
            exact ⟨rfl, hx2, c1.gr.then (c2.mono (fun _ hk => Or.inl hk))⟩
      · unfold hrawl
        rw [if_pos rfl]
        have hr := fun (wx : World) (hx : Hx wx F H T N R L s m) => traw_tx hx.t p (v / 256) (by omega) (by omega) (by omega)
        have hr2 := fun (wx : World) (hx : Hx wx F H T N R L (traw s p (v / 256)).1 m) => traw_tx hx.t (p + 1) (v % 256) (by omega) (by omega) (by omega)
        have e1 : runs [ftraw p (v / 256), ftraw (p + 1) (v % 256)] s = (if (traw s p (v / 256)).2 = 0 then (if (traw (traw s p (v / 256)).1 (p + 1) (v % 256)).2 = 0 then ((traw (traw s p (v / 256)).1 (p + 1) (v % 256)).1, 0) else traw (traw s p (v / 256)).1 (p + 1) (v % 256)) else traw s p (v / 256)) := rfl
        generalize runs [ftraw p (v / 256), ftraw (p + 1) (v % 256)] s = q at e1 ⊢
        generalize traw s p (v / 256) = y at *
        obtain ⟨s2, e2⟩ := y
        dsimp only at *
        generalize traw s2 (p + 1) (v % 256) = y at *
        obtain ⟨s3, e3⟩ := y
        rw [show p = p + 2 - 1 - 1 by omega] at hr
        rw [show p + 1 = p + 2 - 1 by omega] at hr2
        have HR := Lib.hid hr
        have HR2 := Lib.hid hr2
        have HQ := Lib.hid e1
        clear hr hr2 e1
        go_enter Try.func14, Try.ntmps14
        go_wp2_with (go_at_call 33; refine hs.out.mono ?_; rintro e w1 ⟨rfl, c1⟩; have k0 := (h.gr c1).c0; have k1 := (h.gr c1).c1)
        have hx1 := h.gr c1
        go_loopw [13] (fun i wr => (i = .int .i64 1 ∧ wr = w1) ∨ (i = .int .i64 0 ∧ e2 = 0 ∧ Hx wr F H T N R L s2 m ∧ Ch F w1 wr) ∨ (i = .int .i64 (-1) ∧ e2 = 0 ∧ e3 = 0 ∧ Hx wr F H T N R L s3 m ∧ Ch F w1 wr)) (fun i _ => (intOf i + 1).toNat)
        case atStart => exact Or.inl ⟨rfl, rfl⟩
        case round =>
          rcases hrel with ⟨rfl, rfl⟩ | ⟨rfl, rfl, hx2, c2⟩ | ⟨rfl, rfl, rfl, hx2, c2⟩
          · have k0 := hx1.c0
            by_cases h0 : e2 = 0
            · subst h0
              go_wp2_with (go_at_call 30; refine (HR.out _ hx1).mono ?_; rintro e w2 ⟨rfl, d1, d2⟩)
              go_roundw
              case rel => exact Or.inr (Or.inl ⟨rfl, trivial, hx1.mem d1 d2, d2⟩)
              case measure => simp [intOf]
            · have b0 : (e2 != 0) = true := by rw [bne_iff_ne]; exact h0
              go_wp2_with (go_at_call 30; refine (HR.out _ hx1).mono ?_; rintro e w2 ⟨rfl, d1, d2⟩)
              go_ret
              rw [HQ.out, if_neg h0]
              exact ⟨rfl, hx1.mem d1 d2, c1.gr.then (d2.mono (fun _ hk => Or.inl hk))⟩
          · have k0 := hx2.c0
            by_cases h0 : e3 = 0
            · subst h0
              go_wp2_with (go_at_call 30; refine (HR2.out _ hx2).mono ?_; rintro e w2 ⟨rfl, d1, d2⟩)
              go_roundw
              case rel => exact Or.inr (Or.inr ⟨rfl, trivial, trivial, hx2.mem d1 d2, c2.then d2⟩)
              case measure => simp [intOf]
            · have b0 : (e3 != 0) = true := by rw [bne_iff_ne]; exact h0
              go_wp2_with (go_at_call 30; refine (HR2.out _ hx2).mono ?_; rintro e w2 ⟨rfl, d1, d2⟩)
              go_ret
              rw [HQ.out, if_pos (by trivial), if_neg h0]
              exact ⟨rfl, hx2.mem d1 d2, c1.gr.then ((c2.then d2).mono (fun _ hk => Or.inl hk))⟩
          · go_wp2
            go_ret
            rw [HQ.out]
            exact ⟨rfl, hx2, c1.gr.then (c2.mono (fun _ hk => Or.inl hk))⟩
  · have hb2 : (e == 0) = false := beq_eq_false_iff_ne.2 he
    have hb3 : (e != 0) = true := by rw [bne, hb2]; rfl
    rw [if_pos he]
    clear hz
    go_enter Try.func14, Try.ntmps14
    go_wp2_with (go_at_call 33; refine hs.out.mono ?_; rintro e w1 ⟨rfl, c1⟩)
    go_ret
    exact ⟨rfl, h.gr c1, c1.gr⟩
theorem hraw_any {w : World} {F : Nat → Prop} {H T N R L : Nat} {s : St} {m : List Int} (h : Hx w F H T N R L s m) (at_ i v : Int) (v0 : 0 ≤ v) (v1 : v ≤ 65535) :
    Calls Try.prog 14 #[.pointer (some ⟨H, 0, none⟩), .int .i64 at_, .int .i64 i, .int .u16 v] w (Hdo w F H T N R L (hraw s m at_ i v)) :=
  hraw_core h at_ i v v0 v1 _ (hslot_b h.ok at_ i) (hslot_any h at_ i)
end Go.Proofs.Ytjeaidmmhplglaa.Nvm
