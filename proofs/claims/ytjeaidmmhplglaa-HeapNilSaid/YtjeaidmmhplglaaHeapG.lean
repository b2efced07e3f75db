/- The walks of heap: entries. -/
import Derived.Test.YtjeaidmmhplglaaHeapF
set_option linter.unusedVariables false
set_option linter.unusedSimpArgs false
namespace Go.Proofs.Ytjeaidmmhplglaa.Nvm
open Go.RowKit Go.Proofs.Ytjeaidmmhplglaa.Base
/-! The ram's calls, of any place. -/
theorem rIs_iff (a n : Int) : rIs a n = true ↔ 0 ≤ a ∧ 0 ≤ n ∧ a ≤ 1024 ∧ n ≤ 1024 - a := by simp [rIs]
theorem rbyte_any {w : World} {F : Nat → Prop} {H T N R L : Nat} {s : St} {m : List Int} (h : Hx w F H T N R L s m) (a : Int) :
    Calls Try.prog 35 #[.pointer (some ⟨R, 0, none⟩), .int .i64 a] w fun e w' => e = .returned (.tuple #[.int .u8 (rbyte m a).1, .int .i64 (rbyte m a).2]) ∧ Ch (fun _ => False) w w' := by
  by_cases c : rIs a 1 = true
  · have hc := (rIs_iff a 1).1 c
    obtain ⟨n, rfl⟩ := Int.eq_ofNat_of_zero_le hc.1
    refine (Ram.byte_ok w R n m h.r h.ml (by omega)).mono ?_
    rintro e w' ⟨rfl, rfl⟩
    exact ⟨by simp [rbyte, c], Ch.refl _ _⟩
  · have hc : ¬ _ := fun hh => c ((rIs_iff a 1).2 hh)
    refine (Ram.byte_bad w R m a h.r (by omega)).mono ?_
    rintro e w' ⟨rfl, rfl⟩
    exact ⟨by simp [rbyte, c], Ch.refl _ _⟩
theorem rword_any {w : World} {F : Nat → Prop} {H T N R L : Nat} {s : St} {m : List Int} (h : Hx w F H T N R L s m) (a : Int) :
    Calls Try.prog 34 #[.pointer (some ⟨R, 0, none⟩), .int .i64 a] w fun e w' => e = .returned (.tuple #[.int .u16 (rword m a).1, .int .i64 (rword m a).2]) ∧ Ch (fun _ => False) w w' := by
  by_cases c : rIs a 2 = true
  · have hc := (rIs_iff a 2).1 c
    obtain ⟨n, rfl⟩ := Int.eq_ofNat_of_zero_le hc.1
    refine (Ram.word_ok w R n m h.r h.ml h.mb (by omega)).mono ?_
    rintro e w' ⟨rfl, k, rfl⟩
    exact ⟨by simp [rword, c], (Ch.refl _ _).drewN k⟩
  · have hc : ¬ _ := fun hh => c ((rIs_iff a 2).2 hh)
    refine (Ram.word_bad w R m a h.r (by omega)).mono ?_
    rintro e w' ⟨rfl, rfl⟩
    exact ⟨by simp [rword, c], Ch.refl _ _⟩
/-- The heap behind a call, its memory in state s', its ram m'. -/
def Hdo (w : World) (F : Nat → Prop) (H T N R L : Nat) (p : St × List Int × Int) (e : Ending) (w' : World) : Prop := e = .returned (.int .i64 p.2.2) ∧ Hx w' F H T N R L p.1 p.2.1 ∧ Ch (Hb F H T R) w w'
theorem Hx.ram {w w' : World} {F : Nat → Prop} {H T N R L : Nat} {s : St} {m m' : List Int} (h : Hx w F H T N R L s m) (hb : Blk w' R (Ram.cp true m') 31) (c : Ch (· = R) w w') (hl : m'.length = 1024) (hy : By m') : Hx w' F H T N R L s m' :=
  ⟨h.h.ch c (Ne.symm h.rh), h.t.ch c (fun k hk e => h.fr (by subst e; exact hk)) (Ne.symm h.rt), hb, hl, hy, h.fh, h.fr⟩
theorem Hx.mem {w w' : World} {F : Nat → Prop} {H T N R L : Nat} {s s' : St} {m : List Int} (h : Hx w F H T N R L s m) (ht : Tx w' F T N L s') (c : Ch F w w') : Hx w' F H T N R L s' m :=
  ⟨h.h.ch c h.fh, ht, h.r.ch c h.fr, h.ml, h.mb, h.fh, h.fr⟩
theorem rputb_any {w : World} {F : Nat → Prop} {H T N R L : Nat} {s : St} {m : List Int} (h : Hx w F H T N R L s m) (a b : Int) (b0 : 0 ≤ b) (b1 : b ≤ 255) :
    Calls Try.prog 60 #[.pointer (some ⟨R, 0, none⟩), .int .i64 a, .int .u8 b] w (Hdo w F H T N R L (s, rputb m a b)) := by
  by_cases c : rIs a 1 = true
  · have hc := (rIs_iff a 1).1 c
    obtain ⟨n, rfl⟩ := Int.eq_ofNat_of_zero_le hc.1
    refine (Ram.putByte_ok w R n m b h.r h.ml (by omega)).mono ?_
    rintro e w' ⟨rfl, h1, h2⟩
    have e : rputb m n b = (m.set n b, 0) := by simp [rputb, c]
    rw [e]
    exact ⟨rfl, h.ram h1 h2 (by simp [h.ml]) (h.mb.set _ b0 b1), h2.mono (fun k hk => Or.inr (Or.inr (Or.inr hk)))⟩
  · have hc : ¬ _ := fun hh => c ((rIs_iff a 1).2 hh)
    refine (Ram.putByte_bad w R m a b h.r (by omega)).mono ?_
    rintro e w' ⟨rfl, rfl⟩
    have e : rputb m a b = (m, 2) := by simp [rputb, c]
    rw [e]
    exact ⟨rfl, h, Ch.refl _ _⟩
theorem rputw_any {w : World} {F : Nat → Prop} {H T N R L : Nat} {s : St} {m : List Int} (h : Hx w F H T N R L s m) (a v : Int) (v0 : 0 ≤ v) (v1 : v ≤ 65535) :
    Calls Try.prog 59 #[.pointer (some ⟨R, 0, none⟩), .int .i64 a, .int .u16 v] w (Hdo w F H T N R L (s, rputw m a v)) := by
  by_cases c : rIs a 2 = true
  · have hc := (rIs_iff a 2).1 c
    obtain ⟨n, rfl⟩ := Int.eq_ofNat_of_zero_le hc.1
    refine (Ram.putWord_ok w R n m v h.r h.ml (by omega) v0 v1).mono ?_
    rintro e w' ⟨rfl, h1, h2⟩
    have e : rputw m n v = ((m.set n (v / 256)).set (n + 1) (v % 256), 0) := by simp [rputw, c]
    rw [e]
    exact ⟨rfl, h.ram h1 h2 (by simp [h.ml]) ((h.mb.set _ (by omega) (by omega)).set _ (by omega) (by omega)), h2.mono (fun k hk => Or.inr (Or.inr (Or.inr hk)))⟩
  · have hc : ¬ _ := fun hh => c ((rIs_iff a 2).2 hh)
    refine (Ram.putWord_bad w R m a v h.r (by omega)).mono ?_
    rintro e w' ⟨rfl, rfl⟩
    have e : rputw m a v = (m, 2) := by simp [rputw, c]
    rw [e]
    exact ⟨rfl, h, Ch.refl _ _⟩
theorem rclear_any {w : World} {F : Nat → Prop} {H T N R L : Nat} {s : St} {m : List Int} (h : Hx w F H T N R L s m) (a n : Int) :
    Calls Try.prog 31 #[.pointer (some ⟨R, 0, none⟩), .int .i64 a, .int .i64 n] w (Hdo w F H T N R L (s, rclear m a n)) := by
  by_cases c : rIs a n = true
  · have hc := (rIs_iff a n).1 c
    obtain ⟨j, rfl⟩ := Int.eq_ofNat_of_zero_le hc.1
    obtain ⟨k, rfl⟩ := Int.eq_ofNat_of_zero_le hc.2.1
    refine (Ram.clear_ok w R j k m h.r h.ml (by omega)).mono ?_
    rintro e w' ⟨rfl, h1, h2⟩
    have e : rclear m j k = (Ram.zap m j k, 0) := by simp [rclear, c]
    rw [e]
    exact ⟨rfl, h.ram h1 h2 (by rw [Ram.zap_len, h.ml]) (h.mb.zap _ _), h2.mono (fun k hk => Or.inr (Or.inr (Or.inr hk)))⟩
  · have hc : ¬ _ := fun hh => c ((rIs_iff a n).2 hh)
    refine (Ram.clear_bad w R m a n h.r (by omega)).mono ?_
    rintro e w' ⟨rfl, rfl⟩
    have e : rclear m a n = (m, 2) := by simp [rclear, c]
    rw [e]
    exact ⟨rfl, h, Ch.refl _ _⟩
end Go.Proofs.Ytjeaidmmhplglaa.Nvm
