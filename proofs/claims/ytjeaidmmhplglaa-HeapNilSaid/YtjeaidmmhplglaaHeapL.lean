/- The walks of heap: Make, of any object. -/
import Derived.Test.YtjeaidmmhplglaaHeapK
set_option linter.unusedVariables false
set_option linter.unusedSimpArgs false
namespace Go.Proofs.Ytjeaidmmhplglaa.Nvm
open Go.RowKit Go.Proofs.Ytjeaidmmhplglaa.Base
theorem hwf_eq (s : St) (x : Hd) : hwf x (hlen x) (hw s 257) = hws x (hw s 257) := rfl
theorem runs_two (f g : St → St × Int) (s : St) : runs [f, g] s = (if (f s).2 = 0 then (if (g (f s).1).2 = 0 then ((g (f s).1).1, 0) else g (f s).1) else f s) := rfl
theorem hmk_eq {s : St} {L : Nat} (m : List Int) (x : Hd) (hL : s.l.length = L) (hm : hmay x = true) (hd : s.dark = false) : hmk s m L x (hlen x) (ksz x.kind) = hmake s m x := by
  subst hL
  unfold hmake
  rw [if_neg (c := hmay x = false) (by rw [hm]; decide), if_neg (c := s.dark = true) (by rw [hd]; decide)]
  unfold hmk
  rw [hwf_eq]
  have hc : (hfull s s.l.length (hlen x) x.flags (x.count * ksz x.kind) = true) ↔ ((s.l.length : Int) / 2 < hw s 256 + hlen x ∨ (lst x.flags = true ∧ 1024 < hw s 257 + x.count * ksz x.kind)) := by
    unfold hfull lst
    simp
  by_cases h : hfull s s.l.length (hlen x) x.flags (x.count * ksz x.kind) = true
  · rw [if_pos h, if_pos (hc.1 h)]
  · rw [if_neg h, if_neg (fun hh => h (hc.2 hh))]
    unfold hmkf
    split
    · rfl
    · split
      · rw [runs_two]
        unfold ftput
        by_cases h1 : (tput (runs (rawws (hw s 256) (hws x (hw s 257))) s).1 257 (hw s 257 + x.count * ksz x.kind)).2 = 0
        · rw [if_neg (by simpa using h1), if_pos h1]
          by_cases h2 : (tput (tput (runs (rawws (hw s 256) (hws x (hw s 257))) s).1 257 (hw s 257 + x.count * ksz x.kind)).1 256 (hw s 256 + hlen x)).2 = 0
          · simp only [h2, ne_eq, not_true_eq_false, if_false, if_true]
          · simp only [h2, ne_eq, not_false_eq_true, if_true, if_false]
        · simp only [h1, ne_eq, not_false_eq_true, if_true, if_false]
      · rfl
theorem hmake_any {w : World} {F : Nat → Prop} {H T N R L : Nat} {s : St} {m : List Int} (h : Hx w F H T N R L s m) (x : Hd) (hb : x.B) :
    Calls Try.prog 8 #[.pointer (some ⟨H, 0, none⟩), enc x] w (Mdo w F H T N R L (hmake s m x)) := by
  by_cases hm : hmay x = true
  · by_cases hd : s.dark = true
    · have hp := fun w1 (c : Ch (fun _ => False) w w1) => halive_any (h.gr c)
      rw [show s.pow = 13 by simp [St.pow, hd]] at hp
      refine (hmake_dark w H T x hb.f0 h.c0 hm hp).mono ?_
      rintro e w' ⟨rfl, c⟩
      have e1 : hmake s m x = (s, m, 0, 13) := by unfold hmake; rw [if_neg (by rw [hm]; decide), if_pos hd]
      rw [e1]
      exact ⟨rfl, h.gr c, c.gr⟩
    · rw [← hmk_eq m x h.t.len hm (Bool.eq_false_iff.2 hd)]
      exact hmake_live h x hb hm (Bool.eq_false_iff.2 hd)
  · have hm := Bool.eq_false_iff.2 hm
    refine (hmake_may w H T x hb.f0 h.c0 hm).mono ?_
    rintro e w' ⟨rfl, c⟩
    have e1 : hmake s m x = (s, m, 0, 2) := by unfold hmake; rw [if_pos hm]
    rw [e1]
    exact ⟨rfl, h.gr c, c.gr⟩
end Go.Proofs.Ytjeaidmmhplglaa.Nvm
