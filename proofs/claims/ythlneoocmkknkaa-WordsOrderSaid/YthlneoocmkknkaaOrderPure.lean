/- WordsOrder: of all words just one of less, the same, greater holds; the other conditions are told by these; and less is handed on. No condition. -/
import Derived.Test.YthlneoocmkknkaaOrderWalk
import Derived.Test.YthlneoocmkknkaaMath
namespace Go.Proofs.Ythlneoocmkknkaa.OrderPure
open Go.RowKit Go.Proofs.Ythlneoocmkknkaa.PWordsOrder Go.Proofs.YthlneoocmkknkaaW.PrintWords Go.Proofs.YthlneoocmkknkaaW.PrintLast Go.Proofs.YthlneoocmkknkaaW.PrintMore Go.Proofs.Ythlneoocmkknkaa.Math

theorem worth_p {a : Int} (h : 0 ≤ a) (h' : a ≤ 65535) : words_Worth.f a = some (wo a) := by
  unfold words_Worth.f; rw [wo_prog h h']
theorem lives : garderobelaw01_lives.f 1 = some true := by decide +kernel
section
variable {a b : Int} (ha : 0 ≤ a) (ha' : a ≤ 65535) (hb : 0 ≤ b) (hb' : b ≤ 65535)
include ha ha' hb hb'
theorem h3 {v : Bool} (h : decide (wo a < wo b) = v) : Aside0 (garderobelaw01_holds.f 3 a b = some v) := ⟨by
  unfold garderobelaw01_holds.f words_Is.f; rw [worth_p ha ha', worth_p hb hb']; subst h
  by_cases c : wo a < wo b <;> simp [c]⟩
theorem h5 {v : Bool} (h : decide (wo b < wo a) = v) : Aside0 (garderobelaw01_holds.f 5 a b = some v) := ⟨by
  unfold garderobelaw01_holds.f words_Is.f; rw [worth_p ha ha', worth_p hb hb']; subst h
  by_cases c : wo b < wo a <;> simp [c]⟩
theorem h1 {v : Bool} (h : decide (a = b) = v) : Aside0 (garderobelaw01_holds.f 1 a b = some v) := ⟨by
  unfold garderobelaw01_holds.f words_Is.f; rw [worth_p ha ha', worth_p hb hb']; subst h
  by_cases c : a = b <;> simp [c]⟩
theorem h2 {v : Bool} (h : decide (¬ a = b) = v) : Aside0 (garderobelaw01_holds.f 2 a b = some v) := ⟨by
  unfold garderobelaw01_holds.f words_Is.f; rw [worth_p ha ha', worth_p hb hb']; subst h
  by_cases c : a = b <;> simp [c]⟩
theorem h6 {v : Bool} (h : decide (wo a ≤ wo b) = v) : Aside0 (garderobelaw01_holds.f 6 a b = some v) := ⟨by
  unfold garderobelaw01_holds.f words_Is.f; rw [worth_p ha ha', worth_p hb hb']; subst h
  by_cases e : wo a = wo b
  · simp [e]
  · have : wo a ≤ wo b ↔ wo a < wo b := by omega
    by_cases c : wo a < wo b <;> simp [e, this, c]⟩
theorem h4 {v : Bool} (h : decide (wo b ≤ wo a) = v) : Aside0 (garderobelaw01_holds.f 4 a b = some v) := ⟨by
  unfold garderobelaw01_holds.f words_Is.f; rw [worth_p ha ha', worth_p hb hb']; subst h
  by_cases e : wo a = wo b
  · simp [e]
  · have : wo b ≤ wo a ↔ wo b < wo a := by omega
    by_cases c : wo b < wo a <;> simp [e, this, c]⟩
theorem inj : wo a = wo b ↔ a = b := by unfold wo; constructor <;> (intro h; (try split at h) <;> (try split at h) <;> (try split) <;> (try split) <;> omega)
end
theorem walk (a b c : Int) (w : World) (w0 : (Lit.int .u16 a).wf = true) (w1 : (Lit.int .u16 b).wf = true) (w2 : (Lit.int .u16 c).wf = true) :
    Calls Try.prog 9 #[.int .u16 a, .int .u16 b, .int .u16 c] w fun e w' => e = .returned (.bool true) ∧ Below w.heap.size w w' := by
  obtain ⟨ha, ha'⟩ := bounds_u16 w0
  obtain ⟨hb, hb'⟩ := bounds_u16 w1
  obtain ⟨hc, hc'⟩ := bounds_u16 w2
  have i := inj ha ha' hb hb'
  by_cases l : wo a < wo b
  · have ne : ¬ a = b := fun h => by rw [i.2 h] at l; omega
    by_cases m : wo b < wo c
    · exact OrderWalk.lessYes a b c w (h3 ha ha' hb hb' (by simp; omega)) (h1 ha ha' hb hb' (by simp [ne])) (h5 ha ha' hb hb' (by simp; omega)) (h2 ha ha' hb hb' (by simp [ne]))
        (h4 ha ha' hb hb' (by simp; omega)) (h6 ha ha' hb hb' (by simp; omega)) (h5 hb hb' ha ha' (by simp; omega)) (h3 hb hb' hc hc' (by simp; omega)) (h3 ha ha' hc hc' (by simp; omega)) ⟨lives⟩
    · exact OrderWalk.lessNo a b c w (h3 ha ha' hb hb' (by simp; omega)) (h1 ha ha' hb hb' (by simp [ne])) (h5 ha ha' hb hb' (by simp; omega)) (h2 ha ha' hb hb' (by simp [ne]))
        (h4 ha ha' hb hb' (by simp; omega)) (h6 ha ha' hb hb' (by simp; omega)) (h5 hb hb' ha ha' (by simp; omega)) (h3 hb hb' hc hc' (by simp; omega)) ⟨lives⟩
  · by_cases e : a = b
    · have e' := i.2 e
      exact OrderWalk.same a b c w (h3 ha ha' hb hb' (by simp; omega)) (h1 ha ha' hb hb' (by simp [e])) (h5 ha ha' hb hb' (by simp; omega)) (h2 ha ha' hb hb' (by simp [e]))
        (h4 ha ha' hb hb' (by simp; omega)) (h6 ha ha' hb hb' (by simp; omega)) (h5 hb hb' ha ha' (by simp; omega)) ⟨lives⟩
    · have e' : ¬ wo a = wo b := fun h => e (i.1 h)
      exact OrderWalk.more a b c w (h3 ha ha' hb hb' (by simp; omega)) (h1 ha ha' hb hb' (by simp [e])) (h5 ha ha' hb hb' (by simp; omega)) (h2 ha ha' hb hb' (by simp [e]))
        (h4 ha ha' hb hb' (by simp; omega)) (h6 ha ha' hb hb' (by simp; omega)) (h5 hb hb' ha ha' (by simp; omega)) ⟨lives⟩
end Go.Proofs.Ythlneoocmkknkaa.OrderPure
