/- WordsIs: each condition of all two words is the reference's. No condition. -/
import Derived.Test.YthlneoocmkknkaaPWordsIsx1
import Derived.Test.YthlneoocmkknkaaMath
namespace Go.Proofs.Ythlneoocmkknkaa.Pure
open Go.RowKit Go.Proofs.Ythlneoocmkknkaa.PWordsIs Go.Proofs.YthlneoocmkknkaaW.PrintWords Go.Proofs.YthlneoocmkknkaaW.PrintLast Go.Proofs.YthlneoocmkknkaaW.PrintMore Go.Proofs.Ythlneoocmkknkaa.Math

theorem lives : garderobelaw01_lives.f 1 = some true := by decide +kernel

theorem same (c a b : Int) (ha : 0 ≤ a) (ha' : a ≤ 65535) (hb : 0 ≤ b) (hb' : b ≤ 65535) : ∃ r, words_Is.f c a b = some r ∧ garderoberef01_Is.f c a b = some r := by
  have pa : words_Worth.f a = some (wo a) := by unfold words_Worth.f; rw [wo_prog ha ha']
  have pb : words_Worth.f b = some (wo b) := by unfold words_Worth.f; rw [wo_prog hb hb']
  have ref : ∀ x : Int, 0 ≤ x → x ≤ 65535 → garderoberef01_Worth.f x = some (wo x) := by
    intro x hx hx'
    unfold garderoberef01_Worth.f wo
    rw [w64 (n := x) (by omega) (by omega), w64 (by omega) (by omega)]
    split <;> rfl
  have inj : wo a = wo b ↔ a = b := by unfold wo; constructor <;> (intro h; (try split at h) <;> (try split at h) <;> (try split) <;> (try split) <;> omega)
  unfold words_Is.f garderoberef01_Is.f
  rw [pa, pb, ref a ha ha', ref b hb hb']
  simp only [Option.bind_some]
  by_cases h1 : c = 1
  · rw [if_pos h1, if_pos h1]
    refine ⟨_, rfl, ?_⟩
    congr 2; rw [Bool.eq_iff_iff]; simp [inj]
  rw [if_neg h1, if_neg h1]
  by_cases h2 : c = 2
  · rw [if_pos h2, if_pos h2]
    refine ⟨_, rfl, ?_⟩
    congr 2; rw [Bool.eq_iff_iff]; simp [inj]
  rw [if_neg h2, if_neg h2]
  by_cases h6 : c = 6
  · rw [if_pos h6, if_neg (show ¬ c = 3 by omega), if_neg (show ¬ c = 4 by omega), if_neg (show ¬ c = 5 by omega), if_pos h6]
    by_cases he : wo a = wo b
    · rw [if_pos he]; refine ⟨_, rfl, ?_⟩
      congr 2; rw [decide_eq_true_iff]; omega
    · rw [if_neg he]; refine ⟨_, rfl, ?_⟩
      congr 2; rw [decide_eq_decide]; omega
  rw [if_neg h6]
  by_cases h3 : c = 3
  · rw [if_pos h3, if_pos h3]; exact ⟨_, rfl, rfl⟩
  rw [if_neg h3, if_neg h3]
  by_cases h4 : c = 4
  · rw [if_pos h4, if_pos h4]
    by_cases he : wo a = wo b
    · rw [if_pos he]; refine ⟨_, rfl, ?_⟩
      congr 2; rw [decide_eq_true_iff]; omega
    · rw [if_neg he]; refine ⟨_, rfl, ?_⟩
      congr 2; rw [decide_eq_decide]; omega
  rw [if_neg h4, if_neg h4]
  by_cases h5 : c = 5
  · rw [if_pos h5, if_pos h5]; exact ⟨_, rfl, rfl⟩
  rw [if_neg h5, if_neg h5, if_neg h6]; exact ⟨_, rfl, rfl⟩

theorem WordsIs : garderobelaw01_WordsIs.Pure := by
  intro c a b _ ha hb
  obtain ⟨ha, ha'⟩ := bounds_u16 ha
  obtain ⟨hb, hb'⟩ := bounds_u16 hb
  obtain ⟨r, h1, h2⟩ := same c a b ha ha' hb hb'
  refine ⟨1, ?_⟩
  unfold garderobelaw01_WordsIs.f
  rw [h1, h2]
  simp only [Option.bind_some]
  rw [if_pos (by simp), if_pos trivial, lives]; rfl

end Go.Proofs.Ythlneoocmkknkaa.Pure
