/- WordsOne: of every word and every byte, worths, negatives and bytes are the reference's. No condition. -/
import Derived.Test.YthlneoocmkknkaaPWordsOnex1
import Derived.Test.YthlneoocmkknkaaMath
namespace Go.Proofs.Ythlneoocmkknkaa.Pure
open Go.RowKit Go.Proofs.Ythlneoocmkknkaa.PWordsOne Go.Proofs.YthlneoocmkknkaaW.PrintWords Go.Proofs.YthlneoocmkknkaaW.PrintLast Go.Proofs.YthlneoocmkknkaaW.PrintMore Go.Proofs.Ythlneoocmkknkaa.Math

theorem lives : garderobelaw01_lives.f 1 = some true := by decide +kernel

theorem WordsOne : garderobelaw01_WordsOne.Pure := by
  intro a b ha hb
  obtain ⟨ha, ha'⟩ := bounds_u16 ha
  obtain ⟨hb, hb'⟩ := bounds_u8 hb
  refine ⟨1, ?_⟩
  have wa := wo_bd ha ha'
  have h1 : words_Worth.f a = some (wo a) := by unfold words_Worth.f; rw [wo_prog ha ha']
  have h2 : garderoberef01_Worth.f a = some (wo a) := by
    unfold garderoberef01_Worth.f wo
    rw [w64 (n := a) (by omega) (by omega), w64 (by omega) (by omega)]
    split <;> rfl
  have h3 : words_Neg.f a = some ((-a) % 65536) := by unfold words_Neg.f; rw [wu16]
  have h4 : garderoberef01_Word.f (wrap64 (-wo a)) = some ((-a) % 65536) := by
    unfold garderoberef01_Word.f
    rw [w64 (n := -wo a) (by omega) (by omega), word_ref (by omega) (by omega)]
    have := wo_mod a
    congr 1; omega
  have ofb : ∀ x : Int, 0 ≤ x → x ≤ 255 → words_OfByte.f x = garderoberef01_OfByte.f x := by
    intro x hx hx'
    unfold words_OfByte.f garderoberef01_OfByte.f garderoberef01_Word.f
    rw [wi8, wi16, wu16]
    by_cases h : x ≥ 128
    · rw [if_pos h, w64 (n := x) (by omega) (by omega), w64 (n := x - 256) (by omega) (by omega), word_ref (by omega) (by omega)]
      simp only [Option.bind_some]
      congr 1; omega
    · rw [if_neg h, wu16]
      congr 1; omega
  have some_of : ∀ x : Int, ∃ y, words_OfByte.f x = some y := fun x => ⟨_, rfl⟩
  have e1 : Int.tmod a 256 % 256 = a % 256 := by rw [tmod_pos ha]; omega
  obtain ⟨y, hy⟩ := some_of (a % 256)
  obtain ⟨z, hz⟩ := some_of b
  unfold garderobelaw01_WordsOne.f words_Byte.f
  rw [h1, h2]
  simp only [Option.bind_some]
  rw [if_pos trivial, h3, h4]
  simp only [Option.bind_some]
  rw [if_pos trivial, e1, ← ofb (a % 256) (by omega) (by omega), hy]
  simp only [Option.bind_some]
  rw [if_pos trivial, ← ofb b hb hb', hz]
  simp only [Option.bind_some]
  rw [if_pos trivial, lives]; rfl

end Go.Proofs.Ythlneoocmkknkaa.Pure
