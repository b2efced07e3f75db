/- WordsDivides: of all two words the quotient times the divisor, and what is left, is the word again; what is left has its sign, or is 0. No condition. -/
import Derived.Test.YthlneoocmkknkaaPWordsDividesx1
import Derived.Test.YthlneoocmkknkaaMath
namespace Go.Proofs.Ythlneoocmkknkaa.Pure
open Go.RowKit Go.Proofs.Ythlneoocmkknkaa.PWordsDivides Go.Proofs.YthlneoocmkknkaaW.PrintWords Go.Proofs.YthlneoocmkknkaaW.PrintLast Go.Proofs.YthlneoocmkknkaaW.PrintMore Go.Proofs.Ythlneoocmkknkaa.Math

theorem worth_p {a : Int} (h : 0 ≤ a) (h' : a ≤ 65535) : words_Worth.f a = some (wo a) := by
  unfold words_Worth.f; rw [wo_prog h h']
/-- what Two answers -/
def two (op a b : Int) : Int × Int × Int :=
  if op = 1 then ((a + b) % 65536, 0, 0) else if op = 2 then ((a - b) % 65536, 0, 0) else if op = 3 then ((a * b) % 65536, 0, 0)
  else if op = 9 then (Go.bits .and .u16 a b, 0, 0) else if op = 10 then (Go.bits .or .u16 a b, 0, 0) else if op = 11 then (Go.bits .xor .u16 a b, 0, 0)
  else if op = 4 then (if wo b = 0 then (0, 1, 0) else (Int.tdiv (wo a) (wo b) % 65536, 0, 0))
  else if op = 5 then (if wo b = 0 then (0, 1, 0) else (Int.tmod (wo a) (wo b) % 65536, 0, 0))
  else if op = 8 then (((wo a % 4294967296) / 2 ^ (b % 32).toNat) % 65536, 0, 0)
  else if op = 7 then ((wo a / 2 ^ (b % 32).toNat) % 65536, 0, 0)
  else if op = 6 then ((wo a * 2 ^ (b % 32).toNat) % 65536, 0, 0) else (0, 0, 2)

theorem two_p (k : Nat) (op a b : Int) (ha : 0 ≤ a) (ha' : a ≤ 65535) (hb : 0 ≤ b) (hb' : b ≤ 65535) : words_Two.f (k + 1) op a b = some (two op a b) := by
  have wa := wo_bd ha ha'
  have wb := wo_bd hb hb'
  unfold words_Two.f two
  rw [worth_p ha ha', worth_p hb hb']
  simp only [Option.bind_some]
  by_cases h1 : op = 1
  · rw [if_pos h1, if_pos h1, wu16]
  rw [if_neg h1, if_neg h1]
  by_cases h2 : op = 2
  · rw [if_pos h2, if_pos h2, wu16]
  rw [if_neg h2, if_neg h2]
  by_cases h3 : op = 3
  · rw [if_pos h3, if_pos h3, wu16]
  rw [if_neg h3, if_neg h3]
  by_cases h9 : op = 9
  · rw [if_pos h9, if_pos h9]
  rw [if_neg h9, if_neg h9]
  by_cases h10 : op = 10
  · rw [if_pos h10, if_pos h10]
  rw [if_neg h10, if_neg h10]
  by_cases h11 : op = 11
  · rw [if_pos h11, if_pos h11]
  rw [if_neg h11, if_neg h11]
  have hs : 0 ≤ Go.bits .and .u16 b 31 := by rw [and31 hb hb']; omega
  have hm : min (b % 32).toNat 32 = (b % 32).toNat := by omega
  by_cases h4 : op = 4
  · rw [if_pos h4, if_pos h4]
    subst h4
    simp only [words_Two.j0]
    rw [if_pos (by decide)]
    by_cases hz : wo b = 0
    · rw [if_pos hz, if_pos hz]
    · rw [if_neg hz, if_neg hz, if_pos trivial, wu16, w64]
      · have := tdiv_bd (y := wo b) (x := wo a) (by omega) (by omega); omega
      · have := tdiv_bd (y := wo b) (x := wo a) (by omega) (by omega); omega
  rw [if_neg h4, if_neg h4]
  by_cases h5 : op = 5
  · rw [if_pos h5]
    subst h5
    simp only [words_Two.j0]
    rw [if_pos (by decide)]
    by_cases hz : wo b = 0
    · rw [if_pos hz, if_pos hz]
    · rw [if_neg hz, if_neg hz, if_neg (by decide), wu16]
  have e : (op == 5) = false := beq_eq_false_iff_ne.2 h5
  rw [if_neg h5, e, w32 (by omega) (by omega)]
  simp only [words_Two.j0]
  rw [if_neg (by decide)]
  by_cases h8 : op = 8
  · rw [if_pos h8, if_pos h8, if_pos hs, and31 hb hb', wu16]
    unfold shr; simp only [IntKind.bits]; rw [hm]
  rw [if_neg h8, if_neg h8]
  by_cases h7 : op = 7
  · rw [if_pos h7, if_pos h7, if_pos hs, and31 hb hb', wu16]
    unfold shr; simp only [IntKind.bits]; rw [hm]
  rw [if_neg h7, if_neg h7]
  by_cases h6 : op = 6
  · rw [if_pos h6, if_pos h6, if_pos hs, and31 hb hb', wu16]
    unfold shl; simp only [IntKind.bits]; rw [hm, IntKind.wrap_i32]
    congr 2; omega
  rw [if_neg h6, if_neg h6]

theorem lives : garderobelaw01_lives.f 1 = some true := by decide +kernel

theorem WordsDivides : garderobelaw01_WordsDivides.Pure := by
  intro a b ha hb
  obtain ⟨ha, ha'⟩ := bounds_u16 ha
  obtain ⟨hb, hb'⟩ := bounds_u16 hb
  refine ⟨1, ?_⟩
  unfold garderobelaw01_WordsDivides.f
  by_cases h0 : b = 0
  · rw [if_pos h0, lives]; rfl
  rw [if_neg h0]
  have wa := wo_bd ha ha'
  have wb := wo_bd hb hb'
  have mb := wo_mod b
  have hz : ¬ wo b = 0 := by unfold wo; split <;> omega
  have hQ := tdiv_bd (y := wo b) (x := wo a) (by omega) (by omega)
  have hR := tmod_bd (x := wo a) (y := wo b) hz (by omega) (by omega)
  have he := tmod_eq (wo a) (wo b)
  have t4 : two 4 a b = (Int.tdiv (wo a) (wo b) % 65536, 0, 0) := by
    show (if wo b = 0 then ((0 : Int), (1 : Int), (0 : Int)) else (Int.tdiv (wo a) (wo b) % 65536, 0, 0)) = _
    rw [if_neg hz]
  have t5 : two 5 a b = (Int.tmod (wo a) (wo b) % 65536, 0, 0) := by
    show (if wo b = 0 then ((0 : Int), (1 : Int), (0 : Int)) else (Int.tmod (wo a) (wo b) % 65536, 0, 0)) = _
    rw [if_neg hz]
  have t3 : ∀ x y, two 3 x y = ((x * y) % 65536, 0, 0) := fun _ _ => rfl
  have t1 : ∀ x y, two 1 x y = ((x + y) % 65536, 0, 0) := fun _ _ => rfl
  have hs : (Int.tdiv (wo a) (wo b) % 65536 * b % 65536 + Int.tmod (wo a) (wo b) % 65536) % 65536 = a := by
    have e1 : (Int.tdiv (wo a) (wo b) % 65536 * b) % 65536 = (Int.tdiv (wo a) (wo b) * wo b) % 65536 := by
      rw [Int.mul_emod, Int.emod_emod_of_dvd _ (Int.dvd_refl _), ← mb, ← Int.mul_emod]
    rw [e1]
    have := wo_get ha ha'
    omega
  rw [two_p 0 4 a b ha ha' hb hb', two_p 0 5 a b ha ha' hb hb', t4, t5]
  simp only [Option.bind_some]
  rw [two_p 0 3 _ b (by omega) (by omega) hb hb', t3]
  simp only [Option.bind_some]
  rw [two_p 0 1 _ _ (by omega) (by omega) (by omega) (by omega), t1]
  simp only [Option.bind_some]
  rw [if_pos trivial, if_pos trivial, if_pos trivial, if_pos trivial, if_pos hs]
  by_cases hr : Int.tmod (wo a) (wo b) % 65536 = 0
  · rw [if_pos hr, lives]; rfl
  rw [if_neg hr, worth_p (by omega) (by omega), worth_p ha ha', lives]
  simp only [Option.bind_some]
  have e2 : wo (Int.tmod (wo a) (wo b) % 65536) = Int.tmod (wo a) (wo b) := by
    have hh := hR
    clear hs he hQ
    generalize Int.tmod (wo a) (wo b) = R at *
    unfold wo
    split <;> omega
  have hsg : (decide (wo (Int.tmod (wo a) (wo b) % 65536) < 0) == decide (wo a < 0)) = true := by
    rw [e2]
    by_cases hx : 0 ≤ wo a
    · have := Int.tmod_nonneg (wo b) hx
      simp; omega
    · have e3 : Int.tmod (wo a) (wo b) = -Int.tmod (-wo a) (wo b) := by
        rw [← Int.neg_tmod]; simp
      have := Int.tmod_nonneg (wo b) (a := -wo a) (by omega)
      simp; omega
  rw [if_pos hsg]

end Go.Proofs.Ythlneoocmkknkaa.Pure
