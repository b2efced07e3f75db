/- WordsBack: of all two words what is added is taken away again, Neg of Neg is the word, Byte of Byte is Byte, and the and and the xor add up to the or. No condition. -/
import Derived.Test.YthlneoocmkknkaaBackWalk
import Derived.Test.YthlneoocmkknkaaMath
namespace Go.Proofs.Ythlneoocmkknkaa.BackPure
open Go.RowKit Go.Proofs.Ythlneoocmkknkaa.PWordsOne Go.Proofs.YthlneoocmkknkaaW.PrintWords Go.Proofs.YthlneoocmkknkaaW.PrintLast Go.Proofs.YthlneoocmkknkaaW.PrintMore Go.Proofs.Ythlneoocmkknkaa.Math

theorem worth_p {a : Int} (h : 0 ≤ a) (h' : a ≤ 65535) : words_Worth.f a = some (wo a) := by
  unfold words_Worth.f; rw [wo_prog h h']
/-- what Two answers -/
def two (op a b : Int) : Int × Int × Int :=
  if op = 1 then ((a + b) % 65536, 0, 0) else if op = 2 then ((a - b) % 65536, 0, 0) else if op = 3 then ((a * b) % 65536, 0, 0)
  else if op = 9 then (Go.bits .and .u16 a b, 0, 0) else if op = 10 then (Go.bits .or .u16 a b, 0, 0) else if op = 11 then (Go.bits .xor .u16 a b, 0, 0)
  else if op = 4 then (if wo b = 0 then (0, 1, 0) else (Int.tdiv (wo a) (wo b) % 65536, 0, 0))
  else if op = 5 then (if wo b = 0 then (0, 1, 0) else (Int.tmod (wo a) (wo b) % 65536, 0, 0))
  else if op = 8 then (((wo a % 4294967296) / 2 ^ (b % 32).toNat) % 65536, 0, 0)
  else if op = 7 then ((wo a / 2 ^ (b % 32).toNat) % 65536, 0, 0)
  else if op = 6 then ((wo a * 2 ^ (b % 32).toNat) % 65536, 0, 0) else (0, 0, 2)

theorem two_p (k : Nat) (op a b : Int) (ha : 0 ≤ a) (ha' : a ≤ 65535) (hb : 0 ≤ b) (hb' : b ≤ 65535) : words_Two.f (k + 1) op a b = some (two op a b) := by
  have wa := wo_bd ha ha'
  have wb := wo_bd hb hb'
  unfold words_Two.f two
  rw [worth_p ha ha', worth_p hb hb']
  simp only [Option.bind_some]
  by_cases h1 : op = 1
  · rw [if_pos h1, if_pos h1, wu16]
  rw [if_neg h1, if_neg h1]
  by_cases h2 : op = 2
  · rw [if_pos h2, if_pos h2, wu16]
  rw [if_neg h2, if_neg h2]
  by_cases h3 : op = 3
  · rw [if_pos h3, if_pos h3, wu16]
  rw [if_neg h3, if_neg h3]
  by_cases h9 : op = 9
  · rw [if_pos h9, if_pos h9]
  rw [if_neg h9, if_neg h9]
  by_cases h10 : op = 10
  · rw [if_pos h10, if_pos h10]
  rw [if_neg h10, if_neg h10]
  by_cases h11 : op = 11
  · rw [if_pos h11, if_pos h11]
  rw [if_neg h11, if_neg h11]
  have hs : 0 ≤ Go.bits .and .u16 b 31 := by rw [and31 hb hb']; omega
  have hm : min (b % 32).toNat 32 = (b % 32).toNat := by omega
  by_cases h4 : op = 4
  · rw [if_pos h4, if_pos h4]
    subst h4
    simp only [words_Two.j0]
    rw [if_pos (by decide)]
    by_cases hz : wo b = 0
    · rw [if_pos hz, if_pos hz]
    · rw [if_neg hz, if_neg hz, if_pos trivial, wu16, w64]
      · have := tdiv_bd (y := wo b) (x := wo a) (by omega) (by omega); omega
      · have := tdiv_bd (y := wo b) (x := wo a) (by omega) (by omega); omega
  rw [if_neg h4, if_neg h4]
  by_cases h5 : op = 5
  · rw [if_pos h5]
    subst h5
    simp only [words_Two.j0]
    rw [if_pos (by decide)]
    by_cases hz : wo b = 0
    · rw [if_pos hz, if_pos hz]
    · rw [if_neg hz, if_neg hz, if_neg (by decide), wu16]
  have e : (op == 5) = false := beq_eq_false_iff_ne.2 h5
  rw [if_neg h5, e, w32 (by omega) (by omega)]
  simp only [words_Two.j0]
  rw [if_neg (by decide)]
  by_cases h8 : op = 8
  · rw [if_pos h8, if_pos h8, if_pos hs, and31 hb hb', wu16]
    unfold shr; simp only [IntKind.bits]; rw [hm]
  rw [if_neg h8, if_neg h8]
  by_cases h7 : op = 7
  · rw [if_pos h7, if_pos h7, if_pos hs, and31 hb hb', wu16]
    unfold shr; simp only [IntKind.bits]; rw [hm]
  rw [if_neg h7, if_neg h7]
  by_cases h6 : op = 6
  · rw [if_pos h6, if_pos h6, if_pos hs, and31 hb hb', wu16]
    unfold shl; simp only [IntKind.bits]; rw [hm, IntKind.wrap_i32]
    congr 2; omega
  rw [if_neg h6, if_neg h6]

theorem lives : garderobelaw01_lives.f 1 = some true := by decide +kernel

theorem and_xor (a b i : Nat) : bop 9 a b % 2 ^ i + bop 11 a b % 2 ^ i = bop 10 a b % 2 ^ i := by
  induction i with
  | zero => simp [Nat.mod_one]
  | succ i ih =>
    rw [bop_step (by simp) a b i, bop_step (by simp) a b i, bop_step (by simp) a b i]
    have ha : bitOf a i < 2 := Nat.mod_lt _ (by decide)
    have hb : bitOf b i < 2 := Nat.mod_lt _ (by decide)
    have p : 2 ^ i > 0 := Nat.two_pow_pos i
    generalize bitOf a i = u at *
    generalize bitOf b i = v at *
    generalize 2 ^ i = p at *
    have hu : u = 0 ∨ u = 1 := by omega
    have hv : v = 0 ∨ v = 1 := by omega
    rcases hu with rfl | rfl <;> rcases hv with rfl | rfl <;> simp [bset] <;> omega

theorem walk (a b : Int) (w : World) (w0 : (Lit.int .u16 a).wf = true) (w1 : (Lit.int .u16 b).wf = true) :
    Calls Try.prog 7 #[.int .u16 a, .int .u16 b] w fun e w' => e = .returned (.bool true) ∧ Below w.heap.size w w' := by
  obtain ⟨ha, ha'⟩ := bounds_u16 w0
  obtain ⟨hb, hb'⟩ := bounds_u16 w1
  have t1 : ∀ x y, two 1 x y = ((x + y) % 65536, 0, 0) := fun _ _ => rfl
  have t2 : ∀ x y, two 2 x y = ((x - y) % 65536, 0, 0) := fun _ _ => rfl
  have ea : a = ((a.toNat : Nat) : Int) := by omega
  have eb : b = ((b.toNat : Nat) : Int) := by omega
  have l9 := bop_lt (op := 9) (a := a.toNat) (b := b.toNat) (by omega) (by omega)
  have l10 := bop_lt (op := 10) (a := a.toNat) (b := b.toNat) (by omega) (by omega)
  have l11 := bop_lt (op := 11) (a := a.toNat) (b := b.toNat) (by omega) (by omega)
  have hx := and_xor a.toNat b.toNat 16
  rw [Nat.mod_eq_of_lt l9, Nat.mod_eq_of_lt l10, Nat.mod_eq_of_lt l11] at hx
  have e9 : two 9 a b = (((bop 9 a.toNat b.toNat : Nat) : Int), 0, 0) := by
    show (Go.bits .and .u16 a b, (0 : Int), (0 : Int)) = _
    conv => lhs; rw [ea, eb]
    rw [bop_and (by omega) (by omega)]
  have e10 : two 10 a b = (((bop 10 a.toNat b.toNat : Nat) : Int), 0, 0) := by
    show (Go.bits .or .u16 a b, (0 : Int), (0 : Int)) = _
    conv => lhs; rw [ea, eb]
    rw [bop_or (by omega) (by omega)]
  have e11 : two 11 a b = (((bop 11 a.toNat b.toNat : Nat) : Int), 0, 0) := by
    show (Go.bits .xor .u16 a b, (0 : Int), (0 : Int)) = _
    conv => lhs; rw [ea, eb]
    rw [bop_xor (by omega) (by omega)]
  have ofb : ∀ x : Int, 0 ≤ x → x ≤ 255 → words_OfByte.f x = some (if x ≥ 128 then x + 65280 else x) := by
    intro x hx hx'
    unfold words_OfByte.f
    rw [wi8, wi16, wu16]
    split <;> (congr 1; omega)
  refine (BackWalk.calls a b ((a + b) % 65536) (bop 9 a.toNat b.toNat : Nat) (bop 10 a.toNat b.toNat : Nat) (bop 11 a.toNat b.toNat : Nat) ((-a) % 65536) (if a % 256 ≥ 128 then a % 256 + 65280 else a % 256) w
    ⟨?_⟩ ⟨?_⟩ ⟨?_⟩ ⟨?_⟩ ⟨?_⟩ ⟨?_⟩ ⟨?_⟩ ⟨?_⟩ ⟨?_⟩ ⟨?_⟩ ⟨lives⟩).mono ?_
  · rw [two_p 0 1 a b ha ha' hb hb', t1]
  · rw [two_p 0 2 _ b (by omega) (by omega) hb hb', t2]
    congr 2; omega
  · rw [two_p 0 9 a b ha ha' hb hb', e9]
  · rw [two_p 0 10 a b ha ha' hb hb', e10]
  · rw [two_p 0 11 a b ha ha' hb hb', e11]
  · rw [two_p 0 1 _ _ (by omega) (by omega) (by omega) (by omega), t1]
    congr 2; omega
  · unfold words_Neg.f; rw [wu16]
  · unfold words_Neg.f; rw [wu16]
    congr 1; omega
  · unfold words_Byte.f; rw [ofb _ (by omega) (by omega)]; rfl
  · unfold words_Byte.f
    have : (if a % 256 ≥ 128 then a % 256 + 65280 else a % 256) % 256 = a % 256 := by split <;> omega
    rw [this, ofb _ (by omega) (by omega)]; rfl
  · rintro e w' ⟨rfl, hd⟩
    exact ⟨rfl, hd.below⟩
end Go.Proofs.Ythlneoocmkknkaa.BackPure
