/- WordsMoves: of every word and every count, moving by one again and again is moving by as many; by one upward is twice it. No condition. -/
import Derived.Test.YthlneoocmkknkaaPWordsMovesx1
import Derived.Test.YthlneoocmkknkaaMath
namespace Go.Proofs.Ythlneoocmkknkaa.Pure
open Go.RowKit Go.Proofs.Ythlneoocmkknkaa.PWordsMoves Go.Proofs.YthlneoocmkknkaaW.PrintWords Go.Proofs.YthlneoocmkknkaaW.PrintLast Go.Proofs.YthlneoocmkknkaaW.PrintMore Go.Proofs.Ythlneoocmkknkaa.Math

theorem worth_p {a : Int} (h : 0 ≤ a) (h' : a ≤ 65535) : words_Worth.f a = some (wo a) := by
  unfold words_Worth.f; rw [wo_prog h h']
/-- what Two answers -/
def two (op a b : Int) : Int × Int × Int :=
  if op = 1 then ((a + b) % 65536, 0, 0) else if op = 2 then ((a - b) % 65536, 0, 0) else if op = 3 then ((a * b) % 65536, 0, 0)
  else if op = 9 then (Go.bits .and .u16 a b, 0, 0) else if op = 10 then (Go.bits .or .u16 a b, 0, 0) else if op = 11 then (Go.bits .xor .u16 a b, 0, 0)
  else if op = 4 then (if wo b = 0 then (0, 1, 0) else (Int.tdiv (wo a) (wo b) % 65536, 0, 0))
  else if op = 5 then (if wo b = 0 then (0, 1, 0) else (Int.tmod (wo a) (wo b) % 65536, 0, 0))
  else if op = 8 then (((wo a % 4294967296) / 2 ^ (b % 32).toNat) % 65536, 0, 0)
  else if op = 7 then ((wo a / 2 ^ (b % 32).toNat) % 65536, 0, 0)
  else if op = 6 then ((wo a * 2 ^ (b % 32).toNat) % 65536, 0, 0) else (0, 0, 2)

theorem two_p (k : Nat) (op a b : Int) (ha : 0 ≤ a) (ha' : a ≤ 65535) (hb : 0 ≤ b) (hb' : b ≤ 65535) : words_Two.f (k + 1) op a b = some (two op a b) := by
  have wa := wo_bd ha ha'
  have wb := wo_bd hb hb'
  unfold words_Two.f two
  rw [worth_p ha ha', worth_p hb hb']
  simp only [Option.bind_some]
  by_cases h1 : op = 1
  · rw [if_pos h1, if_pos h1, wu16]
  rw [if_neg h1, if_neg h1]
  by_cases h2 : op = 2
  · rw [if_pos h2, if_pos h2, wu16]
  rw [if_neg h2, if_neg h2]
  by_cases h3 : op = 3
  · rw [if_pos h3, if_pos h3, wu16]
  rw [if_neg h3, if_neg h3]
  by_cases h9 : op = 9
  · rw [if_pos h9, if_pos h9]
  rw [if_neg h9, if_neg h9]
  by_cases h10 : op = 10
  · rw [if_pos h10, if_pos h10]
  rw [if_neg h10, if_neg h10]
  by_cases h11 : op = 11
  · rw [if_pos h11, if_pos h11]
  rw [if_neg h11, if_neg h11]
  have hs : 0 ≤ Go.bits .and .u16 b 31 := by rw [and31 hb hb']; omega
  have hm : min (b % 32).toNat 32 = (b % 32).toNat := by omega
  by_cases h4 : op = 4
  · rw [if_pos h4, if_pos h4]
    subst h4
    simp only [words_Two.j0]
    rw [if_pos (by decide)]
    by_cases hz : wo b = 0
    · rw [if_pos hz, if_pos hz]
    · rw [if_neg hz, if_neg hz, if_pos trivial, wu16, w64]
      · have := tdiv_bd (y := wo b) (x := wo a) (by omega) (by omega); omega
      · have := tdiv_bd (y := wo b) (x := wo a) (by omega) (by omega); omega
  rw [if_neg h4, if_neg h4]
  by_cases h5 : op = 5
  · rw [if_pos h5]
    subst h5
    simp only [words_Two.j0]
    rw [if_pos (by decide)]
    by_cases hz : wo b = 0
    · rw [if_pos hz, if_pos hz]
    · rw [if_neg hz, if_neg hz, if_neg (by decide), wu16]
  have e : (op == 5) = false := beq_eq_false_iff_ne.2 h5
  rw [if_neg h5, e, w32 (by omega) (by omega)]
  simp only [words_Two.j0]
  rw [if_neg (by decide)]
  by_cases h8 : op = 8
  · rw [if_pos h8, if_pos h8, if_pos hs, and31 hb hb', wu16]
    unfold shr; simp only [IntKind.bits]; rw [hm]
  rw [if_neg h8, if_neg h8]
  by_cases h7 : op = 7
  · rw [if_pos h7, if_pos h7, if_pos hs, and31 hb hb', wu16]
    unfold shr; simp only [IntKind.bits]; rw [hm]
  rw [if_neg h7, if_neg h7]
  by_cases h6 : op = 6
  · rw [if_pos h6, if_pos h6, if_pos hs, and31 hb hb', wu16]
    unfold shl; simp only [IntKind.bits]; rw [hm, IntKind.wrap_i32]
    congr 2; omega
  rw [if_neg h6, if_neg h6]

theorem lives : garderobelaw01_lives.f 1 = some true := by decide +kernel

theorem t6 {a b : Int} : two 6 a b = ((wo a * 2 ^ (b % 32).toNat) % 65536, 0, 0) := rfl
theorem t7 {a b : Int} : two 7 a b = ((wo a / 2 ^ (b % 32).toNat) % 65536, 0, 0) := rfl
theorem t8 {a b : Int} : two 8 a b = (((wo a % 4294967296) / 2 ^ (b % 32).toNat) % 65536, 0, 0) := rfl
theorem t1 {a b : Int} : two 1 a b = ((a + b) % 65536, 0, 0) := rfl
theorem up_mod (x p : Int) : (x % 65536 * p) % 65536 = (x * p) % 65536 := by
  rw [Int.mul_emod, Int.emod_emod_of_dvd _ (Int.dvd_refl _), ← Int.mul_emod]
theorem wo_up (x p : Int) : (wo x * p) % 65536 = (x * p) % 65536 := by
  rw [← up_mod, wo_mod, up_mod]
theorem down_bd (a : Int) (h : 0 ≤ a) (h' : a ≤ 65535) (i : Nat) : -32768 ≤ wo a / 2 ^ i ∧ wo a / 2 ^ i ≤ 32767 := by
  have wa := wo_bd h h'
  have hp : (0 : Int) < 2 ^ i := Int.pow_pos (by decide)
  have h1 : (1 : Int) ≤ 2 ^ i := hp
  constructor
  · apply Int.le_ediv_of_mul_le hp
    have : (-32768 : Int) * 2 ^ i ≤ -32768 * 1 := Int.mul_le_mul_of_nonpos_left (by decide) h1
    omega
  · have : wo a / 2 ^ i < 32768 := by
      apply Int.ediv_lt_of_lt_mul hp
      have : (32768 : Int) * 1 ≤ 32768 * 2 ^ i := Int.mul_le_mul_of_nonneg_left h1 (by decide)
      omega
    omega
theorem wo_down (a : Int) (h : 0 ≤ a) (h' : a ≤ 65535) (i : Nat) : wo ((wo a / 2 ^ i) % 65536) = wo a / 2 ^ i := by
  have hb := down_bd a h h' i
  generalize wo a / 2 ^ i = x at *
  unfold wo
  split <;> omega

theorem end_ev (a : Int) (ha : 0 ≤ a) (ha' : a ≤ 65535) (s : Nat) (hs : s ≤ 15) :
    Ev (fun k => garderobelaw01_WordsMoves.l0 k a s ((a * 2 ^ s) % 65536) ((wo a / 2 ^ s) % 65536) a s) true := by
  refine ⟨2, fun k hk => ?_⟩
  obtain ⟨k, rfl⟩ : ∃ m, k = m + 2 := ⟨k - 2, by omega⟩
  have e1 : (((s : Int) % 32).toNat) = s := by omega
  have wa := wo_bd ha ha'
  simp only [garderobelaw01_WordsMoves.l0]
  rw [if_neg (by omega), two_p k 6 a s ha ha' (by omega) (by omega), two_p k 7 a s ha ha' (by omega) (by omega), two_p k 8 a 0 ha ha' (by omega) (by omega),
    two_p k 1 a a ha ha' ha ha', two_p k 6 a 1 ha ha' (by omega) (by omega), t6, t7, t8, t1, t6]
  simp only [Option.bind_some]
  rw [if_pos trivial, if_pos trivial, if_pos trivial, if_pos trivial, if_pos trivial, e1, if_pos (wo_up a _), if_pos rfl]
  have e2 : wo a % 4294967296 / 2 ^ ((0 : Int) % 32).toNat % 65536 = a := by
    have : ((0 : Int) % 32).toNat = 0 := rfl
    rw [this, Int.pow_zero, Int.ediv_one]
    unfold wo at *
    split <;> omega
  have e3 : (a + a) % 65536 = wo a * 2 ^ ((1 : Int) % 32).toNat % 65536 := by
    have : ((1 : Int) % 32).toNat = 1 := rfl
    rw [this, wo_up]
    omega
  rw [if_pos e2, if_pos e3, at_rounds garderobelaw01_lives.mono (by omega) lives]; rfl

theorem loop_ev (a : Int) (ha : 0 ≤ a) (ha' : a ≤ 65535) (s : Nat) (hs : s ≤ 15) (d : Nat) : ∀ i : Nat, i + d = s →
    Ev (fun k => garderobelaw01_WordsMoves.l0 k a s ((a * 2 ^ i) % 65536) ((wo a / 2 ^ i) % 65536) a i) true := by
  induction d with
  | zero =>
    intro i hi
    obtain rfl : i = s := by omega
    exact end_ev a ha ha' i hs
  | succ d ih =>
    intro i hi
    obtain ⟨K, hK⟩ := ih (i + 1) (by omega)
    refine ⟨K + 2, fun k hk => ?_⟩
    obtain ⟨k, rfl⟩ : ∃ m, k = m + 2 := ⟨k - 2, by omega⟩
    have hx := hK (k + 1) (by omega)
    simp only at hx
    simp only [garderobelaw01_WordsMoves.l0] at hx ⊢
    rw [if_pos (by omega), two_p k 6 _ 1 (by omega) (by omega) (by omega) (by omega), two_p k 7 _ 1 (by omega) (by omega) (by omega) (by omega), t6, t7]
    simp only [Option.bind_some]
    have e1 : ((1 : Int) % 32).toNat = 1 := rfl
    have e2 : wo ((a * 2 ^ i) % 65536) * 2 ^ 1 % 65536 = (a * 2 ^ (i + 1)) % 65536 := by
      rw [wo_up, up_mod, Int.pow_succ, Int.mul_assoc]; rfl
    have e3 : wo ((wo a / 2 ^ i) % 65536) / 2 ^ 1 % 65536 = (wo a / 2 ^ (i + 1)) % 65536 := by
      rw [wo_down a ha ha' i, Int.pow_succ, Int.ediv_ediv_of_nonneg (Int.le_of_lt (Int.pow_pos (by decide)))]; rfl
    have e4 : IntKind.u16.wrap ((i : Int) + 1) = ((i + 1 : Nat) : Int) := by rw [wu16]; omega
    rw [e1, e2, e3, e4]
    exact hx

theorem WordsMoves : garderobelaw01_WordsMoves.Pure := by
  intro a n ha hn
  obtain ⟨ha, ha'⟩ := bounds_u16 ha
  obtain ⟨hn, hn'⟩ := bounds_u8 hn
  have h := loop_ev a ha ha' (n % 16).toNat (by omega) (n % 16).toNat 0 (by omega)
  obtain ⟨k, hk⟩ := h.rounds
  refine ⟨k, ?_⟩
  unfold garderobelaw01_WordsMoves.f
  have e1 : IntKind.u16.wrap (Int.tmod n 16) = (((n % 16).toNat : Nat) : Int) := by rw [tmod_pos hn, wu16]; omega
  have e2 : (a * 2 ^ 0) % 65536 = a := by rw [Int.pow_zero]; omega
  have e3 : (wo a / 2 ^ 0) % 65536 = a := by rw [Int.pow_zero, Int.ediv_one]; exact wo_get ha ha'
  rw [e2, e3] at hk
  rw [e1]
  exact hk

end Go.Proofs.Ythlneoocmkknkaa.Pure
