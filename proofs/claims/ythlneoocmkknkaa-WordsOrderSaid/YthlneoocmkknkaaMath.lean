/- Plain arithmetic on 16-bit words: wraps, quotients, shifts, bits. -/
import Derived.Test.YthlneoocmkknkaaWMore
import Derived.Laws.BitsLemmas
import Derived.OpenShut
namespace Go.Proofs.Ythlneoocmkknkaa.Math
open Go.RowKit Go.Proofs.YthlneoocmkknkaaW.PrintWords Go.Proofs.YthlneoocmkknkaaW.PrintLast Go.Proofs.YthlneoocmkknkaaW.PrintMore

theorem wu16 (n : Int) : IntKind.u16.wrap n = n % 65536 := by simp [IntKind.wrap, IntKind.bits, IntKind.signed]
theorem wi16 (n : Int) : IntKind.i16.wrap n = (n + 32768) % 65536 - 32768 := by
  simp [IntKind.wrap, IntKind.bits, IntKind.signed]
  split <;> omega
theorem wi8 (n : Int) : IntKind.i8.wrap n = (n + 128) % 256 - 128 := by
  simp [IntKind.wrap, IntKind.bits, IntKind.signed]
  split <;> omega
theorem w64 {n : Int} (h : -1000000000000000000 ≤ n) (h' : n ≤ 1000000000000000000) : wrap64 n = n := by unfold wrap64; omega
theorem w32 {n : Int} (h : -2147483648 ≤ n) (h' : n ≤ 2147483647) : wrap32 n = n := by unfold wrap32; omega

/-- the signed worth of a word -/
def wo (a : Int) : Int := if a ≥ 32768 then a - 65536 else a
theorem wo_bd {a : Int} (h : 0 ≤ a) (h' : a ≤ 65535) : -32768 ≤ wo a ∧ wo a ≤ 32767 := by unfold wo; split <;> omega
theorem wo_mod (a : Int) : wo a % 65536 = a % 65536 := by unfold wo; split <;> omega
theorem wo_get {a : Int} (h : 0 ≤ a) (h' : a ≤ 65535) : wo a % 65536 = a := by unfold wo; split <;> omega
theorem wo_prog {a : Int} (h : 0 ≤ a) (h' : a ≤ 65535) : wrap64 (IntKind.i16.wrap a) = wo a := by
  rw [wi16]; unfold wo; rw [w64 (by omega) (by omega)]; split <;> omega

theorem tmod_pos {n m : Int} (h : 0 ≤ n) : Int.tmod n m = n % m := Int.tmod_eq_emod_of_nonneg h
theorem tdiv_pos {n m : Int} (h : 0 ≤ n) : Int.tdiv n m = n / m := Int.tdiv_eq_ediv_of_nonneg h

/-- the reference's Word -/
theorem word_ref {n : Int} (h : -1000000000000000 ≤ n) (h' : n ≤ 1000000000000000) :
    IntKind.u16.wrap (Int.tmod (wrap64 ((Int.tmod n 65536) + 65536)) 65536) = n % 65536 := by
  have hb : -65536 < Int.tmod n 65536 ∧ Int.tmod n 65536 < 65536 ∧ (Int.tmod n 65536) % 65536 = n % 65536 := by
    by_cases hn : 0 ≤ n
    · rw [tmod_pos hn]; omega
    · have e : Int.tmod n 65536 = -((-n) % 65536) := by
        have : n = -(-n) := by omega
        rw [this, Int.neg_tmod, tmod_pos (by omega)]; simp
      rw [e]; omega
  rw [w64 (by omega) (by omega), tmod_pos (by omega), wu16]; omega

theorem tdiv_bd {x y : Int} (h : -32768 ≤ x) (h' : x ≤ 32768) : -32768 ≤ Int.tdiv x y ∧ Int.tdiv x y ≤ 32768 := by
  have := Int.natAbs_tdiv_le_natAbs x y
  omega

theorem tmod_bd {x y : Int} (hy : y ≠ 0) (h : -32768 ≤ y) (h' : y ≤ 32767) : -32768 < Int.tmod x y ∧ Int.tmod x y < 32768 := by
  have h1 := Int.natAbs_tmod x y
  have : x.natAbs % y.natAbs < y.natAbs := Nat.mod_lt _ (by omega)
  omega

theorem tmod_eq (x y : Int) : x - Int.tdiv x y * y = Int.tmod x y := by
  have := Int.tdiv_mul_add_tmod x y
  omega

theorem and31 {b : Int} (h : 0 ≤ b) (h' : b ≤ 65535) : Go.bits .and .u16 b 31 = b % 32 :=
  bits_mask .u16 16 (by decide) (fun n h0 h1 => by rw [wu16]; omega) 5 (by decide) b h (by omega)

theorem pow_le (s : Nat) (h : s ≤ 31) : (1 : Int) ≤ 2 ^ s ∧ (2 : Int) ^ s ≤ 2147483648 := by
  have h1 : 2 ^ s ≤ 2 ^ 31 := Nat.pow_le_pow_right (by decide) h
  have h2 : 0 < 2 ^ s := Nat.two_pow_pos s
  constructor
  · have : ((1 : Nat) : Int) ≤ ((2 ^ s : Nat) : Int) := by exact_mod_cast h2
    simpa using this
  · have : ((2 ^ s : Nat) : Int) ≤ ((2 ^ 31 : Nat) : Int) := by exact_mod_cast h1
    simpa using this

theorem mod_mul_right (x p : Int) : (x * (p % 65536)) % 65536 = (x * p) % 65536 := by
  rw [Int.mul_emod, Int.emod_emod_of_dvd _ (Int.dvd_refl _), ← Int.mul_emod]

/-- floor division out of the truncated one -/
theorem floor_div {x p : Int} (hp : 0 < p) : x / p = if x < 0 then (if Int.tdiv x p * p = x then Int.tdiv x p else Int.tdiv x p - 1) else Int.tdiv x p := by
  by_cases hx : x < 0
  · rw [if_pos hx]
    have e := Int.tdiv_mul_add_tmod x p
    have m1 : Int.tmod x p ≤ 0 := by
      have : x = -(-x) := by omega
      rw [this, Int.neg_tmod]
      have := Int.tmod_nonneg p (a := -x) (by omega)
      omega
    have m2 : -p < Int.tmod x p := by
      have h1 := Int.natAbs_tmod x p
      have : x.natAbs % p.natAbs < p.natAbs := Nat.mod_lt _ (by omega)
      omega
    by_cases hq : Int.tdiv x p * p = x
    · rw [if_pos hq]
      conv => lhs; rw [← hq]
      exact Int.mul_ediv_cancel _ (by omega)
    · rw [if_neg hq]
      have : x = (Int.tmod x p + p) + (Int.tdiv x p - 1) * p := by rw [Int.sub_mul]; omega
      conv => lhs; rw [this]
      rw [Int.add_mul_ediv_right _ _ (by omega), Int.ediv_eq_zero_of_lt (by omega) (by omega)]
      omega
  · rw [if_neg hx, tdiv_pos (by omega)]


theorem bits_xor_nat {a b : Nat} (ha : a < 65536) (hb : b < 65536) : Go.bits .xor .u16 a b = ((a ^^^ b : Nat) : Int) := by
  have ha' : a % 2 ^ 16 = a := Nat.mod_eq_of_lt ha
  have hb' : b % 2 ^ 16 = b := Nat.mod_eq_of_lt hb
  have hx : a ^^^ b < 2 ^ 16 := Nat.xor_lt_two_pow ha hb
  have e : (BitVec.ofInt 16 (a : Int) ^^^ BitVec.ofInt 16 (b : Int)).toNat = a ^^^ b := by
    rw [BitVec.toNat_xor, BitVec.ofInt_natCast, BitVec.ofInt_natCast, BitVec.toNat_ofNat, BitVec.toNat_ofNat, ha', hb']
  show IntKind.u16.wrap ((BitVec.ofInt 16 (a : Int) ^^^ BitVec.ofInt 16 (b : Int)).toNat : Int) = _
  rw [e, wu16]; omega

/-- what an operator of bits makes, as a natural number -/
def bop (op : Int) (a b : Nat) : Nat := if op = 9 then a &&& b else if op = 10 then a ||| b else a ^^^ b
theorem bop_lt {op : Int} {a b : Nat} (ha : a < 65536) (hb : b < 65536) : bop op a b < 65536 := by
  unfold bop
  split
  · exact Nat.and_lt_two_pow (n := 16) _ hb
  · split
    · exact Nat.or_lt_two_pow (n := 16) ha hb
    · exact Nat.xor_lt_two_pow (n := 16) ha hb
theorem bop_and {a b : Nat} (ha : a < 65536) (hb : b < 65536) : Go.bits .and .u16 a b = ((bop 9 a b : Nat) : Int) :=
  (bits_nat .u16 16 (by decide) (fun n h0 h1 => by rw [wu16]; omega) a b ha hb).1
theorem bop_or {a b : Nat} (ha : a < 65536) (hb : b < 65536) : Go.bits .or .u16 a b = ((bop 10 a b : Nat) : Int) :=
  (bits_nat .u16 16 (by decide) (fun n h0 h1 => by rw [wu16]; omega) a b ha hb).2
theorem bop_xor {a b : Nat} (ha : a < 65536) (hb : b < 65536) : Go.bits .xor .u16 a b = ((bop 11 a b : Nat) : Int) := bits_xor_nat ha hb

/-- one bit of a word -/
def bitOf (a i : Nat) : Nat := a / 2 ^ i % 2
theorem bitOf_test (a i : Nat) : (a.testBit i).toNat = bitOf a i := by
  unfold bitOf
  rw [Nat.testBit_eq_decide_div_mod_eq]
  have : a / 2 ^ i % 2 < 2 := Nat.mod_lt _ (by decide)
  by_cases h : a / 2 ^ i % 2 = 1
  · simp [h]
  · have : a / 2 ^ i % 2 = 0 := by omega
    simp [this]
/-- is the bit set? as the reference asks -/
def bset (op : Int) (c d : Nat) : Prop := op = 9 ∧ c + d = 2 ∨ op = 10 ∧ c + d > 0 ∨ op = 11 ∧ c + d = 1
instance (op : Int) (c d : Nat) : Decidable (bset op c d) := by unfold bset; exact inferInstance
theorem bop_step {op : Int} (ho : op = 9 ∨ op = 10 ∨ op = 11) (a b i : Nat) :
    bop op a b % 2 ^ (i + 1) = bop op a b % 2 ^ i + if bset op (bitOf a i) (bitOf b i) then 2 ^ i else 0 := by
  rw [Nat.mod_pow_succ, ← bitOf_test, ← bitOf_test]
  have e : bop op a b / 2 ^ i % 2 = ((bop op a b).testBit i).toNat := (bitOf_test _ _).symm
  rw [e]
  have : 2 ^ i * ((bop op a b).testBit i).toNat = if bset op (a.testBit i).toNat (b.testBit i).toNat then 2 ^ i else 0 := by
    clear e
    rcases ho with rfl | rfl | rfl
    · rw [show bop 9 a b = a &&& b from rfl, Nat.testBit_and]
      generalize a.testBit i = x
      generalize b.testBit i = y
      cases x <;> cases y <;> simp [bset]
    · rw [show bop 10 a b = a ||| b from rfl, Nat.testBit_or]
      generalize a.testBit i = x
      generalize b.testBit i = y
      cases x <;> cases y <;> simp [bset]
    · rw [show bop 11 a b = a ^^^ b from rfl, Nat.testBit_xor]
      generalize a.testBit i = x
      generalize b.testBit i = y
      cases x <;> cases y <;> simp [bset]
  rw [this]

end Go.Proofs.Ythlneoocmkknkaa.Math
