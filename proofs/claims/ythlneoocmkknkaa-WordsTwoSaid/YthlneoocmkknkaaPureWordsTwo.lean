/- WordsTwo: for every operator and all two words the program's Two answers what the reference's Two answers. No condition. -/
import Derived.Test.YthlneoocmkknkaaPWordsTwox3
import Derived.Test.YthlneoocmkknkaaMath
namespace Go.Proofs.Ythlneoocmkknkaa.Pure
open Go.RowKit Go.Proofs.Ythlneoocmkknkaa.PWordsTwo Go.Proofs.YthlneoocmkknkaaW.PrintWords Go.Proofs.YthlneoocmkknkaaW.PrintLast Go.Proofs.YthlneoocmkknkaaW.PrintMore Go.Proofs.Ythlneoocmkknkaa.Math

theorem worth_p {a : Int} (h : 0 ≤ a) (h' : a ≤ 65535) : words_Worth.f a = some (wo a) := by
  unfold words_Worth.f; rw [wo_prog h h']
theorem worth_r {a : Int} (h : 0 ≤ a) (h' : a ≤ 65535) : garderoberef01_Worth.f a = some (wo a) := by
  unfold garderoberef01_Worth.f wo
  rw [w64 (n := a) (by omega) (by omega), w64 (by omega) (by omega)]
  split <;> rfl
theorem word_r {n : Int} (h : -1000000000000000 ≤ n) (h' : n ≤ 1000000000000000) : garderoberef01_Word.f n = some (n % 65536) := by
  unfold garderoberef01_Word.f; rw [word_ref h h']

/-- what both answer -/
def two (op a b : Int) : Int × Int × Int :=
  if op = 1 then ((a + b) % 65536, 0, 0) else if op = 2 then ((a - b) % 65536, 0, 0) else if op = 3 then ((a * b) % 65536, 0, 0)
  else if op = 9 then (Go.bits .and .u16 a b, 0, 0) else if op = 10 then (Go.bits .or .u16 a b, 0, 0) else if op = 11 then (Go.bits .xor .u16 a b, 0, 0)
  else if op = 4 then (if wo b = 0 then (0, 1, 0) else (Int.tdiv (wo a) (wo b) % 65536, 0, 0))
  else if op = 5 then (if wo b = 0 then (0, 1, 0) else (Int.tmod (wo a) (wo b) % 65536, 0, 0))
  else if op = 8 then (((wo a % 4294967296) / 2 ^ (b % 32).toNat) % 65536, 0, 0)
  else if op = 7 then ((wo a / 2 ^ (b % 32).toNat) % 65536, 0, 0)
  else if op = 6 then ((wo a * 2 ^ (b % 32).toNat) % 65536, 0, 0) else (0, 0, 2)

theorem two_p (k : Nat) (op a b : Int) (ha : 0 ≤ a) (ha' : a ≤ 65535) (hb : 0 ≤ b) (hb' : b ≤ 65535) : words_Two.f (k + 1) op a b = some (two op a b) := by
  have wa := wo_bd ha ha'
  have wb := wo_bd hb hb'
  unfold words_Two.f two
  rw [worth_p ha ha', worth_p hb hb']
  simp only [Option.bind_some]
  by_cases h1 : op = 1
  · rw [if_pos h1, if_pos h1, wu16]
  rw [if_neg h1, if_neg h1]
  by_cases h2 : op = 2
  · rw [if_pos h2, if_pos h2, wu16]
  rw [if_neg h2, if_neg h2]
  by_cases h3 : op = 3
  · rw [if_pos h3, if_pos h3, wu16]
  rw [if_neg h3, if_neg h3]
  by_cases h9 : op = 9
  · rw [if_pos h9, if_pos h9]
  rw [if_neg h9, if_neg h9]
  by_cases h10 : op = 10
  · rw [if_pos h10, if_pos h10]
  rw [if_neg h10, if_neg h10]
  by_cases h11 : op = 11
  · rw [if_pos h11, if_pos h11]
  rw [if_neg h11, if_neg h11]
  have hs : 0 ≤ Go.bits .and .u16 b 31 := by rw [and31 hb hb']; omega
  have hm : min (b % 32).toNat 32 = (b % 32).toNat := by omega
  by_cases h4 : op = 4
  · rw [if_pos h4, if_pos h4]
    subst h4
    simp only [words_Two.j0]
    rw [if_pos (by decide)]
    by_cases hz : wo b = 0
    · rw [if_pos hz, if_pos hz]
    · rw [if_neg hz, if_neg hz, if_pos trivial, wu16, w64]
      · have := tdiv_bd (y := wo b) (x := wo a) (by omega) (by omega); omega
      · have := tdiv_bd (y := wo b) (x := wo a) (by omega) (by omega); omega
  rw [if_neg h4, if_neg h4]
  by_cases h5 : op = 5
  · rw [if_pos h5]
    subst h5
    simp only [words_Two.j0]
    rw [if_pos (by decide)]
    by_cases hz : wo b = 0
    · rw [if_pos hz, if_pos hz]
    · rw [if_neg hz, if_neg hz, if_neg (by decide), wu16]
  have e : (op == 5) = false := beq_eq_false_iff_ne.2 h5
  rw [if_neg h5, e, w32 (by omega) (by omega)]
  simp only [words_Two.j0]
  rw [if_neg (by decide)]
  by_cases h8 : op = 8
  · rw [if_pos h8, if_pos h8, if_pos hs, and31 hb hb', wu16]
    unfold shr; simp only [IntKind.bits]; rw [hm]
  rw [if_neg h8, if_neg h8]
  by_cases h7 : op = 7
  · rw [if_pos h7, if_pos h7, if_pos hs, and31 hb hb', wu16]
    unfold shr; simp only [IntKind.bits]; rw [hm]
  rw [if_neg h7, if_neg h7]
  by_cases h6 : op = 6
  · rw [if_pos h6, if_pos h6, if_pos hs, and31 hb hb', wu16]
    unfold shl; simp only [IntKind.bits]; rw [hm, IntKind.wrap_i32]
    congr 2; omega
  rw [if_neg h6, if_neg h6]

/-- the reference's rounds over one bit -/
theorem l2_ev (op a b n : Int) (i : Nat) (hi : i < 16) (r : Int × Int × Int) (h : Ev (fun k => garderoberef01_Two.l2 k op a b n i (2 ^ i) i) r) (d : Nat) :
    ∀ j : Nat, j + d = i → Ev (fun k => garderoberef01_Two.l2 k op a b n i (2 ^ j) j) r := by
  induction d with
  | zero => intro j hj; obtain rfl : j = i := by omega
            exact h
  | succ d ih =>
    intro j hj
    refine Ev.step (f := fun k => garderoberef01_Two.l2 k op a b n i (2 ^ (j + 1)) ((j + 1 : Nat) : Int)) (fun k => ?_) (ih (j + 1) (by omega))
    have := pow_le j (by omega)
    simp only [garderoberef01_Two.l2]
    rw [if_pos (by omega), w64 (by omega) (by omega), w64 (by omega) (by omega), Int.pow_succ]
    rfl

theorem bit_int (a i : Nat) (ha : a < 65536) : Int.tmod (wrap64 (Int.tdiv (wrap64 (a : Int)) (2 ^ i))) 2 = (bitOf a i : Int) := by
  rw [w64 (n := (a : Int)) (by omega) (by omega), tdiv_pos (by omega)]
  have hp : ((a : Int) / 2 ^ i) = ((a / 2 ^ i : Nat) : Int) := by simp
  have hle : a / 2 ^ i ≤ a := Nat.div_le_self _ _
  rw [hp]
  unfold bitOf
  generalize a / 2 ^ i = q at *
  rw [w64 (by omega) (by omega), tmod_pos (by omega)]
  omega

theorem l1_ev (op : Int) (ho : op = 9 ∨ op = 10 ∨ op = 11) (a b : Nat) (ha : a < 65536) (hb : b < 65536) (d : Nat) :
    ∀ i : Nat, i + d = 16 → Ev (fun k => garderoberef01_Two.l1 k op a b ((bop op a b % 2 ^ i : Nat) : Int) i) (((bop op a b : Nat) : Int), 0, 0) := by
  have hbl := bop_lt (op := op) ha hb
  induction d with
  | zero =>
    intro i hi
    obtain rfl : i = 16 := by omega
    refine Ev.step (f := fun _ => some (((bop op a b : Nat) : Int), 0, 0)) (fun k => ?_) (Ev.now _)
    simp only [garderoberef01_Two.l1]
    rw [if_neg (by decide), Nat.mod_eq_of_lt hbl, wu16]
    congr 2; omega
  | succ d ih =>
    intro i hi
    refine Ev.step (f := fun k => garderoberef01_Two.l2 k op a b ((bop op a b % 2 ^ i : Nat) : Int) i (2 ^ 0) ((0 : Nat) : Int)) (fun k => ?_) ?_
    · simp only [garderoberef01_Two.l1]
      rw [if_pos (by omega)]; rfl
    · refine l2_ev op a b _ i (by omega) _ ?_ i 0 (by omega)
      have hs := bop_step ho a b i
      refine Ev.step (f := fun k => garderoberef01_Two.l1 k op a b ((bop op a b % 2 ^ (i + 1) : Nat) : Int) ((i + 1 : Nat) : Int)) (fun k => ?_) (ih (i + 1) (by omega))
      have hp := pow_le i (by omega)
      have hp2 : ((2 ^ i : Nat) : Int) = (2 : Int) ^ i := by simp
      have hlt : bop op a b % 2 ^ i ≤ bop op a b := Nat.mod_le _ _
      have hc : bitOf a i < 2 := Nat.mod_lt _ (by decide)
      have hd : bitOf b i < 2 := Nat.mod_lt _ (by decide)
      simp only [garderoberef01_Two.l2]
      rw [if_neg (by omega), if_neg (by omega), bit_int a i ha, bit_int b i hb, w64 (n := (bitOf a i : Int) + bitOf b i) (by omega) (by omega),
        w64 (n := (i : Int) + 1) (by omega) (by omega), w64 (n := ((bop op a b % 2 ^ i : Nat) : Int) + 2 ^ i) (by omega) (by omega)]
      have yes : bset op (bitOf a i) (bitOf b i) → ((bop op a b % 2 ^ i : Nat) : Int) + 2 ^ i = ((bop op a b % 2 ^ (i + 1) : Nat) : Int) := by
        intro h; rw [hs, if_pos h, ← hp2]; omega
      have no : ¬ bset op (bitOf a i) (bitOf b i) → ((bop op a b % 2 ^ i : Nat) : Int) = ((bop op a b % 2 ^ (i + 1) : Nat) : Int) := by
        intro h; rw [hs, if_neg h]; omega
      by_cases h : bset op (bitOf a i) (bitOf b i)
      · rw [yes h]
        unfold bset at h
        rcases ho with rfl | rfl | rfl
        · rw [if_pos rfl, if_pos (by omega)]; rfl
        · rw [if_neg (by decide), if_pos rfl, if_pos (by omega)]; rfl
        · rw [if_neg (by decide), if_neg (by decide), if_pos rfl, if_pos (by omega)]; rfl
      · have hno := no h
        unfold bset at h
        rcases ho with rfl | rfl | rfl
        · rw [if_pos rfl, if_neg (by omega), if_neg (by decide), if_neg (by decide), hno]; rfl
        · rw [if_neg (by decide), if_pos rfl, if_neg (by omega), if_neg (by decide), hno]; rfl
        · rw [if_neg (by decide), if_neg (by decide), if_pos rfl, if_neg (by omega), hno]; rfl

theorem rest_ev (op a b : Int) (ha : 0 ≤ a) (ha' : a ≤ 65535) (hb : 0 ≤ b) (hb' : b ≤ 65535) (s : Nat) (hs : s ≤ 31) (hsb : (b % 32).toNat = s) :
    Ev (fun k => garderoberef01_Two.j1 k op a b (wo a) (wo b) (2 ^ s) (if wo a < 0 then wo a + 4294967296 else wo a)) (two op a b) := by
  have wa := wo_bd ha ha'
  have wb := wo_bd hb hb'
  have ma := wo_mod a
  have mb := wo_mod b
  have hp := pow_le s hs
  unfold two
  by_cases h1 : op = 1
  · rw [if_pos h1]
    refine Ev.step (f := fun _ => some ((a + b) % 65536, 0, 0)) (fun k => ?_) (Ev.now _)
    simp only [garderoberef01_Two.j1]
    rw [if_pos h1, w64 (by omega) (by omega), word_r (by omega) (by omega)]
    simp only [Option.bind_some]
    rw [show (wo a + wo b) % 65536 = (a + b) % 65536 from by omega]
  rw [if_neg h1]
  by_cases h2 : op = 2
  · rw [if_pos h2]
    refine Ev.step (f := fun _ => some ((a - b) % 65536, 0, 0)) (fun k => ?_) (Ev.now _)
    simp only [garderoberef01_Two.j1]
    rw [if_neg h1, if_pos h2, w64 (by omega) (by omega), word_r (by omega) (by omega)]
    simp only [Option.bind_some]
    rw [show (wo a - wo b) % 65536 = (a - b) % 65536 from by omega]
  rw [if_neg h2]
  by_cases h3 : op = 3
  · rw [if_pos h3]
    have hmul : -1073741824 ≤ wo a * wo b ∧ wo a * wo b ≤ 1073741824 := by
      have h : (wo a * wo b).natAbs ≤ 32768 * 32768 := by
        rw [Int.natAbs_mul]; exact Nat.mul_le_mul (by omega) (by omega)
      omega
    refine Ev.step (f := fun _ => some ((a * b) % 65536, 0, 0)) (fun k => ?_) (Ev.now _)
    simp only [garderoberef01_Two.j1]
    rw [if_neg h1, if_neg h2, if_pos h3, w64 (by omega) (by omega), word_r (by omega) (by omega)]
    simp only [Option.bind_some]
    rw [Int.mul_emod (wo a), ma, mb, ← Int.mul_emod]
  rw [if_neg h3]
  by_cases hbit : op = 9 ∨ op = 10 ∨ op = 11
  · have hr : (if op = 9 then (Go.bits .and .u16 a b, (0 : Int), (0 : Int)) else if op = 10 then (Go.bits .or .u16 a b, 0, 0) else if op = 11 then (Go.bits .xor .u16 a b, 0, 0)
      else if op = 4 then (if wo b = 0 then (0, 1, 0) else (Int.tdiv (wo a) (wo b) % 65536, 0, 0))
      else if op = 5 then (if wo b = 0 then (0, 1, 0) else (Int.tmod (wo a) (wo b) % 65536, 0, 0))
      else if op = 8 then (((wo a % 4294967296) / 2 ^ (b % 32).toNat) % 65536, 0, 0)
      else if op = 7 then ((wo a / 2 ^ (b % 32).toNat) % 65536, 0, 0)
      else if op = 6 then ((wo a * 2 ^ (b % 32).toNat) % 65536, 0, 0) else (0, 0, 2)) = (((bop op a.toNat b.toNat : Nat) : Int), 0, 0) := by
      have ea : a = ((a.toNat : Nat) : Int) := by omega
      have eb : b = ((b.toNat : Nat) : Int) := by omega
      rcases hbit with rfl | rfl | rfl
      · rw [if_pos rfl]; conv => lhs; rw [ea, eb]
        rw [bop_and (by omega) (by omega)]
      · rw [if_neg (by decide), if_pos rfl]; conv => lhs; rw [ea, eb]
        rw [bop_or (by omega) (by omega)]
      · rw [if_neg (by decide), if_neg (by decide), if_pos rfl]; conv => lhs; rw [ea, eb]
        rw [bop_xor (by omega) (by omega)]
    rw [hr]
    have e0 := l1_ev op hbit a.toNat b.toNat (by omega) (by omega) 16 0 (by omega)
    have ea : ((a.toNat : Nat) : Int) = a := by omega
    have eb : ((b.toNat : Nat) : Int) = b := by omega
    rw [ea, eb] at e0
    have e1 : Ev (fun k => garderoberef01_Two.j3 k op a b true) (((bop op a.toNat b.toNat : Nat) : Int), 0, 0) := by
      refine Ev.step (fun k => ?_) e0
      simp only [garderoberef01_Two.j3]
      rw [if_pos trivial, Nat.pow_zero, Nat.mod_one]; rfl
    have e2 : Ev (fun k => garderoberef01_Two.j2 k op a b (wo a) (wo b) (2 ^ s) (if wo a < 0 then wo a + 4294967296 else wo a) op (op == 5)) (((bop op a.toNat b.toNat : Nat) : Int), 0, 0) := by
      refine Ev.step (fun k => ?_) e1
      simp only [garderoberef01_Two.j2]
      rcases hbit with rfl | rfl | rfl
      · rw [if_neg (by decide), if_neg (by decide), if_neg (by decide), if_neg (by decide), if_pos rfl]; rfl
      · rw [if_neg (by decide), if_neg (by decide), if_neg (by decide), if_neg (by decide), if_neg (by decide), if_pos rfl]; rfl
      · rw [if_neg (by decide), if_neg (by decide), if_neg (by decide), if_neg (by decide), if_neg (by decide), if_neg (by decide)]; rfl
    refine Ev.step (fun k => ?_) e2
    simp only [garderoberef01_Two.j1]
    rw [if_neg h1, if_neg h2, if_neg h3, if_neg (by omega)]
  have h9 : ¬ op = 9 := fun h => hbit (Or.inl h)
  have h10 : ¬ op = 10 := fun h => hbit (Or.inr (Or.inl h))
  have h11 : ¬ op = 11 := fun h => hbit (Or.inr (Or.inr h))
  rw [if_neg h9, if_neg h10, if_neg h11]
  by_cases h4 : op = 4
  · rw [if_pos h4]
    have hq := tdiv_bd (y := wo b) (x := wo a) (by omega) (by omega)
    refine Ev.step (f := fun k => garderoberef01_Two.j2 k op a b (wo a) (wo b) (2 ^ s) (if wo a < 0 then wo a + 4294967296 else wo a) op (op == 4)) (fun k => ?_) ?_
    · simp only [garderoberef01_Two.j1]
      rw [if_neg h1, if_neg h2, if_neg h3, if_pos h4]
    · refine Ev.step (f := fun _ => some (if wo b = 0 then (0, 1, 0) else (Int.tdiv (wo a) (wo b) % 65536, 0, 0))) (fun k => ?_) (Ev.now _)
      simp only [garderoberef01_Two.j2]
      rw [if_pos (by simpa using h4)]
      by_cases hz : wo b = 0
      · rw [if_pos hz, if_pos hz]
      · rw [if_neg hz, if_neg hz, if_pos h4, w64 (by omega) (by omega), word_r (by omega) (by omega)]; rfl
  rw [if_neg h4]
  refine Ev.step (f := fun k => garderoberef01_Two.j2 k op a b (wo a) (wo b) (2 ^ s) (if wo a < 0 then wo a + 4294967296 else wo a) op (op == 5)) (fun k => ?_) ?_
  · simp only [garderoberef01_Two.j1]
    rw [if_neg h1, if_neg h2, if_neg h3, if_neg h4]
  by_cases h5 : op = 5
  · rw [if_pos h5]
    have hq := tdiv_bd (y := wo b) (x := wo a) (by omega) (by omega)
    refine Ev.step (f := fun _ => some (if wo b = 0 then (0, 1, 0) else (Int.tmod (wo a) (wo b) % 65536, 0, 0))) (fun k => ?_) (Ev.now _)
    simp only [garderoberef01_Two.j2]
    rw [if_pos (by simpa using h5)]
    by_cases hz : wo b = 0
    · rw [if_pos hz, if_pos hz]
    · have hm := tmod_bd (x := wo a) (y := wo b) hz (by omega) (by omega)
      have he := tmod_eq (wo a) (wo b)
      rw [if_neg hz, if_neg hz, if_neg h4, w64 (n := Int.tdiv (wo a) (wo b)) (by omega) (by omega), w64 (n := Int.tdiv (wo a) (wo b) * wo b) (by omega) (by omega), he,
        w64 (by omega) (by omega), word_r (by omega) (by omega)]; rfl
  rw [if_neg h5, hsb]
  have n5 : (op == 5) = false := beq_eq_false_iff_ne.2 h5
  by_cases h8 : op = 8
  · rw [if_pos h8]
    refine Ev.step (f := fun _ => some ((wo a % 4294967296 / 2 ^ s) % 65536, 0, 0)) (fun k => ?_) (Ev.now _)
    simp only [garderoberef01_Two.j2]
    have hu : (if wo a < 0 then wo a + 4294967296 else wo a) = wo a % 4294967296 := by split <;> omega
    have hq : 0 ≤ wo a % 4294967296 / 2 ^ s ∧ wo a % 4294967296 / 2 ^ s ≤ wo a % 4294967296 :=
      ⟨Int.ediv_nonneg (by omega) (by omega), Int.ediv_le_self _ (by omega)⟩
    rw [n5, if_neg (by decide), if_neg (by omega), if_neg (by omega), if_pos h8, if_neg (by omega), hu, tdiv_pos (by omega), w64 (by omega) (by omega), word_r (by omega) (by omega)]; rfl
  rw [if_neg h8]
  by_cases h7 : op = 7
  · rw [if_pos h7]
    refine Ev.step (f := fun _ => some ((wo a / 2 ^ s) % 65536, 0, 0)) (fun k => ?_) (Ev.now _)
    simp only [garderoberef01_Two.j2]
    have hq := tdiv_bd (y := 2 ^ s) (x := wo a) (by omega) (by omega)
    have hfl := floor_div (x := wo a) (p := 2 ^ s) (by omega)
    have hprod : -32768 ≤ Int.tdiv (wo a) (2 ^ s) * 2 ^ s ∧ Int.tdiv (wo a) (2 ^ s) * 2 ^ s ≤ 32768 := by
      have e := Int.tdiv_mul_add_tmod (wo a) (2 ^ s)
      have h1 := Int.natAbs_tmod (wo a) (2 ^ s)
      have h2 : (wo a).natAbs % ((2 : Int) ^ s).natAbs ≤ (wo a).natAbs := Nat.mod_le _ _
      by_cases hx : 0 ≤ wo a
      · have := Int.tmod_nonneg (2 ^ s) hx
        omega
      · have : Int.tmod (wo a) (2 ^ s) ≤ 0 := by
          have e1 : wo a = -(-wo a) := by omega
          rw [e1, Int.neg_tmod]
          have := Int.tmod_nonneg (2 ^ s) (a := -wo a) (by omega)
          omega
        omega
    rw [n5, if_neg (by decide), if_neg (by omega), if_pos h7, if_neg (by omega), w64 (n := Int.tdiv (wo a) (2 ^ s)) (by omega) (by omega), w64 (n := Int.tdiv (wo a) (2 ^ s) * 2 ^ s) (by omega) (by omega)]
    by_cases hneg : wo a < 0
    · rw [if_pos hneg] at hfl ⊢
      by_cases hd : Int.tdiv (wo a) (2 ^ s) * 2 ^ s = wo a
      · rw [if_pos hd] at hfl ⊢
        rw [word_r (by omega) (by omega), hfl]; rfl
      · rw [if_neg hd] at hfl ⊢
        rw [w64 (by omega) (by omega), word_r (by omega) (by omega), hfl]; rfl
    · rw [if_neg hneg] at hfl ⊢
      rw [word_r (by omega) (by omega), hfl]; rfl
  rw [if_neg h7]
  by_cases h6 : op = 6
  · rw [if_pos h6]
    refine Ev.step (f := fun _ => some ((wo a * 2 ^ s) % 65536, 0, 0)) (fun k => ?_) (Ev.now _)
    simp only [garderoberef01_Two.j2]
    have e1 : Int.tmod (wo a) 65536 = wo a := by
      by_cases hx : 0 ≤ wo a
      · rw [tmod_pos hx]; omega
      · have e1 : wo a = -(-wo a) := by omega
        rw [e1, Int.neg_tmod, tmod_pos (by omega)]; omega
    have hb2 : -4294967296 ≤ wo a * (2 ^ s % 65536) ∧ wo a * (2 ^ s % 65536) ≤ 4294967296 := by
      have h : (wo a * (2 ^ s % 65536)).natAbs ≤ 32768 * 65536 := by
        rw [Int.natAbs_mul]; exact Nat.mul_le_mul (by omega) (by omega)
      omega
    rw [n5, if_neg (by decide), if_pos h6, e1, tmod_pos (by omega), w64 (by omega) (by omega), word_r (by omega) (by omega), mod_mul_right]; rfl
  rw [if_neg h6]
  refine Ev.step (f := fun k => garderoberef01_Two.j3 k op a b (op == 11)) (fun k => ?_) ?_
  · simp only [garderoberef01_Two.j2]
    rw [n5, if_neg (by decide), if_neg h6, if_neg h7, if_neg h8, if_neg h9, if_neg h10]
  · refine Ev.step (f := fun _ => some (0, 0, 2)) (fun k => ?_) (Ev.now _)
    simp only [garderoberef01_Two.j3]
    rw [if_neg (by simpa using h11)]

theorem l0_ev (op a b : Int) (ha : 0 ≤ a) (ha' : a ≤ 65535) (hb : 0 ≤ b) (hb' : b ≤ 65535) (s : Nat) (hs : s ≤ 31) (hsb : (b % 32).toNat = s) (d : Nat) :
    ∀ i : Nat, i + d = s → Ev (fun k => garderoberef01_Two.l0 k op a b (wo a) (wo b) s (2 ^ i) i) (two op a b) := by
  have wa := wo_bd ha ha'
  induction d with
  | zero =>
    intro i hi
    obtain rfl : i = s := by omega
    refine Ev.step (fun k => ?_) (rest_ev op a b ha ha' hb hb' i hs hsb)
    simp only [garderoberef01_Two.l0]
    rw [if_neg (by omega)]
    by_cases h : wo a < 0
    · rw [if_pos h, if_pos h, w64 (by omega) (by omega)]
    · rw [if_neg h, if_neg h]
  | succ d ih =>
    intro i hi
    refine Ev.step (f := fun k => garderoberef01_Two.l0 k op a b (wo a) (wo b) s (2 ^ (i + 1)) ((i + 1 : Nat) : Int)) (fun k => ?_) (ih (i + 1) (by omega))
    have := pow_le i (by omega)
    simp only [garderoberef01_Two.l0]
    rw [if_pos (by omega), w64 (by omega) (by omega), w64 (by omega) (by omega), Int.pow_succ]
    rfl

theorem two_r (op a b : Int) (ha : 0 ≤ a) (ha' : a ≤ 65535) (hb : 0 ≤ b) (hb' : b ≤ 65535) : Ev (fun k => garderoberef01_Two.f k op a b) (two op a b) := by
  refine Ev.congr (fun k => ?_) (l0_ev op a b ha ha' hb hb' (b % 32).toNat (by omega) rfl (b % 32).toNat 0 (by omega))
  unfold garderoberef01_Two.f
  rw [worth_r ha ha', worth_r hb hb', tmod_pos hb, w64 (by omega) (by omega)]
  simp only [Option.bind_some]
  rw [show (((b % 32).toNat : Nat) : Int) = b % 32 from by omega]; rfl

theorem lives : garderobelaw01_lives.f 1 = some true := by decide +kernel

theorem WordsTwo : garderobelaw01_WordsTwo.Pure := by
  intro op a b ho ha hb
  obtain ⟨ha, ha'⟩ := bounds_u16 ha
  obtain ⟨hb, hb'⟩ := bounds_u16 hb
  obtain ⟨K, hK⟩ := two_r op a b ha ha' hb hb'
  refine ⟨K + 1, ?_⟩
  unfold garderobelaw01_WordsTwo.f
  have hr : garderoberef01_Two.f (K + 1) op a b = some (two op a b) := hK (K + 1) (by omega)
  rw [two_p K op a b ha ha' hb hb', hr]
  simp only [Option.bind_some]
  rw [if_pos trivial, if_pos trivial, if_pos trivial, at_rounds garderobelaw01_lives.mono (by omega) lives]; rfl

end Go.Proofs.Ythlneoocmkknkaa.Pure
