/- lib.sig: the signature of a native. -/
import Derived.Test.YtjknnifcbcdjiaaDoorLibT
import Derived.Test.YtjknnifcbcdjiaaDoorShelf
set_option linter.unusedVariables false
set_option linter.unusedSimpArgs false
namespace Go.Proofs.YtjknnifcbcdjiaaDoor.Tab
open Go.RowKit Go.Proofs.YtjknnifcbcdjiaaDoor.Base Go.Proofs.YtjknnifcbcdjiaaDoorW.PrintWords Go.Proofs.YtjknnifcbcdjiaaDoorW.PrintLast
/-- What the library's contracts ask of package-level variables. -/
def Gl (w : World) : Prop := (∃ m, w.cell? ⟨2, 0, none⟩ = some (.int .i64 m)) ∧ Lib.TabIs Tryd.prog w "strings.asciiSpace" .u8 Lib.asciiSpaceTab
theorem Gl.ch {w w' : World} (h : Gl w) (c : Ch (fun _ => False) w w') : Gl w' := by
  obtain ⟨⟨m, hm⟩, ht⟩ := h
  refine ⟨⟨m, (c.cell (World.block_lt_of_cell? w _ hm) (fun h => h)).trans hm⟩, ?_⟩
  unfold Lib.TabIs World.var? at *
  cases hg : Tryd.prog.globalNamed "strings.asciiSpace" with
  | none => rw [hg] at ht; cases ht
  | some g =>
    rw [hg] at ht
    simp only [Option.bind_some] at ht ⊢
    cases hb : w.heap[g]? with
    | none => rw [hb] at ht; cases ht
    | some o =>
      rw [(c.block g (Array.getElem?_eq_some_iff.1 hb).1 (fun h => h)).trans hb]
      rw [hb] at ht
      exact ht
def sigText : List UInt8 := [58, 32, 58, 115, 32, 115, 58, 32, 115, 58, 32, 115, 58, 32, 58, 122, 32, 58, 32, 115, 98, 58, 114, 32, 97, 58, 32, 58, 66, 32, 58, 115, 32, 115, 115, 58, 32, 58, 32, 58, 32, 58, 32, 58, 98, 32, 115, 98, 58, 66, 32, 115, 98, 58, 83, 32, 66, 115, 98, 98, 58, 114, 32, 58, 115, 32, 66, 115, 66, 115, 115, 58, 115, 32, 66, 115, 66, 115, 115, 58, 115, 32, 66, 115, 115, 98, 58, 115, 32, 66, 115, 66, 115, 115, 58, 98, 32, 66, 115, 58, 115, 32, 66, 115, 115, 58, 115]
def sigB : ByteArray := ⟨sigText.toArray⟩
def pieces : List (List UInt8) := [[58], [58, 115], [115, 58], [115, 58], [115, 58], [58, 122], [58], [115, 98, 58, 114], [97, 58], [58, 66], [58, 115], [115, 115, 58], [58], [58], [58], [58, 98], [115, 98, 58, 66], [115, 98, 58, 83], [66, 115, 98, 98, 58, 114], [58, 115], [66, 115, 66, 115, 115, 58, 115], [66, 115, 66, 115, 115, 58, 115], [66, 115, 115, 98, 58, 115], [66, 115, 66, 115, 115, 58, 98], [66, 115, 58, 115], [66, 115, 115, 58, 115]]
theorem fields_sig : Lib.fields sigB.data.toList = pieces := by kernel_rfl
def piece (n : Nat) : ByteArray := ⟨(pieces.getD n []).toArray⟩
def pA (n : Nat) : ByteArray := ⟨(Lib.cut (piece n).data.toList [58]).1.toArray⟩
def pB (n : Nat) : ByteArray := ⟨(Lib.cut (piece n).data.toList [58]).2.1.toArray⟩
def plain (s : ByteArray) : Bool := decide (s.size ≤ 1000) && s.data.toList.all (fun b => decide (b.toNat < 128))
theorem plain_ok {s : ByteArray} (h : plain s = true) : s.size ≤ 1000 ∧ ∀ i (hi : i < s.size), (s[i]'hi).toNat < 128 := by
  simp only [plain, Bool.and_eq_true, decide_eq_true_eq, List.all_eq_true] at h
  refine ⟨h.1, fun i hi => h.2 _ ?_⟩
  have : s.data.toList[i]'(by simpa using hi) = s[i]'hi := rfl
  rw [← this]
  exact List.getElem_mem _
theorem plain_all : ((List.range 26).all fun n => plain (pA n) && plain (pB n)) = true := by kernel_rfl
theorem plain_n {n : Nat} (h : n < 26) : plain (pA n) = true ∧ plain (pB n) = true := by
  have := List.all_eq_true.1 plain_all n (List.mem_range.2 h)
  simpa using this
/-- The last of a list, or none. -/
def lastT (l : List (Int × Int)) : Int × Int := l.getLast?.getD (0, 0)
/-- The signature of a native. -/
def sigP (n : Nat) : List (Int × Int) := tyS (pA n)
def sigR (n : Nat) : Int × Int := lastT (tyS (pB n))
theorem lastT_snoc (l : List (Int × Int)) (x : Int × Int) : lastT (l ++ [x]) = x := by simp [lastT]
/-- A type, where it stands. -/
theorem ty_at {w : World} {base : Nat} {v : Value} {ts : List (Int × Int)} (h : Ty w base v ts) (i : Nat) (hi : i < ts.length) : ∃ g cap, v = .slice (some ⟨g, 0, none⟩) ts.length cap ∧ w.cell? ⟨g, i * 2, none⟩ = some (.int .u8 (ts[i]).1) ∧ w.cell? ⟨g, i * 2 + 1, none⟩ = some (.int .u16 (ts[i]).2) := by
  have hr : Reps (fun (p : Int × Int) cs => cs = [Value.int .u8 p.1, .int .u16 p.2]) 2 ts (tcells ts) := by
    have key : ∀ (l ps : List (Int × Int)) (cs : List Value), Reps (fun (p : Int × Int) cs => cs = [Value.int .u8 p.1, .int .u16 p.2]) 2 ps cs → Reps (fun (p : Int × Int) cs => cs = [Value.int .u8 p.1, .int .u16 p.2]) 2 (ps ++ l) (cs ++ tcells l) := by
      intro l
      induction l with
      | nil => intro ps cs h; simpa [tcells] using h
      | cons a l ih => intro ps cs h; simpa [tcells] using ih _ _ (h.snoc (c := [Value.int .u8 a.1, .int .u16 a.2]) rfl rfl)
    simpa using key ts [] [] (Reps.none _ _)
  obtain ⟨g, cap, cs, hv, hlt, rfl, hc⟩ := reps_cell h hr rfl i hi
  exact ⟨g, cap, hv, hc 0 _ (by omega) rfl, hc 1 _ (by omega) rfl⟩
theorem fields_any (w : World) (n : Nat) (hn : n < 26) (hG : Gl w) : Calls Tryd.prog 18 #[.string sigB] w fun e w' => ∃ B, e = .returned (.slice (some ⟨B, 0, none⟩) 26 26) ∧ w'.cell? ⟨B, n, none⟩ = some (.string (piece n)) ∧ Ch (fun _ => False) w w' := by
  refine (Tryd.strings_Fields sigB w (by decide) (fun j b h => ?_) hG.2).mono ?_
  · have hm : b ∈ sigText := List.mem_of_getElem? h
    exact of_decide_eq_true (List.all_eq_true.1 (show (sigText.all fun b => decide (b.toNat < 128)) = true by kernel_rfl) b hm)
  · rintro e w' ⟨rfl, rfl⟩
    rw [fields_sig]
    refine ⟨w.heap.size, rfl, ?_, (Ch.refl _ w).alloc _⟩
    rw [(Blk.new w _ _).cell n]
    have hlt : n < pieces.length := hn
    simp [piece, List.getD_eq_getElem?_getD, List.getElem?_eq_getElem hlt]
theorem cut_any (w : World) (n : Nat) (hn : n < 26) (hG : Gl w) : Calls Tryd.prog 24 #[.string (piece n), .string ⟨#[58]⟩] w fun e w' => (∃ b, e = .returned (.tuple #[.string (pA n), .string (pB n), .bool b])) ∧ Ch (fun _ => False) w w' := by
  obtain ⟨m, hm⟩ := hG.1
  refine (Tryd.strings_Cut (piece n) ⟨#[58]⟩ m w ?_ hm).mono ?_
  · have : ((List.range 26).all fun n => decide ((piece n).size < 4294967281)) = true := by kernel_rfl
    exact of_decide_eq_true (List.all_eq_true.1 this n (List.mem_range.2 hn))
  · rintro e w' ⟨rfl, k, rfl⟩
    exact ⟨⟨_, rfl⟩, (Ch.refl _ w).drewN k⟩
set_option maxHeartbeats 800000 in
set_option maxRecDepth 100000 in
theorem sig_any (w : World) (n : Nat) (hn : n < 26) (hG : Gl w) : Calls Tryd.prog 12 #[.int .i64 ((n : Int) + 1)] w fun e w' => ∃ v, e = .returned (.agg #[v, .int .u8 (sigR n).1, .int .u16 (sigR n).2]) ∧ Ty w' w.heap.size v (sigP n) ∧ Ch (fun _ => False) w w' := by
  have B0 := Blk.new w #[.slice none 0 0, .int .u8 0, .int .u16 0] 35
  have c0 : Ch (fun _ => False) w (w.alloc (.cells #[.slice none 0 0, .int .u8 0, .int .u16 0] 35)) := (Ch.refl _ w).alloc _
  have hw1 : ((n : Int) + 1 - 1) = n := by omega
  obtain ⟨pa, pb⟩ := plain_n hn
  obtain ⟨a1, a2⟩ := plain_ok pa
  obtain ⟨b1, b2⟩ := plain_ok pb
  have hF := fields_any (w.alloc (.cells #[.slice none 0 0, .int .u8 0, .int .u16 0] 35)) n hn (hG.ch c0)
  have hC := fun w1 h => cut_any w1 n hn h
  have hP : sigP n = tyS (pA n) := rfl
  have hR : sigR n = lastT (tyS (pB n)) := rfl
  rw [hP, hR]
  clear hP hR pa pb
  generalize pA n = sA at *
  generalize pB n = sB at *
  generalize piece n = sP at *
  go_enter Tryd.func12, Tryd.ntmps12
  go_wp2_with (go_at_call 18; fail)
  refine hF.mono ?_
  rintro e w1 ⟨B, rfl, hcell, c1⟩
  have q0 : (0 : Int) ≤ n := by omega
  have q1 : (n : Int) < 26 := by omega
  have hc1 := c0.then c1
  have B1 := B0.ch c1 (fun h => h)
  clear hF
  go_wp2_with (go_at_call 24; fail)
  refine (hC w1 (hG.ch hc1)).mono ?_
  rintro e w2 ⟨⟨b, rfl⟩, c2⟩
  have hc2 := hc1.then c2
  have B2 := B1.ch c2 (fun h => h)
  clear hC hcell q0 q1 B1
  go_wp2_with (go_at_call 16; fail)
  refine (types_any w2 sA a1 a2).mono ?_
  rintro e w3 ⟨vA, rfl, hA, c3⟩
  obtain ⟨AA, cA, rfl⟩ := own_len hA
  have hc3 := hc2.then c3
  have B3 := B2.ch c3 (fun h => h)
  have hA3 : Ty w3 w.heap.size _ _ := own_weaken hA hc2.size
  have hBS := Blk.new w3 #[.slice AA (tyS sA).length cA, .int .u8 0, .int .u16 0] 35
  have c4 : Ch (fun _ => False) w3 (w3.alloc (.cells #[.slice AA (tyS sA).length cA, .int .u8 0, .int .u16 0] 35)) := (Ch.refl _ w3).alloc _
  have hc4 := hc3.then c4
  have B4 := B3.ch c4 (fun h => h)
  have hA4 : Ty (w3.alloc (.cells #[.slice AA (tyS sA).length cA, .int .u8 0, .int .u16 0] 35)) w.heap.size _ _ := own_kp hA3 (kp_ch c4) (T := 0) (by decide)
  clear hA B2
  go_wp2_with (go_at_call 16; fail)
  refine (types_any _ sB b1 b2).mono ?_
  rintro e w5 ⟨vB, rfl, hB, c5⟩
  obtain ⟨AB, cB, rfl⟩ := own_len hB
  have hc5 := hc4.then c5
  go_wp2_with (fail)
  have B5 := B4.ch c5 (fun h => h)
  have hS5 := hBS.ch c5 (fun h => h)
  have hA5 : Ty w5 w.heap.size _ _ := own_kp hA4 (kp_ch c5) (T := 0) (by decide)
  have hSz : w.heap.size ≤ w3.heap.size := hc3.size
  have hSn : w.heap.size ≠ w3.heap.size := fun e => by have := B3.lt; omega
  generalize w3.heap.size = S at hSz hS5 hSn ⊢
  have hb1 : (tyS sB).length ≤ 1000 := by
    have h1 : ∀ l : List Nat, (tysOf l).length ≤ l.length := fun l => by
      induction l with
      | nil => simp [tysOf]
      | cons c l ih =>
        have : (tyOf c).length ≤ 1 := by unfold tyOf; (repeat' split) <;> simp
        simp only [tysOf, List.flatMap_cons, List.length_append, List.length_cons] at ih ⊢
        omega
    have := h1 (sB.data.toList.map UInt8.toNat)
    rw [List.length_map] at this
    exact Nat.le_trans this (by simpa using b1)
  have hBw : Ty w5 0 _ _ := own_weaken hB (Nat.zero_le _)
  clear hB hA3 hA4 hBS B3 B4 B0 c4 c3 c2 c1 hc4 hc3 hc2 hc1
  generalize hts : tyS sB = ts at *
  go_loopg [25] ts.length (fun q v25 wr => ∃ j : Nat, j + q ≤ ts.length ∧ ts.length ≤ j + q ∧ v25 = .int .i64 j ∧ Blk wr S #[.slice AA (tyS sA).length cA, .int .u8 (lastT (ts.take j)).1, .int .u16 (lastT (ts.take j)).2] 35 ∧ Blk wr w.heap.size #[.slice none 0 0, .int .u8 0, .int .u16 0] 35 ∧ Ty wr w.heap.size (.slice AA (tyS sA).length cA) (tyS sA) ∧ Ty wr 0 (.slice AB ts.length cB) ts ∧ Ch (fun _ => False) w wr)
  case atStart => exact ⟨0, by omega, by omega, rfl, by simpa [lastT] using hS5, B5, hA5, hBw, hc5⟩
  case round =>
    obtain ⟨j, hj1, hj2, rfl, hS, hZ, hAr, hBr, hc⟩ := hrel
    by_cases hlt : 0 < gk
    · have hjl : j < ts.length := by omega
      have hi : (j : Int) < (ts.length : Int) := by omega
      have hj0 : (0 : Int) ≤ (j : Int) := by omega
      obtain ⟨g, cap, hv, k0, k1⟩ := ty_at hBr j hjl
      injection hv with hv1 hv2 hv3
      subst hv1 hv3
      have htk : lastT (ts.take (j + 1)) = ts[j] := by rw [List.take_add_one, List.getElem?_eq_getElem hjl]; exact lastT_snoc _ _
      generalize ts[j] = x at *
      obtain ⟨xk, xc⟩ := x
      dsimp only at k0 k1
      have hS2 := hS.alloc (.cells #[.int .u8 xk, .int .u16 xc] 33)
      have hZ2 := hZ.alloc (.cells #[.int .u8 xk, .int .u16 xc] 33)
      have hA2 := hAr.alloc (.cells #[.int .u8 xk, .int .u16 xc] 33)
      have hB2 := hBr.alloc (.cells #[.int .u8 xk, .int .u16 xc] 33)
      have hc2 := hc.alloc (.cells #[.int .u8 xk, .int .u16 xc] 33)
      have p0 := hS2.cell 1
      have p1 := hS2.cell 2
      have f0 := hS2.free 1
      have f1 := hS2.free 2
      go_wp2
      go_roundg (gk - 1)
      case rel =>
        have s1 := set_kp hS2 1 (.int .u8 xk)
        have hS3 := hS2.set 1 (.int .u8 xk)
        have s2 := set_kp hS3 2 (.int .u16 xc)
        refine ⟨j + 1, by omega, by omega, by go_num, by rw [htk]; exact hS3.set 2 (.int .u16 xc), blk_other (p := ⟨S, 2, none⟩) (blk_other (p := ⟨S, 1, none⟩) hZ2 hSn _) hSn _, own_kp (own_kp hA2 s1 (by decide)) s2 (by decide), own_kp (own_kp hB2 s1 (by decide)) s2 (by decide), set_base hSz (set_base hSz hc2 _) _⟩
      case measure => omega
    · obtain rfl : gk = 0 := by omega
      obtain rfl : j = ts.length := by omega
      rw [List.take_length] at hS
      have p0 := hS.cell 0
      have p1 := hS.cell 1
      have p2 := hS.cell 2
      have z0 := hZ.cell 0
      have z1 := hZ.cell 1
      have z2 := hZ.cell 2
      have f0 := hZ.free 0
      have f1 := hZ.free 1
      have f2 := hZ.free 2
      go_wp2
      have g1 := hZ.set 0 (.slice AA (tyS sA).length cA)
      have g2 := g1.set 1 (.int .u8 (lastT ts).1)
      have g3 := g2.set 2 (.int .u16 (lastT ts).2)
      have e0 := g3.cell 0
      have e1 := g3.cell 1
      have e2 := g3.cell 2
      simp at e0 e1 e2
      refine bodyPost_ret (v := .agg #[.slice AA (tyS sA).length cA, .int .u8 (lastT ts).1, .int .u16 (lastT ts).2]) (by simp [results, Tryd.results12, go_sem, e0, e1, e2]) rfl ?_
      exact ⟨_, by rw [hts], own_kp (own_kp (own_kp hAr (set_kp hZ 0 _) (by decide)) (set_kp g1 1 _) (by decide)) (set_kp g2 2 _) (by decide), set_base (Nat.le_refl _) (set_base (Nat.le_refl _) (set_base (Nat.le_refl _) hc _) _) _⟩
end Go.Proofs.YtjknnifcbcdjiaaDoor.Tab
