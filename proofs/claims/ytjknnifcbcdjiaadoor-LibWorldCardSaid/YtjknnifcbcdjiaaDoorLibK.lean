/- lib.classes: the card's classes, in order. -/
import Derived.Test.YtjknnifcbcdjiaaDoorLibS
set_option linter.unusedVariables false
set_option linter.unusedSimpArgs false
namespace Go.Proofs.YtjknnifcbcdjiaaDoor.Tab
open Go.RowKit Go.Proofs.YtjknnifcbcdjiaaDoor.Base Go.Proofs.YtjknnifcbcdjiaaDoorW.PrintWords Go.Proofs.YtjknnifcbcdjiaaDoorW.PrintLast
theorem run_at (w : World) (a b : Int) (k : Nat) (hb : b = a + k - 1) (ha : -1000 ≤ a ∧ a ≤ 1000) (hk : k ≤ 1000) : Calls Tryd.prog 25 #[.int .i64 a, .int .i64 b] w fun e w' => ∃ v, e = .returned v ∧ Ints w' w.heap.size v (runL a k) ∧ Ch (fun _ => False) w w' := hb ▸ run_any w a k ha hk
/-- One of the card's classes. -/
structure KlM where
  super : Int
  flags : Int
  fields : ByteArray
  virts : List Int
  others : List Int
  process : Bool
def KlRep (w : World) (base : Nat) (k : KlM) (cs : List Value) : Prop := ∃ vv vo, cs = [.int .i64 k.super, .int .u8 k.flags, .string k.fields, vv, vo, .bool k.process] ∧ Ints w base vv k.virts ∧ Ints w base vo k.others
def Kr (w : World) (base : Nat) (v : Value) (ks : List KlM) : Prop := ∃ xs, w.ownsRow base 62 6 v ks.length xs ∧ Reps (KlRep w base) 6 ks xs
theorem KlRep.kp {w w' : World} {base : Nat} {k : KlM} {cs : List Value} {T : TypeId} (h : KlRep w base k cs) (q : Kp T w w') (hT : 3 ≠ T) : KlRep w' base k cs := by
  obtain ⟨vv, vo, e, a, b⟩ := h
  exact ⟨vv, vo, e, own_kp a q hT, own_kp b q hT⟩
theorem Kr.ch {w w' : World} {base : Nat} {v : Value} {ks : List KlM} (h : Kr w base v ks) (c : Ch (fun _ => False) w w') : Kr w' base v ks := by
  obtain ⟨xs, o, r⟩ := h
  exact ⟨xs, own_kp o (kp_ch (T := 0) c) (by decide), r.imp_ (fun _ _ h => h.kp (kp_ch (T := 0) c) (by decide))⟩
theorem Ints.ch {w w' : World} {base : Nat} {v : Value} {xs : List Int} (h : Ints w base v xs) (c : Ch (fun _ => False) w w') : Ints w' base v xs := own_kp h (kp_ch (T := 0) c) (by decide)
theorem Ints.low {w : World} {b b' : Nat} {v : Value} {xs : List Int} (h : Ints w b v xs) (hb : b' ≤ b) : Ints w b' v xs := own_weaken h hb
theorem Kr.lowL {w : World} {b b' : Nat} {v : Value} {ks : List KlM} (h : Kr w b v ks) (hb : b' ≤ b) : Kr w b' v ks := by
  obtain ⟨xs, o, r⟩ := h
  exact ⟨xs, own_weaken o hb, r.imp_ (fun _ _ ⟨vv, vo, e, a, c⟩ => ⟨vv, vo, e, own_weaken a hb, own_weaken c hb⟩)⟩
theorem ints_nil (w : World) (b : Nat) : Ints w b (.slice none 0 0) [] := own_nil _ _ _ _
theorem infoK : (Tryd.prog.info? 62).map (fun i => (i.zero, i.size, i.bytes)) = some (some (.agg #[.int .i64 0, .int .u8 0, .string ByteArray.empty, .slice none 0 0, .slice none 0 0, .bool false]), 6, 88) := by kernel_rfl
def k0 : KlM := ⟨-1, 0, ⟨#[]⟩, [], runL 1 1, false⟩
def k1 : KlM := ⟨0, 0, ⟨#[115]⟩, runL 2 2, runL 4 1, false⟩
def k2 : KlM := ⟨1, 0, ⟨#[]⟩, [], runL 4 1, false⟩
def k11 : KlM := ⟨1, 0, ⟨#[]⟩, [], runL 4 2, false⟩
def k12 : KlM := ⟨0, 4, ⟨#[]⟩, runL 6 3, [1, 9], true⟩
def k13 : KlM := ⟨-1, 3, ⟨#[]⟩, [], [], false⟩
def k14 : KlM := ⟨0, 8, ⟨#[]⟩, runL 10 3, [], false⟩
def k15 : KlM := ⟨0, 8, ⟨#[]⟩, [], runL 13 8, false⟩
def k16 : KlM := ⟨0, 8, ⟨#[]⟩, [], runL 21 6, false⟩
def klasses : List KlM := [k0, k1] ++ List.replicate 9 k2 ++ [k11, k12, k13, k14, k15, k16]
set_option maxHeartbeats 1000000 in
set_option maxRecDepth 100000 in
theorem classes_any (w : World) : Calls Tryd.prog 13 #[] w fun e w' => ∃ v, e = .returned v ∧ Kr w' w.heap.size v klasses ∧ Ch (fun _ => False) w w' := by
  obtain ⟨i0, hi, hz0, hz1, hz2⟩ := info_parts infoK
  go_enter Tryd.func13, Tryd.ntmps13
  go_wp2_with (go_at_call 25; fail)
  refine (run_at _ 1 1 1 (by decide) (by decide) (by decide)).mono ?_
  rintro e w1 ⟨v1, rfl, h1, c1⟩
  obtain ⟨A1, q1, rfl⟩ := own_len h1
  go_wp2_with (go_at_call 25; fail)
  refine (run_at _ 2 3 2 (by decide) (by decide) (by decide)).mono ?_
  rintro e w2 ⟨v2, rfl, h2, c2⟩
  obtain ⟨A2, q2, rfl⟩ := own_len h2
  go_wp2_with (go_at_call 25; fail)
  refine (run_at _ 4 4 1 (by decide) (by decide) (by decide)).mono ?_
  rintro e w3 ⟨v3, rfl, h3, c3⟩
  obtain ⟨A3, q3, rfl⟩ := own_len h3
  have d2 := c1.then c2
  have d3 := d2.then c3
  have g1 := (h1.ch c2).ch c3
  have g2 := (h2.low c1.size).ch c3
  have g3 := h3.low d2.size
  clear h1 h2 h3 c1 c2 c3
  go_wp2_with (fail)
  have d4 : Ch (fun _ => False) w (w3.alloc (.cells #[.int .i64 (-1), .int .u8 0, .string ⟨#[]⟩, .slice none 0 0, .slice A1 (runL 1 1).length q1, .bool false, .int .i64 0, .int .u8 0, .string ⟨#[115]⟩, .slice A2 (runL 2 2).length q2, .slice A3 (runL 4 1).length q3, .bool false] 62)) := d3.alloc _
  have e4 : Ch (fun _ => False) w3 (w3.alloc (.cells #[.int .i64 (-1), .int .u8 0, .string ⟨#[]⟩, .slice none 0 0, .slice A1 (runL 1 1).length q1, .bool false, .int .i64 0, .int .u8 0, .string ⟨#[115]⟩, .slice A2 (runL 2 2).length q2, .slice A3 (runL 4 1).length q3, .bool false] 62)) := (Ch.refl _ w3).alloc _
  have hK : Kr (w3.alloc (.cells #[.int .i64 (-1), .int .u8 0, .string ⟨#[]⟩, .slice none 0 0, .slice A1 (runL 1 1).length q1, .bool false, .int .i64 0, .int .u8 0, .string ⟨#[115]⟩, .slice A2 (runL 2 2).length q2, .slice A3 (runL 4 1).length q3, .bool false] 62)) w.heap.size (.slice (some ⟨w3.heap.size, 0, none⟩) 2 2) [k0, k1] := by
    refine ⟨[.int .i64 (-1), .int .u8 0, .string ⟨#[]⟩, .slice none 0 0, .slice A1 (runL 1 1).length q1, .bool false, .int .i64 0, .int .u8 0, .string ⟨#[115]⟩, .slice A2 (runL 2 2).length q2, .slice A3 (runL 4 1).length q3, .bool false], World.ownsRow_lit w3 #[.int .i64 (-1), .int .u8 0, .string ⟨#[]⟩, .slice none 0 0, .slice A1 (runL 1 1).length q1, .bool false, .int .i64 0, .int .u8 0, .string ⟨#[115]⟩, .slice A2 (runL 2 2).length q2, .slice A3 (runL 4 1).length q3, .bool false] 2 d3.size (by decide) rfl, ?_⟩
    exact (((Reps.none _ _).snoc (p := k0) (c := [.int .i64 (-1), .int .u8 0, .string ⟨#[]⟩, .slice none 0 0, .slice A1 (runL 1 1).length q1, .bool false]) ⟨_, _, rfl, ints_nil _ _, g1.ch e4⟩ rfl).snoc (p := k1) (c := [.int .i64 0, .int .u8 0, .string ⟨#[115]⟩, .slice A2 (runL 2 2).length q2, .slice A3 (runL 4 1).length q3, .bool false]) ⟨_, _, rfl, g2.ch e4, g3.ch e4⟩ rfl)
  clear g1 g2 g3 d2 d3 e4
  generalize w3.alloc (.cells #[.int .i64 (-1), .int .u8 0, .string ⟨#[]⟩, .slice none 0 0, .slice A1 (runL 1 1).length q1, .bool false, .int .i64 0, .int .u8 0, .string ⟨#[115]⟩, .slice A2 (runL 2 2).length q2, .slice A3 (runL 4 1).length q3, .bool false] 62) = W4 at d4 hK ⊢
  generalize w3.heap.size = B4 at hK ⊢
  go_loopg [1, 8] 9 (fun q u1 u8 wr => ∃ j : Nat, j + q ≤ 9 ∧ 9 ≤ j + q ∧ u8 = .int .i64 j ∧ Kr wr w.heap.size u1 ([k0, k1] ++ List.replicate j k2) ∧ Ch (fun _ => False) w wr)
  case atStart => exact ⟨0, by omega, by omega, rfl, hK, d4⟩
  case round =>
    obtain ⟨j, hj1, hj2, rfl, hr, hc⟩ := hrel
    obtain ⟨xs, ho, hx⟩ := hr
    by_cases hlt : 0 < gk
    · have hd : (j : Int) < 9 := by omega
      have hll : ([k0, k1] ++ List.replicate j k2).length = j + 2 := by simp
      have hl1 : ([k0, k1] ++ List.replicate j k2).length + 1 ≤ maxLen := by rw [hll]; unfold maxLen; omega
      have hl2 : (([k0, k1] ++ List.replicate j k2).length + 1) * 88 ≤ 140737488355328 := by rw [hll]; omega
      have he : [k0, k1] ++ List.replicate (j + 1) k2 = ([k0, k1] ++ List.replicate j k2) ++ [k2] := by rw [List.replicate_succ', List.append_assoc]
      generalize [k0, k1] ++ List.replicate j k2 = ks at *
      clear hll
      obtain ⟨A0, q0, rfl⟩ := own_len ho
      go_wp2_with (go_at_call 25; fail)
      refine (run_at _ 4 4 1 (by decide) (by decide) (by decide)).mono ?_
      rintro e w5 ⟨v5, rfl, h5, c5⟩
      obtain ⟨A5, q5, rfl⟩ := own_len h5
      have hc5 := hc.then c5
      have hsz := hc5.size
      have ho5 := own_kp ho (kp_ch (T := 0) c5) (by decide)
      have hx5 := hx.imp_ (fun _ _ h => h.kp (kp_ch (T := 0) c5) (by decide))
      have h5' := h5.low hc.size
      clear ho hx h5
      go_wp2_with (at_builtin; go_loud (refine wpList_append_lies _ rfl _ _ 59 rfl w.heap.size 62 i0 (.agg #[.int .i64 0, .int .u8 0, .string ByteArray.empty, .slice none 0 0, .slice none 0 0, .bool false]) 6 88 Tryd.underlying59 hi hz0 hz1 hz2 rfl (by decide) _ _ _ rfl (ho5.alloc _) ⟨w5.heap.size, 0, none⟩ 1 1 [.int .i64 1, .int .u8 0, .string ⟨#[]⟩, .slice none 0 0, .slice A5 (runL 4 1).length q5, .bool false] rfl rfl (World.news_of_block (blk_new w5 (.cells #[.int .i64 1, .int .u8 0, .string ⟨#[]⟩, .slice none 0 0, .slice A5 (runL 4 1).length q5, .bool false] 62))) (by simp [Value.oneCell']) (by decide) hl1 hl2 (by simp; omega) _ rfl ?_); intro g6 cap6 w6 ho6 hg6 hat6 hlt6)
      go_roundg (gk - 1)
      case rel =>
        have k6 := kp_row (ho5.alloc (.cells #[.int .i64 1, .int .u8 0, .string ⟨#[]⟩, .slice none 0 0, .slice A5 (runL 4 1).length q5, .bool false] 62)) hg6
        have ka := kp_ch (T := 0) ((Ch.refl (fun _ => False) w5).alloc (.cells #[.int .i64 1, .int .u8 0, .string ⟨#[]⟩, .slice none 0 0, .slice A5 (runL 4 1).length q5, .bool false] 62))
        refine ⟨j + 1, by omega, by omega, by go_num, ?_, grow_base (Nat.le_refl _) (hc5.alloc _) (ho5.alloc _) hg6⟩
        rw [he]
        refine ⟨_, by rw [List.length_append, List.length_singleton]; exact ho6, ?_⟩
        exact (hx5.imp_ (fun _ _ h => (h.kp ka (by decide)).kp k6 (by decide))).snoc (p := k2) ⟨_, _, rfl, ints_nil _ _, own_kp (own_kp h5' ka (by decide)) k6 (by decide)⟩ rfl
      case measure => omega
    · obtain rfl : gk = 0 := by omega
      obtain rfl : j = 9 := by omega
      have hd : ¬ ((9 : Nat) : Int) < 9 := by omega
      have hl1 : ([k0, k1] ++ List.replicate 9 k2).length + 6 ≤ maxLen := by decide
      have hl2 : (([k0, k1] ++ List.replicate 9 k2).length + 6) * 88 ≤ 140737488355328 := by decide
      have hks : klasses = ([k0, k1] ++ List.replicate 9 k2) ++ [k11, k12, k13, k14, k15, k16] := rfl
      generalize [k0, k1] ++ List.replicate 9 k2 = ks at *
      obtain ⟨A0, q0, rfl⟩ := own_len ho
      go_wp2_with (go_at_call 25; fail)
      refine (run_at _ 4 5 2 (by decide) (by decide) (by decide)).mono ?_
      rintro e w5 ⟨v5, rfl, h5, c5⟩
      obtain ⟨A5, q5, rfl⟩ := own_len h5
      have g5 := h5.low hc.size
      have ho := own_kp ho (kp_ch (T := 0) c5) (by decide)
      have hx := hx.imp_ (fun _ _ h => h.kp (kp_ch (T := 0) c5) (by decide))
      have hc := hc.then c5
      clear h5 c5
      go_wp2_with (go_at_call 25; fail)
      refine (run_at _ 6 8 3 (by decide) (by decide) (by decide)).mono ?_
      rintro e w6 ⟨v6, rfl, h6, c6⟩
      obtain ⟨A6, q6, rfl⟩ := own_len h6
      have g6 := h6.low hc.size
      have ho := own_kp ho (kp_ch (T := 0) c6) (by decide)
      have hx := hx.imp_ (fun _ _ h => h.kp (kp_ch (T := 0) c6) (by decide))
      have g5 := g5.ch c6
      have hc := hc.then c6
      have hL : Ints (w6.alloc (.cells #[.int .i64 1, .int .i64 9] 3)) w.heap.size (.slice (some ⟨w6.heap.size, 0, none⟩) 2 2) [1, 9] := World.ownsRow_lit w6 #[.int .i64 1, .int .i64 9] 2 hc.size (by decide) rfl
      have cL : Ch (fun _ => False) w6 (w6.alloc (.cells #[.int .i64 1, .int .i64 9] 3)) := (Ch.refl _ w6).alloc _
      have hc := hc.then cL
      have ho := own_kp ho (kp_ch (T := 0) cL) (by decide)
      have hx := hx.imp_ (fun _ _ h => h.kp (kp_ch (T := 0) cL) (by decide))
      have g5 := g5.ch cL
      have g6 := g6.ch cL
      clear h6 c6
      go_wp2_with (go_at_call 25; fail)
      refine (run_at _ 10 12 3 (by decide) (by decide) (by decide)).mono ?_
      rintro e w7 ⟨v7, rfl, h7, c7⟩
      obtain ⟨A7, q7, rfl⟩ := own_len h7
      have g7 := h7.low hc.size
      have ho := own_kp ho (kp_ch (T := 0) c7) (by decide)
      have hx := hx.imp_ (fun _ _ h => h.kp (kp_ch (T := 0) c7) (by decide))
      have g5 := g5.ch c7
      have g6 := g6.ch c7
      have hL := hL.ch c7
      have hc := hc.then c7
      clear h7 c7
      go_wp2_with (go_at_call 25; fail)
      refine (run_at _ 13 20 8 (by decide) (by decide) (by decide)).mono ?_
      rintro e w8 ⟨v8, rfl, h8, c8⟩
      obtain ⟨A8, q8, rfl⟩ := own_len h8
      have g8 := h8.low hc.size
      have ho := own_kp ho (kp_ch (T := 0) c8) (by decide)
      have hx := hx.imp_ (fun _ _ h => h.kp (kp_ch (T := 0) c8) (by decide))
      have g5 := g5.ch c8
      have g6 := g6.ch c8
      have g7 := g7.ch c8
      have hL := hL.ch c8
      have hc := hc.then c8
      clear h8 c8
      go_wp2_with (go_at_call 25; fail)
      refine (run_at _ 21 26 6 (by decide) (by decide) (by decide)).mono ?_
      rintro e w9 ⟨v9, rfl, h9, c9⟩
      obtain ⟨A9, q9, rfl⟩ := own_len h9
      have g9 := h9.low hc.size
      have ho := own_kp ho (kp_ch (T := 0) c9) (by decide)
      have hx := hx.imp_ (fun _ _ h => h.kp (kp_ch (T := 0) c9) (by decide))
      have g5 := g5.ch c9
      have g6 := g6.ch c9
      have g7 := g7.ch c9
      have g8 := g8.ch c9
      have hL := hL.ch c9
      have hc := hc.then c9
      clear h9 c9
      have hsz := hc.size
      go_wp2_with (at_builtin; go_loud (refine wpList_append_lies _ rfl _ _ 59 rfl w.heap.size 62 i0 (.agg #[.int .i64 0, .int .u8 0, .string ByteArray.empty, .slice none 0 0, .slice none 0 0, .bool false]) 6 88 Tryd.underlying59 hi hz0 hz1 hz2 rfl (by decide) _ _ _ rfl (ho.alloc _) ⟨w9.heap.size, 0, none⟩ 6 6 _ rfl rfl (World.news_of_block (blk_new w9 _)) (by simp [Value.oneCell']) (by decide) hl1 hl2 (by simp; omega) _ rfl ?_); intro gg capg wg hog hgg hatg hltg)
      go_ret
      have kg := kp_row (ho.alloc _) hgg
      have up : ∀ {v : Value} {l : List Int} {o : Obj}, Ints w9 w.heap.size v l → Kp 62 (w9.alloc o) wg → Ints wg w.heap.size v l := fun h q => own_kp (own_kp h (kp_ch (T := 0) ((Ch.refl (fun _ => False) w9).alloc _)) (by decide)) q (by decide)
      try rw [hks]
      refine ⟨_, rfl, ⟨_, by rw [List.length_append]; exact hog, Kd.reps_append (hx.imp_ (fun _ _ h => (h.kp (kp_ch (T := 0) ((Ch.refl (fun _ => False) w9).alloc _)) (by decide)).kp kg (by decide))) ?_⟩, grow_base (Nat.le_refl _) (hc.alloc _) (ho.alloc _) hgg⟩
      exact (((((((Reps.none _ _).snoc (p := k11) (c := [.int .i64 1, .int .u8 0, .string ⟨#[]⟩, .slice none 0 0, .slice A5 (runL 4 2).length q5, .bool false]) ⟨_, _, rfl, ints_nil _ _, up g5 kg⟩ rfl).snoc (p := k12) (c := [.int .i64 0, .int .u8 4, .string ⟨#[]⟩, .slice A6 (runL 6 3).length q6, .slice (some ⟨w6.heap.size, 0, none⟩) 2 2, .bool true]) ⟨_, _, rfl, up g6 kg, up hL kg⟩ rfl).snoc (p := k13) (c := [.int .i64 (-1), .int .u8 3, .string ⟨#[]⟩, .slice none 0 0, .slice none 0 0, .bool false]) ⟨_, _, rfl, ints_nil _ _, ints_nil _ _⟩ rfl).snoc (p := k14) (c := [.int .i64 0, .int .u8 8, .string ⟨#[]⟩, .slice A7 (runL 10 3).length q7, .slice none 0 0, .bool false]) ⟨_, _, rfl, up g7 kg, ints_nil _ _⟩ rfl).snoc (p := k15) (c := [.int .i64 0, .int .u8 8, .string ⟨#[]⟩, .slice none 0 0, .slice A8 (runL 13 8).length q8, .bool false]) ⟨_, _, rfl, ints_nil _ _, up g8 kg⟩ rfl).snoc (p := k16) (c := [.int .i64 0, .int .u8 8, .string ⟨#[]⟩, .slice none 0 0, .slice A9 (runL 21 6).length q9, .bool false]) ⟨_, _, rfl, ints_nil _ _, up g9 kg⟩ rfl)
end Go.Proofs.YtjknnifcbcdjiaaDoor.Tab
