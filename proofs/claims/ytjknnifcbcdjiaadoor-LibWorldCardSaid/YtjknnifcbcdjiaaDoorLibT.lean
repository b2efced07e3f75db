/- lib.types: the types that letters stand for. -/
import Derived.Test.YtjknnifcbcdjiaaDoorLibA
set_option linter.unusedVariables false
set_option linter.unusedSimpArgs false
namespace Go.Proofs.YtjknnifcbcdjiaaDoor.Tab
open Go.RowKit Go.Proofs.YtjknnifcbcdjiaaDoor.Base Go.Proofs.YtjknnifcbcdjiaaDoorW.PrintWords Go.Proofs.YtjknnifcbcdjiaaDoorW.PrintLast
def tyS (s : ByteArray) : List (Int × Int) := tysOf (s.data.toList.map UInt8.toNat)
theorem tysOf_snoc (l : List Nat) (c : Nat) : tysOf (l ++ [c]) = tysOf l ++ tyOf c := by simp [tysOf]
theorem iter_own {w : World} {base n size b pos pos' : Nat} {e : TypeId} {v : Value} {xs : List Value} {s : ByteArray} (o : w.ownsRow base e size v n xs) (hb : w.heap[b]? = some (.stringIter s pos)) : (w.iterAt b s pos').ownsRow base e size v n xs :=
  own_move o (fun k hk => Lib.iterAt_other w b k s pos' (fun e => by
    obtain ⟨cs, hc⟩ := own_typed o k hk
    rw [e, hb] at hc
    cases hc))
theorem iter_row {w w' : World} {base n size b pos : Nat} {e : TypeId} {v : Value} {xs : List Value} {s : ByteArray} (o : w.ownsRow base e size v n xs) (hb : w.heap[b]? = some (.stringIter s pos)) (g : w.grownBy w' v.ownBlock) : w'.heap[b]? = some (.stringIter s pos) :=
  (g.block b (Array.getElem?_eq_some_iff.1 hb).1 (fun e => by
    obtain ⟨cs, hc⟩ := own_typed o b e.symm
    rw [hb] at hc
    cases hc)).trans hb
theorem iter_ch {w0 w : World} {b pos' : Nat} {s : ByteArray} (c : Ch (fun _ => False) w0 w) (hb : w0.heap.size ≤ b) : Ch (fun _ => False) w0 (w.iterAt b s pos') :=
  ⟨c.os, c.tape, c.output, by rw [Lib.iterAt_size]; exact c.size, fun k hk hn => (Lib.iterAt_other w b k s pos' (by omega)).trans (c.block k hk hn)⟩
set_option maxHeartbeats 4000000 in
set_option maxRecDepth 100000 in
theorem types_any (w : World) (s : ByteArray) (hs : s.size ≤ 1000) (ha : ∀ i (h : i < s.size), (s[i]'h).toNat < 128) : Calls Tryd.prog 16 #[.string s] w fun e w' => ∃ v, e = .returned v ∧ Ty w' w.heap.size v (tyS s) ∧ Ch (fun _ => False) w w' := by
  obtain ⟨i0, hi, hz0, hz1, hz2⟩ := info_parts infoT
  have hit0 : (w.iter s 0).heap[w.heap.size]? = some (.stringIter s 0) := World.iter_heap w s 0
  have hc0 : Ch (fun _ => False) w (w.iter s 0) := (Ch.refl _ w).alloc _
  have hsz0 : w.heap.size < (w.iter s 0).heap.size := (Array.getElem?_eq_some_iff.1 hit0).1
  go_enter Tryd.func16, Tryd.ntmps16
  go_wp2
  generalize w.iter s 0 = wI at hit0 hc0 hsz0 ⊢
  go_loopg [3] s.size (fun q v3 wr => ∃ pos : Nat, pos + q ≤ s.size ∧ s.size ≤ pos + q ∧ wr.heap[w.heap.size]? = some (.stringIter s pos) ∧ Ty wr w.heap.size v3 (tysOf ((s.data.toList.take pos).map UInt8.toNat)) ∧ (tysOf ((s.data.toList.take pos).map UInt8.toNat)).length ≤ pos ∧ Ch (fun _ => False) w wr)
  case atStart => exact ⟨0, by omega, by omega, hit0, own_nil _ _ _ _, by simp [tysOf], hc0⟩
  case round =>
    obtain ⟨pos, hp1, hp2, hit, hrow, hle, hc⟩ := hrel
    have hlt0 := (Array.getElem?_eq_some_iff.1 hit).1
    by_cases hlt : 0 < gk
    · have hp : pos < s.size := by omega
      have hpa := ha pos hp
      have hnx := fun ty => Lib.run_next_ascii_at (P := Tryd.prog) wr w.heap.size s pos ty hit hp hpa
      have hit2 := Lib.iterAt_heap wr w.heap.size s pos (pos + 1) hit
      have hrow2 : Ty (wr.iterAt w.heap.size s (pos + 1)) w.heap.size _ _ := iter_own hrow hit
      have hc2 : Ch (fun _ => False) w (wr.iterAt w.heap.size s (pos + 1)) := iter_ch hc (Nat.le_refl _)
      have htk : (s.data.toList.take (pos + 1)).map UInt8.toNat = (s.data.toList.take pos).map UInt8.toNat ++ [(s[pos]'hp).toNat] := by
        rw [List.take_add_one, List.map_append]
        congr 1
        have hq : s.data.toList[pos]? = some (s[pos]'hp) := by
          rw [List.getElem?_eq_getElem (by simpa using hp)]
          rfl
        rw [hq]; rfl
      have hfs := tysOf_snoc ((s.data.toList.take pos).map UInt8.toNat) (s[pos]'hp).toNat
      rw [← htk] at hfs
      generalize wr.iterAt w.heap.size s (pos + 1) = wJ at hnx hit2 hrow2 hc2
      have hszJ := hc2.size
      clear htk hrow hc hit
      generalize (s[pos]'hp).toNat = c at hnx hpa hfs
      generalize tysOf ((s.data.toList.take pos).map UInt8.toNat) = ts at hrow2 hle hfs
      obtain ⟨A3, c3, rfl⟩ := own_len hrow2
      by_cases h0 : c = 122
      · have e0 : ((c : Int) == 122) = true := by simp [h0]
        have hty : tyOf c = [(1, 0)] := by simp [tyOf, h0]
        rw [hty] at hfs
        go_wp2_with (at_builtin; go_loud (refine wpList_append_lies _ rfl _ _ 29 rfl w.heap.size 33 i0 (.agg #[.int .u8 0, .int .u16 0]) 2 4 Tryd.underlying29 hi hz0 hz1 hz2 rfl (by decide) _ _ _ rfl (hrow2.alloc _) ⟨wJ.heap.size, 0, none⟩ 1 1 [.int .u8 1, .int .u16 0] rfl rfl (World.news_of_block (blk_new wJ (.cells #[.int .u8 1, .int .u16 0] 33))) (by simp [Value.oneCell']) (by decide) (by unfold maxLen; omega) (by omega) (by simp; omega) _ rfl ?_); intro g5 cap5 w5 ho5 hg5 hat5 hlt5)
        go_roundg (gk - 1)
        case rel =>
          refine ⟨pos + 1, by omega, by omega, iter_row (hrow2.alloc _) (blk_alloc hit2 _) hg5, by rw [hfs]; simpa [Ty, tcells] using ho5, by rw [hfs]; simp; omega, grow_base (Nat.le_refl _) (hc2.alloc _) (hrow2.alloc _) hg5⟩
        case measure => omega
      · have n0 : ((c : Int) == 122) = false := by simp; omega
        by_cases h1 : c = 98
        · have e1 : ((c : Int) == 98) = true := by simp [h1]
          have e0 : ((c : Int) == 122) = false := by simp; omega
          have hty : tyOf c = [(2, 0)] := by simp [tyOf, h1]
          rw [hty] at hfs
          go_wp2_with (at_builtin; go_loud (refine wpList_append_lies _ rfl _ _ 29 rfl w.heap.size 33 i0 (.agg #[.int .u8 0, .int .u16 0]) 2 4 Tryd.underlying29 hi hz0 hz1 hz2 rfl (by decide) _ _ _ rfl (hrow2.alloc _) ⟨wJ.heap.size, 0, none⟩ 1 1 [.int .u8 2, .int .u16 0] rfl rfl (World.news_of_block (blk_new wJ (.cells #[.int .u8 2, .int .u16 0] 33))) (by simp [Value.oneCell']) (by decide) (by unfold maxLen; omega) (by omega) (by simp; omega) _ rfl ?_); intro g5 cap5 w5 ho5 hg5 hat5 hlt5)
          go_roundg (gk - 1)
          case rel =>
            refine ⟨pos + 1, by omega, by omega, iter_row (hrow2.alloc _) (blk_alloc hit2 _) hg5, by rw [hfs]; simpa [Ty, tcells] using ho5, by rw [hfs]; simp; omega, grow_base (Nat.le_refl _) (hc2.alloc _) (hrow2.alloc _) hg5⟩
          case measure => omega
        · have n1 : ((c : Int) == 98) = false := by simp; omega
          by_cases h2 : c = 115
          · have e2 : ((c : Int) == 115) = true := by simp [h2]
            have e0 : ((c : Int) == 122) = false := by simp; omega
            have e1 : ((c : Int) == 98) = false := by simp; omega
            have hty : tyOf c = [(3, 0)] := by simp [tyOf, h2]
            rw [hty] at hfs
            go_wp2_with (at_builtin; go_loud (refine wpList_append_lies _ rfl _ _ 29 rfl w.heap.size 33 i0 (.agg #[.int .u8 0, .int .u16 0]) 2 4 Tryd.underlying29 hi hz0 hz1 hz2 rfl (by decide) _ _ _ rfl (hrow2.alloc _) ⟨wJ.heap.size, 0, none⟩ 1 1 [.int .u8 3, .int .u16 0] rfl rfl (World.news_of_block (blk_new wJ (.cells #[.int .u8 3, .int .u16 0] 33))) (by simp [Value.oneCell']) (by decide) (by unfold maxLen; omega) (by omega) (by simp; omega) _ rfl ?_); intro g5 cap5 w5 ho5 hg5 hat5 hlt5)
            go_roundg (gk - 1)
            case rel =>
              refine ⟨pos + 1, by omega, by omega, iter_row (hrow2.alloc _) (blk_alloc hit2 _) hg5, by rw [hfs]; simpa [Ty, tcells] using ho5, by rw [hfs]; simp; omega, grow_base (Nat.le_refl _) (hc2.alloc _) (hrow2.alloc _) hg5⟩
            case measure => omega
          · have n2 : ((c : Int) == 115) = false := by simp; omega
            by_cases h3 : c = 66
            · have e3 : ((c : Int) == 66) = true := by simp [h3]
              have e0 : ((c : Int) == 122) = false := by simp; omega
              have e1 : ((c : Int) == 98) = false := by simp; omega
              have e2 : ((c : Int) == 115) = false := by simp; omega
              have hty : tyOf c = [(6, 0)] := by simp [tyOf, h3]
              rw [hty] at hfs
              go_wp2_with (at_builtin; go_loud (refine wpList_append_lies _ rfl _ _ 29 rfl w.heap.size 33 i0 (.agg #[.int .u8 0, .int .u16 0]) 2 4 Tryd.underlying29 hi hz0 hz1 hz2 rfl (by decide) _ _ _ rfl (hrow2.alloc _) ⟨wJ.heap.size, 0, none⟩ 1 1 [.int .u8 6, .int .u16 0] rfl rfl (World.news_of_block (blk_new wJ (.cells #[.int .u8 6, .int .u16 0] 33))) (by simp [Value.oneCell']) (by decide) (by unfold maxLen; omega) (by omega) (by simp; omega) _ rfl ?_); intro g5 cap5 w5 ho5 hg5 hat5 hlt5)
              go_roundg (gk - 1)
              case rel =>
                refine ⟨pos + 1, by omega, by omega, iter_row (hrow2.alloc _) (blk_alloc hit2 _) hg5, by rw [hfs]; simpa [Ty, tcells] using ho5, by rw [hfs]; simp; omega, grow_base (Nat.le_refl _) (hc2.alloc _) (hrow2.alloc _) hg5⟩
              case measure => omega
            · have n3 : ((c : Int) == 66) = false := by simp; omega
              by_cases h4 : c = 83
              · have e4 : ((c : Int) == 83) = true := by simp [h4]
                have e0 : ((c : Int) == 122) = false := by simp; omega
                have e1 : ((c : Int) == 98) = false := by simp; omega
                have e2 : ((c : Int) == 115) = false := by simp; omega
                have e3 : ((c : Int) == 66) = false := by simp; omega
                have hty : tyOf c = [(7, 0)] := by simp [tyOf, h4]
                rw [hty] at hfs
                go_wp2_with (at_builtin; go_loud (refine wpList_append_lies _ rfl _ _ 29 rfl w.heap.size 33 i0 (.agg #[.int .u8 0, .int .u16 0]) 2 4 Tryd.underlying29 hi hz0 hz1 hz2 rfl (by decide) _ _ _ rfl (hrow2.alloc _) ⟨wJ.heap.size, 0, none⟩ 1 1 [.int .u8 7, .int .u16 0] rfl rfl (World.news_of_block (blk_new wJ (.cells #[.int .u8 7, .int .u16 0] 33))) (by simp [Value.oneCell']) (by decide) (by unfold maxLen; omega) (by omega) (by simp; omega) _ rfl ?_); intro g5 cap5 w5 ho5 hg5 hat5 hlt5)
                go_roundg (gk - 1)
                case rel =>
                  refine ⟨pos + 1, by omega, by omega, iter_row (hrow2.alloc _) (blk_alloc hit2 _) hg5, by rw [hfs]; simpa [Ty, tcells] using ho5, by rw [hfs]; simp; omega, grow_base (Nat.le_refl _) (hc2.alloc _) (hrow2.alloc _) hg5⟩
                case measure => omega
              · have n4 : ((c : Int) == 83) = false := by simp; omega
                by_cases h5 : c = 114
                · have e5 : ((c : Int) == 114) = true := by simp [h5]
                  have e0 : ((c : Int) == 122) = false := by simp; omega
                  have e1 : ((c : Int) == 98) = false := by simp; omega
                  have e2 : ((c : Int) == 115) = false := by simp; omega
                  have e3 : ((c : Int) == 66) = false := by simp; omega
                  have e4 : ((c : Int) == 83) = false := by simp; omega
                  have hty : tyOf c = [(4, 13)] := by simp [tyOf, h5]
                  rw [hty] at hfs
                  go_wp2_with (at_builtin; go_loud (refine wpList_append_lies _ rfl _ _ 29 rfl w.heap.size 33 i0 (.agg #[.int .u8 0, .int .u16 0]) 2 4 Tryd.underlying29 hi hz0 hz1 hz2 rfl (by decide) _ _ _ rfl (hrow2.alloc _) ⟨wJ.heap.size, 0, none⟩ 1 1 [.int .u8 4, .int .u16 13] rfl rfl (World.news_of_block (blk_new wJ (.cells #[.int .u8 4, .int .u16 13] 33))) (by simp [Value.oneCell']) (by decide) (by unfold maxLen; omega) (by omega) (by simp; omega) _ rfl ?_); intro g5 cap5 w5 ho5 hg5 hat5 hlt5)
                  go_roundg (gk - 1)
                  case rel =>
                    refine ⟨pos + 1, by omega, by omega, iter_row (hrow2.alloc _) (blk_alloc hit2 _) hg5, by rw [hfs]; simpa [Ty, tcells] using ho5, by rw [hfs]; simp; omega, grow_base (Nat.le_refl _) (hc2.alloc _) (hrow2.alloc _) hg5⟩
                  case measure => omega
                · have n5 : ((c : Int) == 114) = false := by simp; omega
                  by_cases h6 : c = 97
                  · have e6 : ((c : Int) == 97) = true := by simp [h6]
                    have e0 : ((c : Int) == 122) = false := by simp; omega
                    have e1 : ((c : Int) == 98) = false := by simp; omega
                    have e2 : ((c : Int) == 115) = false := by simp; omega
                    have e3 : ((c : Int) == 66) = false := by simp; omega
                    have e4 : ((c : Int) == 83) = false := by simp; omega
                    have e5 : ((c : Int) == 114) = false := by simp; omega
                    have hty : tyOf c = [(4, 12)] := by simp [tyOf, h6]
                    rw [hty] at hfs
                    go_wp2_with (at_builtin; go_loud (refine wpList_append_lies _ rfl _ _ 29 rfl w.heap.size 33 i0 (.agg #[.int .u8 0, .int .u16 0]) 2 4 Tryd.underlying29 hi hz0 hz1 hz2 rfl (by decide) _ _ _ rfl (hrow2.alloc _) ⟨wJ.heap.size, 0, none⟩ 1 1 [.int .u8 4, .int .u16 12] rfl rfl (World.news_of_block (blk_new wJ (.cells #[.int .u8 4, .int .u16 12] 33))) (by simp [Value.oneCell']) (by decide) (by unfold maxLen; omega) (by omega) (by simp; omega) _ rfl ?_); intro g5 cap5 w5 ho5 hg5 hat5 hlt5)
                    go_roundg (gk - 1)
                    case rel =>
                      refine ⟨pos + 1, by omega, by omega, iter_row (hrow2.alloc _) (blk_alloc hit2 _) hg5, by rw [hfs]; simpa [Ty, tcells] using ho5, by rw [hfs]; simp; omega, grow_base (Nat.le_refl _) (hc2.alloc _) (hrow2.alloc _) hg5⟩
                    case measure => omega
                  · have n6 : ((c : Int) == 97) = false := by simp; omega
                    have hty : tyOf c = [] := by simp [tyOf, h0, h1, h2, h3, h4, h5, h6]
                    rw [hty, List.append_nil] at hfs
                    go_wp2
                    go_roundg (gk - 1)
                    case rel => exact ⟨pos + 1, by omega, by omega, hit2, by rw [hfs]; exact hrow2, by rw [hfs]; omega, hc2⟩
                    case measure => omega
    · have hp : ¬ pos < s.size := by omega
      have hnx := fun ty => Lib.run_next_end_at (P := Tryd.prog) wr w.heap.size s pos ty hit hp
      have htk : s.data.toList.take pos = s.data.toList := List.take_of_length_le (by simp; exact Nat.le_of_not_lt hp)
      rw [htk] at hrow
      go_wp2
      go_ret
      exact ⟨_, rfl, hrow, hc⟩
end Go.Proofs.YtjknnifcbcdjiaaDoor.Tab
