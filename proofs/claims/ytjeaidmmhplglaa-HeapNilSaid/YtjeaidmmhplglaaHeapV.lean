/- HeapNil: of no memory, none, and zero ones, all is refused, or nothing. -/
import Derived.Test.YtjeaidmmhplglaaHeapZ
import Derived.Test.YtjeaidmmhplglaaHeapO
set_option linter.unusedVariables false
set_option linter.unusedSimpArgs false
namespace Go.Proofs.Ytjeaidmmhplglaa.Nvm
open Go.RowKit Go.Proofs.Ytjeaidmmhplglaa.Base
set_option maxHeartbeats 4000000 in
set_option maxRecDepth 100000 in
theorem hnil_false (w : World) (at_ i v : Int) : Calls Try.prog 3 #[.int .i64 at_, .int .i64 i, .int .u16 v, .bool false] w fun e w' => e = .returned (.bool true) ∧ Ch (fun _ => False) w w' := by
  have d0 := Ch.refl (fun _ => False) w
  have zt : Zt w none := Or.inl rfl
  have zr : Zr w none := Or.inl rfl
  have zh : Zh w none := Or.inl rfl
  go_enter Try.func3, Try.ntmps3
  go_wp2_with (fail)
  refine (Ram.new_calls _).mono ?_
  rintro e wb ⟨rfl, hwb⟩
  have cb : Ch (fun _ => False) w wb := hwb ▸ (Ch.refl _ _).alloc _
  clear hwb
  replace zt := zt.gr cb
  replace zr := zr.gr cb
  replace zh := zh.gr cb
  replace d0 := d0.then cb
  clear cb
  go_wp2_with (fail)
  refine (hnew_zt zt).mono ?_
  rintro e wc ⟨rfl, rfl⟩
  go_wp2_with (fail)
  refine (new_ok _ 4096 (by omega) (by omega) (by omega)).mono ?_
  rintro e wd ⟨F, N, rfl, n0, lo, cd⟩
  replace zr := zr.gr cd
  replace zh := zh.gr cd
  replace d0 := d0.then cd
  clear zt cd lo
  have hf : (fresh 4096).l.length = 4096 := by simp [fresh]
  generalize fresh 4096 = s0 at *
  go_wp2_with (fail)
  refine (newt_tx n0).mono ?_
  rintro e we ⟨rfl, t0, ce⟩
  replace zr := zr.gr ce
  replace zh := zh.gr ce
  replace d0 := d0.then ce
  clear n0 ce hf
  generalize wd.heap.size = T at *
  go_wp2_with (fail)
  refine (hnew_zr t0 zr).mono ?_
  rintro e wf ⟨rfl, rfl⟩
  clear t0 zr
  go_wp2_with (fail)
  refine (hmake_zero zh ⟨6, -1, 0, 0, 0, 0⟩).mono ?_
  rintro e w1 ⟨rfl, c1⟩
  replace zh := zh.gr c1
  replace d0 := d0.then c1
  clear c1
  go_wp2_with (fail)
  refine (hhead_zero zh at_).mono ?_
  rintro e w1 ⟨rfl, c1⟩
  replace zh := zh.gr c1
  replace d0 := d0.then c1
  clear c1
  simp only [enc, Hd.zero]
  have q1 : Ch (fun _ => False) w1 (w1.alloc (.cells #[.int .u8 0, .int .i64 0, .int .i64 0, .int .i64 0, .int .u8 0, .int .i64 0] 46)) := (Ch.refl _ _).alloc _
  replace zh := zh.gr q1
  replace d0 := d0.then q1
  clear q1
  go_wp2_with (fail)
  refine (hget_zero zh at_ i).mono ?_
  rintro e w1 ⟨rfl, c1⟩
  replace zh := zh.gr c1
  replace d0 := d0.then c1
  clear c1
  go_wp2_with (fail)
  refine (hall_zero zh).mono ?_
  rintro e w2 ⟨rfl, rfl⟩
  go_wp2_with (fail)
  refine (hroom_zero zh).mono ?_
  rintro e w2 ⟨rfl, rfl⟩
  go_wp2_with (fail)
  refine (hput_zero zh at_ i v).mono ?_
  rintro e w1 ⟨rfl, c1⟩
  replace zh := zh.gr c1
  replace d0 := d0.then c1
  clear c1
  go_wp2_with (fail)
  refine (hraw_zero zh at_ i v).mono ?_
  rintro e w1 ⟨rfl, c1⟩
  replace zh := zh.gr c1
  replace d0 := d0.then c1
  clear c1
  go_wp2_with (fail)
  refine (hlose_zero zh i 1).mono ?_
  rintro e w1 ⟨rfl, c1⟩
  replace zh := zh.gr c1
  replace d0 := d0.then c1
  clear c1
  go_wp2_with (fail)
  refine (htxn_zero zh).mono ?_
  rintro e w2 ⟨rfl, rfl⟩
  go_wp2_with (fail)
  refine (hram_zero zh).mono ?_
  rintro e w2 ⟨rfl, rfl⟩
  go_wp2_with (fail)
  refine (hworks_ok _).mono ?_
  rintro e wz ⟨rfl, cz⟩
  go_wp2_with (fail)
  go_ret
  exact ⟨rfl, d0.then cz⟩
set_option maxHeartbeats 4000000 in
set_option maxRecDepth 100000 in
theorem hnil_true (w : World) (at_ i v : Int) : Calls Try.prog 3 #[.int .i64 at_, .int .i64 i, .int .u16 v, .bool true] w fun e w' => e = .returned (.bool true) ∧ Ch (fun _ => False) w w' := by
  have hzc : Try.zeroCells31 = Ram.cp false Ram.zs := by kernel_rfl
  have HZC := Lib.hid hzc
  clear hzc
  go_enter Try.func3, Try.ntmps3
  go_wp2_with (fail)
  rw [HZC.out]
  have d0 : Ch (fun _ => False) w (((w.alloc (.cells #[.pointer none] 28)).alloc (.cells (Ram.cp false Ram.zs) 31)).alloc (.cells #[.pointer none, .pointer none] 33)) := (((Ch.refl _ _).alloc _).alloc _).alloc _
  have zt : Zt (((w.alloc (.cells #[.pointer none] 28)).alloc (.cells (Ram.cp false Ram.zs) 31)).alloc (.cells #[.pointer none, .pointer none] 33)) (some ⟨w.heap.size, 0, none⟩) := Or.inr ⟨_, rfl, ((Blk.new w _ _).alloc _).alloc _⟩
  have zr : Zr (((w.alloc (.cells #[.pointer none] 28)).alloc (.cells (Ram.cp false Ram.zs) 31)).alloc (.cells #[.pointer none, .pointer none] 33)) (some ⟨w.heap.size + 1, 0, none⟩) := Or.inr ⟨_, _, rfl, (blk_at (Blk.new (w.alloc (.cells #[.pointer none] 28)) (Ram.cp false Ram.zs) 31) (by simp)).alloc _⟩
  have zh : Zh (((w.alloc (.cells #[.pointer none] 28)).alloc (.cells (Ram.cp false Ram.zs) 31)).alloc (.cells #[.pointer none, .pointer none] 33)) (some ⟨w.heap.size + 1 + 1, 0, none⟩) := Or.inr ⟨_, rfl, blk_at (Blk.new ((w.alloc (.cells #[.pointer none] 28)).alloc (.cells (Ram.cp false Ram.zs) 31)) #[.pointer none, .pointer none] 33) (by simp)⟩
  generalize (((w.alloc (.cells #[.pointer none] 28)).alloc (.cells (Ram.cp false Ram.zs) 31)).alloc (.cells #[.pointer none, .pointer none] 33)) = wa at *
  refine (Ram.new_calls _).mono ?_
  rintro e wb ⟨rfl, hwb⟩
  have cb : Ch (fun _ => False) wa wb := hwb ▸ (Ch.refl _ _).alloc _
  clear hwb
  replace zt := zt.gr cb
  replace zr := zr.gr cb
  replace zh := zh.gr cb
  replace d0 := d0.then cb
  clear cb
  go_wp2_with (fail)
  refine (hnew_zt zt).mono ?_
  rintro e wc ⟨rfl, rfl⟩
  go_wp2_with (fail)
  refine (new_ok _ 4096 (by omega) (by omega) (by omega)).mono ?_
  rintro e wd ⟨F, N, rfl, n0, lo, cd⟩
  replace zr := zr.gr cd
  replace zh := zh.gr cd
  replace d0 := d0.then cd
  clear zt cd lo
  have hf : (fresh 4096).l.length = 4096 := by simp [fresh]
  generalize fresh 4096 = s0 at *
  go_wp2_with (fail)
  refine (newt_tx n0).mono ?_
  rintro e we ⟨rfl, t0, ce⟩
  replace zr := zr.gr ce
  replace zh := zh.gr ce
  replace d0 := d0.then ce
  clear n0 ce hf
  generalize wd.heap.size = T at *
  go_wp2_with (fail)
  refine (hnew_zr t0 zr).mono ?_
  rintro e wf ⟨rfl, rfl⟩
  clear t0 zr
  go_wp2_with (fail)
  refine (hmake_zero zh ⟨6, -1, 0, 0, 0, 0⟩).mono ?_
  rintro e w1 ⟨rfl, c1⟩
  replace zh := zh.gr c1
  replace d0 := d0.then c1
  clear c1
  go_wp2_with (fail)
  refine (hhead_zero zh at_).mono ?_
  rintro e w1 ⟨rfl, c1⟩
  replace zh := zh.gr c1
  replace d0 := d0.then c1
  clear c1
  simp only [enc, Hd.zero]
  have q1 : Ch (fun _ => False) w1 (w1.alloc (.cells #[.int .u8 0, .int .i64 0, .int .i64 0, .int .i64 0, .int .u8 0, .int .i64 0] 46)) := (Ch.refl _ _).alloc _
  replace zh := zh.gr q1
  replace d0 := d0.then q1
  clear q1
  go_wp2_with (fail)
  refine (hget_zero zh at_ i).mono ?_
  rintro e w1 ⟨rfl, c1⟩
  replace zh := zh.gr c1
  replace d0 := d0.then c1
  clear c1
  go_wp2_with (fail)
  refine (hall_zero zh).mono ?_
  rintro e w2 ⟨rfl, rfl⟩
  go_wp2_with (fail)
  refine (hroom_zero zh).mono ?_
  rintro e w2 ⟨rfl, rfl⟩
  go_wp2_with (fail)
  refine (hput_zero zh at_ i v).mono ?_
  rintro e w1 ⟨rfl, c1⟩
  replace zh := zh.gr c1
  replace d0 := d0.then c1
  clear c1
  go_wp2_with (fail)
  refine (hraw_zero zh at_ i v).mono ?_
  rintro e w1 ⟨rfl, c1⟩
  replace zh := zh.gr c1
  replace d0 := d0.then c1
  clear c1
  go_wp2_with (fail)
  refine (hlose_zero zh i 1).mono ?_
  rintro e w1 ⟨rfl, c1⟩
  replace zh := zh.gr c1
  replace d0 := d0.then c1
  clear c1
  go_wp2_with (fail)
  refine (htxn_zero zh).mono ?_
  rintro e w2 ⟨rfl, rfl⟩
  go_wp2_with (fail)
  refine (hram_zero zh).mono ?_
  rintro e w2 ⟨rfl, rfl⟩
  go_wp2_with (fail)
  refine (hworks_ok _).mono ?_
  rintro e wz ⟨rfl, cz⟩
  go_wp2_with (fail)
  go_ret
  exact ⟨rfl, d0.then cz⟩
theorem hnil_law (w : World) (at_ i v : Int) (b : Bool) : Calls Try.prog 3 #[.int .i64 at_, .int .i64 i, .int .u16 v, .bool b] w fun e w' => e = .returned (.bool true) ∧ Below w.heap.size w w' := by
  cases b
  · exact (hnil_false w at_ i v).mono (by rintro e w' ⟨rfl, c⟩; exact ⟨rfl, c.below (fun _ h => h.elim) (Nat.le_refl _)⟩)
  · exact (hnil_true w at_ i v).mono (by rintro e w' ⟨rfl, c⟩; exact ⟨rfl, c.below (fun _ h => h.elim) (Nat.le_refl _)⟩)
end Go.Proofs.Ytjeaidmmhplglaa.Nvm
