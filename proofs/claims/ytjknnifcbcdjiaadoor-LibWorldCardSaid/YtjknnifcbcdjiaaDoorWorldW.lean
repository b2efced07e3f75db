/- The walk of the card's world. -/
import Derived.Test.YtjknnifcbcdjiaaDoorTabWalk
import Derived.Test.YtjknnifcbcdjiaaDoorWorldC
import Derived.Deep.RegionLaw
import Derived.BigRegion
set_option linter.unusedVariables false
set_option linter.unusedSimpArgs false
namespace Go.Proofs.YtjknnifcbcdjiaaDoor.Tab
open Go.RowKit Go.Proofs.YtjknnifcbcdjiaaDoor.Base Go.Proofs.YtjknnifcbcdjiaaDoorW.PrintWords Go.Proofs.YtjknnifcbcdjiaaDoorW.PrintLast
/-- All rows of the table. -/
def rows0 : List RowM := rows3 ++ List.replicate 9 rowE ++ [row8] ++ [row9] ++ [row10] ++ [row11] ++ [row12] ++ [row13]
theorem rows0_len : rows0.length = 17 := by decide
theorem rows0_super (i : Nat) (h : i < rows0.length) : (rows0[i]).super < 0 ∨ (0 ≤ (rows0[i]).super ∧ (rows0[i]).super.toNat < i) := by
  have key : ((List.range 17).all fun i => match rows0[i]? with | some r => decide (r.super < 0) || (decide (0 ≤ r.super) && decide (r.super.toNat < i)) | none => true) = true := by decide
  have := List.all_eq_true.1 key i (List.mem_range.2 (by rw [rows0_len] at h; exact h))
  rw [List.getElem?_eq_getElem h] at this
  simpa using this
def lm (i : Nat) (n : NatM) : MetM := ⟨n.f, i, n.ts, n.k, n.c, n.n⟩
def vstep (i : Nat) (s : List Int × List MetM) (n : NatM) : List Int × List MetM := if n.n = 0 then (s.1 ++ [-1], s.2) else (s.1 ++ [(s.2.length : Int)], s.2 ++ [lm i n])
def ostep (i : Nat) (s : List Int × List MetM) (n : NatM) : List Int × List MetM := (s.1 ++ [(s.2.length : Int)], s.2 ++ [lm i n])
def dcls : ClsM := ⟨0, 0, [], []⟩
def f0 (cl : List ClsM) (r : RowM) : List (Int × Int) := if 0 ≤ r.super then (cl.getD r.super.toNat dcls).fields else []
def g0 (cl : List ClsM) (r : RowM) : List Int := if 0 ≤ r.super then (cl.getD r.super.toNat dcls).virtuals else []
def wstep (s : List ClsM × List MetM × List ExpM) (i : Nat) (r : RowM) : List ClsM × List MetM × List ExpM :=
  (s.1 ++ [⟨r.flags, r.super, f0 s.1 r ++ r.fields, (r.virtuals.foldl (vstep i) (g0 s.1 r, s.2.1)).1⟩], (r.others.foldl (ostep i) ([], (r.virtuals.foldl (vstep i) (g0 s.1 r, s.2.1)).2)).2,
    s.2.2 ++ [⟨i, (r.others.foldl (ostep i) ([], (r.virtuals.foldl (vstep i) (g0 s.1 r, s.2.1)).2)).1⟩])
/-- The world behind so many rows. -/
def wst : Nat → List ClsM × List MetM × List ExpM
  | 0 => ([], [], [])
  | k + 1 => wstep (wst k) k (rows0.getD k rowE)
theorem wst_len (k : Nat) : (wst k).1.length = k := by
  induction k with
  | zero => rfl
  | succ k ih => simp [wst, wstep, ih]
theorem wst_lene (k : Nat) : (wst k).2.2.length = k := by
  induction k with
  | zero => rfl
  | succ k ih => simp [wst, wstep, ih]
/-- Nothing grows far. -/
theorem small_k (k : Nat) (h : k < 17) : (f0 (wst k).1 (rows0.getD k rowE)).length + (rows0.getD k rowE).fields.length ≤ 1000 ∧ (g0 (wst k).1 (rows0.getD k rowE)).length + (rows0.getD k rowE).virtuals.length ≤ 1000 ∧ (wst k).2.1.length + (rows0.getD k rowE).virtuals.length + (rows0.getD k rowE).others.length ≤ 1000 := by
  have key : ((List.range 17).all fun k => decide ((f0 (wst k).1 (rows0.getD k rowE)).length + (rows0.getD k rowE).fields.length ≤ 1000) && (decide ((g0 (wst k).1 (rows0.getD k rowE)).length + (rows0.getD k rowE).virtuals.length ≤ 1000) && decide ((wst k).2.1.length + (rows0.getD k rowE).virtuals.length + (rows0.getD k rowE).others.length ≤ 1000))) = true := by decide +kernel
  have := List.all_eq_true.1 key k (List.mem_range.2 h)
  simpa using this
theorem vfold_len (i : Nat) (l : List NatM) : ∀ s : List Int × List MetM, (l.foldl (vstep i) s).1.length = s.1.length + l.length ∧ (l.foldl (vstep i) s).2.length ≤ s.2.length + l.length := by
  induction l with
  | nil => exact fun s => ⟨rfl, Nat.le_refl _⟩
  | cons n l ih =>
    intro s
    obtain ⟨h1, h2⟩ := ih (vstep i s n)
    rw [List.foldl_cons, List.length_cons]
    have : (vstep i s n).1.length = s.1.length + 1 ∧ (vstep i s n).2.length ≤ s.2.length + 1 := by
      unfold vstep
      split <;> simp
    omega
theorem ofold_len (i : Nat) (l : List NatM) : ∀ s : List Int × List MetM, (l.foldl (ostep i) s).1.length = s.1.length + l.length ∧ (l.foldl (ostep i) s).2.length = s.2.length + l.length := by
  induction l with
  | nil => exact fun s => ⟨rfl, rfl⟩
  | cons n l ih =>
    intro s
    obtain ⟨h1, h2⟩ := ih (ostep i s n)
    rw [List.foldl_cons, List.length_cons]
    have : (ostep i s n).1.length = s.1.length + 1 ∧ (ostep i s n).2.length = s.2.length + 1 := by
      unfold ostep
      simp
    omega
/-- The card's world, as a value. -/
def WorldRep (w : World) (base : Nat) (v : Value) (s : List ClsM × List MetM × List ExpM) : Prop :=
  ∃ v1 v2 v3 v4 N, v = .agg #[v1, v2, .slice none 0 0, v4] ∧ (∃ xs, w.ownsRow base 44 7 v1 s.1.length xs ∧ Reps (ClsRep w base) 7 s.1 xs) ∧ (∃ xs, w.ownsRow base 39 11 v2 s.2.1.length xs ∧ Reps (MetRep w base) 11 s.2.1 xs) ∧
    (∃ xs, w.ownsRow base 67 3 v3 s.2.2.length xs ∧ Reps (ExpRep w base) 3 s.2.2 xs) ∧ base ≤ N ∧ Blk w N #[.int .u8 160, .int .u8 0, .int .u8 0, .int .u8 0, .int .u8 98, .int .u8 1, .int .u8 1] 5 ∧
    w.ownsRow base 56 6 v4 1 [.slice (some ⟨N, 0, none⟩) 7 7, .int .u8 1, .int .u8 0, .bool false, v3, .slice none 0 0]
def WorldPost (w : World) (e : Ending) (w' : World) : Prop := ∃ v, e = .returned v ∧ WorldRep w' w.heap.size v (wst 17) ∧ Ch (fun _ => False) w w'
theorem info39w : (Tryd.prog.info? 39).map (fun i => (i.zero, i.size, i.bytes)) = some (some (.agg #[.int .i64 0, .int .u8 0, .int .i64 0, .slice none 0 0, .int .u8 0, .int .u16 0, .int .i64 0, .int .i64 0, .slice none 0 0, .slice none 0 0, .int .i64 0]), 11, 128) := by kernel_rfl
theorem info44w : (Tryd.prog.info? 44).map (fun i => (i.zero, i.size, i.bytes)) = some (some (.agg #[.int .i64 0, .int .u8 0, .int .i64 0, .slice none 0 0, .slice none 0 0, .slice none 0 0, .slice none 0 0]), 7, 120) := by kernel_rfl
theorem info67w : (Tryd.prog.info? 67).map (fun i => (i.zero, i.size, i.bytes)) = some (some (.agg #[.int .i64 0, .slice none 0 0, .slice none 0 0]), 3, 56) := by kernel_rfl
theorem info33w : (Tryd.prog.info? 33).map (fun i => (i.zero, i.size, i.bytes)) = some (some (.agg #[.int .u8 0, .int .u16 0]), 2, 4) := by kernel_rfl
theorem info3w : (Tryd.prog.info? 3).map (fun i => (i.zero, i.size, i.bytes)) = some (some (.int .i64 0), 1, 8) := by kernel_rfl
theorem info56w : (Tryd.prog.info? 56).map (fun i => (i.zero, i.size, i.bytes)) = some (some (.agg #[.slice none 0 0, .int .u8 0, .int .u8 0, .bool false, .slice none 0 0, .slice none 0 0]), 6, 80) := by kernel_rfl
theorem one_pkg (N : Nat) (A : Option Addr) (l c : Nat) : ∀ u ∈ [Value.slice (some ⟨N, 0, none⟩) 7 7, .int .u8 1, .int .u8 0, .bool false, .slice A l c, .slice none 0 0], u.oneCell' = true := fun u hu => by
  simp only [List.mem_cons, List.not_mem_nil, or_false] at hu
  rcases hu with rfl | rfl | rfl | rfl | rfl | rfl <;> rfl
set_option maxHeartbeats 40000000 in
set_option maxRecDepth 100000 in
theorem world_any (w : World) : Calls Tryd.prog 9 #[] w fun e w' => WorldPost w e w' := by
  obtain ⟨i6, hi6, ha6, hb6, hc6⟩ := info_parts info56w
  obtain ⟨i1, hi1, ha1, hb1, hc1⟩ := info_parts info33w
  obtain ⟨i2, hi2, ha2, hb2, hc2⟩ := info_parts info3w
  obtain ⟨i3, hi3, ha3, hb3, hc3⟩ := info_parts info39w
  obtain ⟨i4, hi4, ha4, hb4, hc4⟩ := info_parts info44w
  obtain ⟨i5, hi5, ha5, hb5, hc5⟩ := info_parts info67w
  go_enter Tryd.func9, Tryd.ntmps9
  go_wp2_with (fail)
  have a1 : Ch (fun _ => False) w ((((w.alloc (.cells #[.slice none 0 0, .slice none 0 0, .slice none 0 0, .slice none 0 0] 27)).alloc (.cells #[.slice none 0 0, .slice none 0 0, .slice none 0 0, .slice none 0 0] 27)).alloc (.cells #[.int .u8 160, .int .u8 0, .int .u8 0, .int .u8 0, .int .u8 98, .int .u8 1, .int .u8 1] 5)).alloc (.cells #[.slice (some ⟨w.heap.size + 1 + 1, 0, none⟩) 7 7, .int .u8 1, .int .u8 0, .bool false, .slice none 0 0, .slice none 0 0] 56)) := ((((Ch.refl _ _).alloc _).alloc _).alloc _).alloc _
  have q1 := (((Blk.new w #[.slice none 0 0, .slice none 0 0, .slice none 0 0, .slice none 0 0] 27).alloc (.cells #[.slice none 0 0, .slice none 0 0, .slice none 0 0, .slice none 0 0] 27)).alloc (.cells #[.int .u8 160, .int .u8 0, .int .u8 0, .int .u8 0, .int .u8 98, .int .u8 1, .int .u8 1] 5)).alloc (.cells #[.slice (some ⟨w.heap.size + 1 + 1, 0, none⟩) 7 7, .int .u8 1, .int .u8 0, .bool false, .slice none 0 0, .slice none 0 0] 56)
  have q2 := ((Blk.new (w.alloc (.cells #[.slice none 0 0, .slice none 0 0, .slice none 0 0, .slice none 0 0] 27)) #[.slice none 0 0, .slice none 0 0, .slice none 0 0, .slice none 0 0] 27).alloc (.cells #[.int .u8 160, .int .u8 0, .int .u8 0, .int .u8 0, .int .u8 98, .int .u8 1, .int .u8 1] 5)).alloc (.cells #[.slice (some ⟨w.heap.size + 1 + 1, 0, none⟩) 7 7, .int .u8 1, .int .u8 0, .bool false, .slice none 0 0, .slice none 0 0] 56)
  have q3 := (Blk.new ((w.alloc (.cells #[.slice none 0 0, .slice none 0 0, .slice none 0 0, .slice none 0 0] 27)).alloc (.cells #[.slice none 0 0, .slice none 0 0, .slice none 0 0, .slice none 0 0] 27)) #[.int .u8 160, .int .u8 0, .int .u8 0, .int .u8 0, .int .u8 98, .int .u8 1, .int .u8 1] 5).alloc (.cells #[.slice (some ⟨w.heap.size + 1 + 1, 0, none⟩) 7 7, .int .u8 1, .int .u8 0, .bool false, .slice none 0 0, .slice none 0 0] 56)
  have q4 := Blk.new (((w.alloc (.cells #[.slice none 0 0, .slice none 0 0, .slice none 0 0, .slice none 0 0] 27)).alloc (.cells #[.slice none 0 0, .slice none 0 0, .slice none 0 0, .slice none 0 0] 27)).alloc (.cells #[.int .u8 160, .int .u8 0, .int .u8 0, .int .u8 0, .int .u8 98, .int .u8 1, .int .u8 1] 5)) #[.slice (some ⟨w.heap.size + 1 + 1, 0, none⟩) 7 7, .int .u8 1, .int .u8 0, .bool false, .slice none 0 0, .slice none 0 0] 56
  simp only [size_alloc] at q2 q3 q4
  have hd0 : Hd w w.heap.size (w.heap.size + 1) (w.heap.size + 1 + 1) (w.heap.size + 1 + 1 + 1) (.slice none 0 0) (.slice none 0 0) (.slice none 0 0) [] [] [] _ := ⟨a1, q1, q2, q3, q4, ⟨[], own_nil _ _ _ _, Reps.none _ _⟩, ⟨[], own_nil _ _ _ _, Reps.none _ _⟩, ⟨[], own_nil _ _ _ _, Reps.none _ _⟩, by omega, by omega, by omega, Nat.le_refl _⟩
  clear a1 q1 q2 q3 q4
  have hT := table_any ((((w.alloc (.cells #[.slice none 0 0, .slice none 0 0, .slice none 0 0, .slice none 0 0] 27)).alloc (.cells #[.slice none 0 0, .slice none 0 0, .slice none 0 0, .slice none 0 0] 27)).alloc (.cells #[.int .u8 160, .int .u8 0, .int .u8 0, .int .u8 0, .int .u8 98, .int .u8 1, .int .u8 1] 5)).alloc (.cells #[.slice (some ⟨w.heap.size + 1 + 1, 0, none⟩) 7 7, .int .u8 1, .int .u8 0, .bool false, .slice none 0 0, .slice none 0 0] 56))
  generalize (((w.alloc (.cells #[.slice none 0 0, .slice none 0 0, .slice none 0 0, .slice none 0 0] 27)).alloc (.cells #[.slice none 0 0, .slice none 0 0, .slice none 0 0, .slice none 0 0] 27)).alloc (.cells #[.int .u8 160, .int .u8 0, .int .u8 0, .int .u8 0, .int .u8 98, .int .u8 1, .int .u8 1] 5)).alloc (.cells #[.slice (some ⟨w.heap.size + 1 + 1, 0, none⟩) 7 7, .int .u8 1, .int .u8 0, .bool false, .slice none 0 0, .slice none 0 0] 56) = wa at *
  have HNB := Lib.hid (show w.heap.size ≤ w.heap.size + 1 + 1 by omega)
  generalize w.heap.size + 1 + 1 + 1 = P at *
  generalize w.heap.size + 1 + 1 = NB at *
  generalize w.heap.size + 1 = W1 at *
  obtain ⟨Z, hZ⟩ : ∃ Z, Z = w.heap.size := ⟨_, rfl⟩
  rw [← hZ] at hd0
  have HZ := Lib.hid hZ
  refine hT.mono ?_
  rintro e wb ⟨vT, rfl, hO, cb⟩
  have hd1 := hd0.gr cb
  have hO1 : Out wb w.heap.size vT rows0 := hO.lower hd0.ch.size
  clear hd0 hT hO cb hZ
  go_wp2_with (fail)
  go_loopg [4] 17 (fun q i wl => ∃ k : Nat, k + q ≤ 17 ∧ 17 ≤ k + q ∧ i = .int .i64 k ∧ ∃ v1 v2 v3, Hd w Z W1 NB P v1 v2 v3 (wst k).1 (wst k).2.1 (wst k).2.2 wl ∧ Out wl w.heap.size vT rows0)
  case atStart => exact ⟨0, by omega, by omega, rfl, _, _, _, hd1, hO1⟩
  case round =>
    clear hd1 hO1
    obtain ⟨k, hk1, hk2, rfl, v1, v2, v3, hd, hO⟩ := hrel
    obtain ⟨g, cap, Af, lf, cf, Av, cv, Ao, co, hv, x0, x1, x2, x3, x4, hTy, hNv, hNo⟩ := hO.at_ (min k 16) (by rw [rows0_len]; omega)
    rw [rows0_len] at hv
    subst hv
    by_cases hlt : 0 < gk
    · have hkm : min k 16 = k := by omega
      have hi17 : (k : Int) < 17 := by omega
      simp only [hkm] at x0 x1 x2 x3 x4 hTy hNv hNo
      have hk0 : k < rows0.length := by rw [rows0_len]; omega
      have hr : rows0[k] = rows0.getD k rowE := by rw [List.getD_eq_getElem?_getD, List.getElem?_eq_getElem hk0]; rfl
      have hs := rows0_super k hk0
      rw [hr] at x0 x1 x3 x4 hTy hNv hNo hs
      have hcl := wst_len k
      obtain ⟨n1, n2, n3⟩ := small_k k (by omega)
      have HW := Lib.hid (show wst (k + 1) = wstep (wst k) k (rows0.getD k rowE) from rfl)
      clear hkm hr hlt hk0
      generalize rows0.getD k rowE = r at *
      generalize hwst : wst k = s at *
      obtain ⟨cl, ms, ex⟩ := s
      dsimp only at hd hcl n1 n2 n3
      have HWK := Lib.hid hwst
      clear hwst
      obtain ⟨xc, xm, xe, rcl, re, hR⟩ := Rd.start hd #[.int .i64 r.super, .int .u8 r.flags, .slice Af lf cf, .slice Av r.virtuals.length cv, .slice Ao r.others.length co] r.flags r.super k 0 (.slice none 0 0)
      have hOq := Lib.hid hO
      clear hO hd
      go_upto_if 31 with (fail)
      generalize hwq : (wr.alloc (.cells #[.int .i64 r.super, .int .u8 r.flags, .slice Af lf cf, .slice Av r.virtuals.length cv, .slice Ao r.others.length co] 75)).alloc (.cells #[.int .i64 0, .int .u8 r.flags, .int .i64 r.super, .slice none 0 0, .slice none 0 0, .slice none 0 0, .slice none 0 0] 44) = wq at *
      generalize hcb : wr.heap.size + 1 = Cb at *
      obtain ⟨R, hRr⟩ : ∃ R, R = wr.heap.size := ⟨_, rfl⟩
      go_cut [] (fun wx => ∃ vf vv, Rd false w wr Z W1 NB P wr.heap.size Cb 0 #[.int .i64 r.super, .int .u8 r.flags, .slice Af lf cf, .slice Av r.virtuals.length cv, .slice Ao r.others.length co] r.flags r.super k v1 v3 vf vv (.slice none 0 0) v2 vf vv (.slice none 0 0) v2 cl.length ex.length xc xe xm (f0 cl r) (g0 cl r) [] ms wx)
      case first =>
        --<
        by_cases h0 : 0 ≤ r.super
        · obtain ⟨m, hm⟩ : ∃ m : Nat, r.super = m := ⟨r.super.toNat, by omega⟩
          have hmk : m < k := by
            rcases hs with h | h
            · omega
            · have := h.2; rw [hm] at this; simpa using this
          have hgd : cl.getD m dcls = cl[m]'(by omega) := by rw [List.getD_eq_getElem?_getD, List.getElem?_eq_getElem (by omega)]; rfl
          obtain ⟨gc, capc, vf1, vv1, hv1, z4, z5, hT1, hI1⟩ := cls_at hR.oc rcl hR.oq m (by omega)
          rw [hcl] at hv1
          have hfg : f0 cl r = (cl[m]'(by omega)).fields ∧ g0 cl r = (cl[m]'(by omega)).virtuals := by
            unfold f0 g0
            rw [if_pos h0, if_pos h0, hm, ← hgd]
            exact ⟨rfl, rfl⟩
          rw [← hfg.1] at hT1
          rw [← hfg.2] at hI1
          have hmk' : (m : Int) < (k : Int) := by omega
          rw [hm] at hR
          subst hv1
          have HFG := Lib.hid hfg
          have HM := Lib.hid hm
          clear hfg hgd hs h0
          have hRX := hR
          have y0 : wq.cell? ⟨wr.heap.size, 0, none⟩ = some (.int .i64 m) := hR.r.cell 0
          go_upto_region 10 with (fail)
          clear y0
          go_cut [] (fun wx => ∃ vf, Rd false w wr Z W1 NB P wr.heap.size Cb 0 #[.int .i64 m, .int .u8 r.flags, .slice Af lf cf, .slice Av r.virtuals.length cv, .slice Ao r.others.length co] r.flags m k (.slice (some ⟨gc, 0, none⟩) k capc) v3 vf (.slice none 0 0) (.slice none 0 0) v2 vf (.slice none 0 0) (.slice none 0 0) v2 cl.length ex.length xc xe xm (f0 cl r) [] [] ms wx)
          case first =>
            have y1 : wq.cell? ⟨wr.heap.size, 0, none⟩ = some (.int .i64 m) := hR.r.cell 0
            have y2 : wq.cell? ⟨Cb, 4, none⟩ = some (.slice none 0 0) := hR.c.cell 4
            have y3 : wq.cell? ⟨W1, 0, none⟩ = some (.slice (some ⟨gc, 0, none⟩) k capc) := hR.w1.cell 0
            have y4 : wq.frozen? ⟨Cb, 4, none⟩ = false := hR.c.free 4
            go_wp2_with (fail)
            have hT1d : Ty wq.drew w.heap.size vf1 (f0 cl r) := hT1.kp (T := 0) (kp_ch (Ch.refl _ _).drew) (by decide)
            have hnl : wq.drew.ownsRow wr.heap.size 33 2 (.slice none 0 0) 0 [] := own_nil _ _ _ _
            have hsz : wr.heap.size ≤ wq.drew.heap.size := by have := hR.hc; have := hR.c.lt; show wr.heap.size ≤ wq.heap.size; omega
            have hb1' : 0 + (f0 cl r).length ≤ maxLen := by unfold maxLen; omega
            have hb2' : (0 + (f0 cl r).length) * 4 ≤ 140737488355328 := by omega
            have hRd := hR.gr (Ch.refl _ wq).drew
            go_region_law (refine step_append_src rfl (.tmp 33) (.tmp 40) 29 rfl wr.heap.size 33 i1 (.agg #[.int .u8 0, .int .u16 0]) 2 4 Tryd.underlying29 hi1 ha1 hb1 hc1 rfl (by decide) (.slice none 0 0) 0 [] (by simp [Act.eval, Act.put]) hnl w.heap.size vf1 (f0 cl r).length (tcells (f0 cl r)) (by simp [Act.eval, Act.put]) hT1d (one_tcells _) hb1' hb2' hsz ?_; intro v5 w5 ho5 hg5; obtain ⟨A5, c5, rfl⟩ := own_len ho5; have hR5 := hRd.growF (fs' := f0 cl r) hg5 (by simpa using ho5); have y5 : w5.cell? ⟨Cb, 4, none⟩ = some (.slice none 0 0) := hR5.c.cell 4; have y6 : w5.frozen? ⟨Cb, 4, none⟩ = false := hR5.c.free 4)
            all_goals (go_wp2_with (fail); go_meet; exact ⟨_, hR5.setF _⟩)
          case rest =>
            obtain ⟨vf, hR⟩ := hcut
            rename_i wc
            obtain ⟨gc2, capc2, vf2, vv2, hv2, z4, z5, hT2, hI2⟩ := cls_at hR.oc rcl hR.oq m (by omega)
            injection hv2 with e1 e2 e3
            injection e1 with e1
            injection e1 with e1
            subst e1
            clear e2 e3 hT2 z4
            rw [← (show f0 cl r = (cl[m]'(by omega)).fields ∧ g0 cl r = (cl[m]'(by omega)).virtuals from HFG).2] at hI2
            have y1 : wc.cell? ⟨wr.heap.size, 0, none⟩ = some (.int .i64 m) := hR.r.cell 0
            have y2 : wc.cell? ⟨Cb, 5, none⟩ = some (.slice none 0 0) := hR.c.cell 5
            have y3 : wc.cell? ⟨W1, 0, none⟩ = some (.slice (some ⟨gc, 0, none⟩) k capc) := hR.w1.cell 0
            have y4 : wc.frozen? ⟨Cb, 5, none⟩ = false := hR.c.free 5
            go_wp2_with (fail)
            have hI2d : Ints wc.drew w.heap.size vv2 (g0 cl r) := own_kp hI2 (T := 0) (kp_ch (Ch.refl _ _).drew) (by decide)
            have hnl : wc.drew.ownsRow wr.heap.size 3 1 (.slice none 0 0) 0 [] := own_nil _ _ _ _
            have hsz : wr.heap.size ≤ wc.drew.heap.size := by have := hR.hc; have := hR.c.lt; show wr.heap.size ≤ wc.heap.size; omega
            have hb1' : 0 + (g0 cl r).length ≤ maxLen := by unfold maxLen; omega
            have hb2' : (0 + (g0 cl r).length) * 8 ≤ 140737488355328 := by omega
            have hRd := hR.gr (Ch.refl _ wc).drew
            go_region_law (refine step_append_src rfl (.tmp 44) (.tmp 51) 41 rfl wr.heap.size 3 i2 (.int .i64 0) 1 8 Tryd.underlying41 hi2 ha2 hb2 hc2 rfl (by decide) (.slice none 0 0) 0 [] (by simp [Act.eval, Act.put]) hnl w.heap.size vv2 (g0 cl r).length (icells (g0 cl r)) (by simp [Act.eval, Act.put]) hI2d (one_icells _) hb1' hb2' hsz ?_; intro v5 w5 ho5 hg5; obtain ⟨A5, c5, rfl⟩ := own_len ho5; have hR5 := hRd.growV0 (vs' := g0 cl r) hg5 (by simpa using ho5); have y5 : w5.cell? ⟨Cb, 5, none⟩ = some (.slice none 0 0) := hR5.c.cell 5; have y6 : w5.frozen? ⟨Cb, 5, none⟩ = false := hR5.c.free 5)
            all_goals (go_wp2_with (fail); go_meet; exact ⟨_, _, by rw [show r.super = (m : Int) from HM]; exact hR5.setV _⟩)
        · have hg : f0 cl r = [] ∧ g0 cl r = [] := by unfold f0 g0; rw [if_neg h0, if_neg h0]; exact ⟨rfl, rfl⟩
          go_wp2_with (fail)
          go_meet
          exact ⟨_, _, by rw [hg.1, hg.2]; exact hR⟩
        -->
      case rest =>
        obtain ⟨vf, vv, hR⟩ := hcut
        clear hcb hwq
        obtain ⟨vF, hvF⟩ : ∃ v : Value, v = .slice Af lf cf := ⟨_, rfl⟩
        have y1 : wc.cell? ⟨Cb, 4, none⟩ = some vf := hR.c.cell 4
        have y2 : wc.cell? ⟨wr.heap.size, 2, none⟩ = some vF := by rw [hvF]; exact hR.r.cell 2
        have y4 : wc.frozen? ⟨Cb, 4, none⟩ = false := hR.c.free 4
        have hT1 := hTy.oq hR.oq
        rw [← hvF] at hT1
        clear hvF
        have hsz : wr.heap.size ≤ wc.heap.size := by have := hR.hc; have := hR.c.lt; omega
        have hb1' : (f0 cl r).length + r.fields.length ≤ maxLen := by unfold maxLen; omega
        have hb2' : ((f0 cl r).length + r.fields.length) * 4 ≤ 140737488355328 := by omega
        go_wp2_with (first | (at_builtin; refine wpList_append_src rfl _ _ 29 rfl wr.heap.size 33 i1 (.agg #[.int .u8 0, .int .u16 0]) 2 4 Tryd.underlying29 hi1 ha1 hb1 hc1 rfl (by decide) vf _ _ rfl hR.of w.heap.size vF _ _ rfl hT1 (one_tcells _) hb1' hb2' hsz ?_) | fail)
        intro v5 w5 ho5 hg5
        obtain ⟨A5, c5, rfl⟩ := own_len ho5
        have hR5 := hR.growF (fs' := f0 cl r ++ r.fields) hg5 (by rw [List.length_append, tcells_append]; exact ho5)
        have y5 : w5.cell? ⟨Cb, 4, none⟩ = some vf := hR5.c.cell 4
        have y6 : w5.frozen? ⟨Cb, 4, none⟩ = false := hR5.c.free 4
        clear y1 y2 y4 hT1 hb1' hb2'
        go_wp2_with (fail)
        have hX : (w5.setCell ⟨Cb, 4, none⟩ (.slice A5 ((f0 cl r).length + r.fields.length) c5)).heap.size = w5.heap.size := World.size_setCell _ _ _
        have hR6 := (hR5.setF (.slice A5 ((f0 cl r).length + r.fields.length) c5)).withX (i := k)
        rw [hX] at hR6
        clear y5 y6 ho5 hg5 hR5 hR hX hsz
        generalize w5.heap.size = X at *
        generalize (Value.slice A5 ((f0 cl r).length + r.fields.length) c5) = vf at *
        generalize (w5.setCell ⟨Cb, 4, none⟩ vf).alloc (.cells #[.int .i64 k, .slice none 0 0, .slice none 0 0] 67) = w6 at *
        have hzo := hR6.hz
        generalize wr = wo at *
        generalize gk = g17 at *
        go_loopg [8] r.virtuals.length (fun q i wl => ∃ j : Nat, j + q ≤ r.virtuals.length ∧ r.virtuals.length ≤ j + q ∧ i = .int .i64 j ∧ ∃ vv v2 xm, Rd true w wo Z W1 NB P wo.heap.size Cb X #[.int .i64 r.super, .int .u8 r.flags, .slice Af lf cf, .slice Av r.virtuals.length cv, .slice Ao r.others.length co] r.flags r.super k v1 v3 vf vv (.slice none 0 0) v2 vf vv (.slice none 0 0) v2 cl.length ex.length xc xe xm (f0 cl r ++ r.fields) ((r.virtuals.take j).foldl (vstep k) (g0 cl r, ms)).1 [] ((r.virtuals.take j).foldl (vstep k) (g0 cl r, ms)).2 wl)
        case atStart => exact ⟨0, by omega, by omega, rfl, _, _, _, by simpa using hR6⟩
        case round =>
          clear hR6
          obtain ⟨j, hj1, hj2, rfl, vv, v2, xm, hR⟩ := hrel
          have y3 : wr.cell? ⟨wo.heap.size, 3, none⟩ = some (.slice Av r.virtuals.length cv) := hR.r.cell 3
          by_cases hlt : 0 < gk
          · have hj : j < r.virtuals.length := by omega
            have hji : (j : Int) < r.virtuals.length := by omega
            obtain ⟨gv, capv, A0, c0, hv, z0, z1, z2, z3, z4, z5, hTn⟩ := nat_at hNv hR.oq j hj
            have hfs : (r.virtuals.take (j + 1)).foldl (vstep k) (g0 cl r, ms) = vstep k ((r.virtuals.take j).foldl (vstep k) (g0 cl r, ms)) r.virtuals[j] := by rw [List.take_succ_eq_append_getElem hj, List.foldl_append]; rfl
            obtain ⟨m1, m2⟩ := vfold_len k (r.virtuals.take j) (g0 cl r, ms)
            rw [List.length_take, Nat.min_eq_left (by omega)] at m1 m2
            dsimp only at m1 m2
            injection hv with e1 _ e3
            subst e1 e3
            generalize hs : (r.virtuals.take j).foldl (vstep k) (g0 cl r, ms) = s at hR hfs m1 m2
            generalize hn : r.virtuals[j] = n at z0 z1 z2 z3 z4 z5 hTn hfs
            obtain ⟨vs, mm⟩ := s
            dsimp only at hR m1 m2
            have y1 : wr.cell? ⟨Cb, 5, none⟩ = some vv := hR.c.cell 5
            have hq1 : vs.length + 1 ≤ maxLen := by unfold maxLen; omega
            have hq2 : (vs.length + 1) * 8 ≤ 140737488355328 := by omega
            have hq3 : mm.length + 1 ≤ maxLen := by unfold maxLen; omega
            have hq4 : (mm.length + 1) * 128 ≤ 140737488355328 := by omega
            clear m1 m2
            --<
            by_cases h0 : n.n = 0
            · rw [h0] at z1
              have hA := Blk.new wr #[.int .i64 (-1)] 3
              have hRa := hR.gr ((Ch.refl _ wr).alloc (.cells #[.int .i64 (-1)] 3))
              have hsz : wo.heap.size ≤ (wr.alloc (.cells #[.int .i64 (-1)] 3)).heap.size := by have := hR.r.lt; rw [size_alloc]; omega
              go_wp2_with (first | (at_builtin; refine wpList_append_lies _ rfl _ _ 41 rfl wo.heap.size 3 i2 (.int .i64 0) 1 8 Tryd.underlying41 hi2 ha2 hb2 hc2 rfl (by decide) vv _ _ rfl hRa.ov ⟨wr.heap.size, 0, none⟩ 1 1 [.int .i64 (-1)] rfl rfl (World.news_of_block hA.heap) (one_icells [-1]) (by decide) hq1 hq2 hsz _ rfl ?_) | fail)
              intro g5 cap5 w5 ho5 hg5 hat5 hlt5
              have hR5 := hRa.growV (vs' := vs ++ [-1]) hg5 (by rw [List.length_append, icells_append]; exact ho5) (at_of hat5 (by rw [size_alloc]; exact Nat.le_refl _))
              have y5 : w5.cell? ⟨Cb, 5, none⟩ = some vv := hR5.c.cell 5
              have y6 : w5.frozen? ⟨Cb, 5, none⟩ = false := hR5.c.free 5
              clear ho5 hg5 hat5 hRa hA
              go_wp2_with (fail)
              go_roundg (gk - 1)
              case measure => omega
              case rel => exact ⟨j + 1, by omega, by omega, by go_num, _, _, _, by rw [hfs]; unfold vstep; rw [if_pos h0]; exact hR5.setV _⟩
            · obtain ⟨A2, c2, rfl⟩ := own_len hR.om
              have y7 : wr.cell? ⟨W1, 1, none⟩ = some (.slice A2 mm.length c2) := hR.w1.cell 1
              have hA := Blk.new wr #[.int .i64 (mm.length : Int)] 3
              have hRa := hR.gr ((Ch.refl _ wr).alloc (.cells #[.int .i64 (mm.length : Int)] 3))
              have hsz : wo.heap.size ≤ (wr.alloc (.cells #[.int .i64 (mm.length : Int)] 3)).heap.size := by have := hR.r.lt; rw [size_alloc]; omega
              go_wp2_with (first | (at_builtin; refine wpList_append_lies _ rfl _ _ 41 rfl wo.heap.size 3 i2 (.int .i64 0) 1 8 Tryd.underlying41 hi2 ha2 hb2 hc2 rfl (by decide) vv _ _ rfl hRa.ov ⟨wr.heap.size, 0, none⟩ 1 1 [.int .i64 (mm.length : Int)] rfl rfl (World.news_of_block hA.heap) (one_icells [(mm.length : Int)]) (by decide) hq1 hq2 hsz _ rfl ?_) | fail)
              intro g5 cap5 w5 ho5 hg5 hat5 hlt5
              have hR5 := hRa.growV (vs' := vs ++ [(mm.length : Int)]) hg5 (by rw [List.length_append, icells_append]; exact ho5) (at_of hat5 (by rw [size_alloc]; exact Nat.le_refl _))
              have y5 : w5.cell? ⟨Cb, 5, none⟩ = some vv := hR5.c.cell 5
              have y6 : w5.frozen? ⟨Cb, 5, none⟩ = false := hR5.c.free 5
              clear ho5 hg5 hat5 hRa hA hR y1 y3 y7 z0 z1 z2 z3 z4 z5 hTn hsz
              have hR6 := hR5.setV (.slice (some ⟨g5, 0, none⟩) (vs.length + 1) cap5)
              obtain ⟨gv2, capv2, A0, c0, hv, z0, z1, z2, z3, z4, z5, hTn⟩ := nat_at hNv hR6.oq j hj
              injection hv with e1 e2 e3
              injection e1 with e1
              injection e1 with e1
              subst e1
              clear e2 e3
              rw [hn] at z0 z1 z2 z3 z4 z5 hTn
              have y1 : (w5.setCell ⟨Cb, 5, none⟩ (.slice (some ⟨g5, 0, none⟩) (vs.length + 1) cap5)).cell? ⟨W1, 1, none⟩ = some (.slice A2 mm.length c2) := hR6.w1.cell 1
              have y3 : (w5.setCell ⟨Cb, 5, none⟩ (.slice (some ⟨g5, 0, none⟩) (vs.length + 1) cap5)).cell? ⟨wo.heap.size, 3, none⟩ = some (.slice (some ⟨gv, 0, none⟩) r.virtuals.length cv) := hR6.r.cell 3
              go_wp2_with (fail)
              generalize w5.setCell ⟨Cb, 5, none⟩ (.slice (some ⟨g5, 0, none⟩) (vs.length + 1) cap5) = w6 at *
              clear hR5 y5 y6 hlt5
              have hRd := hR6.gr (Ch.refl _ w6).drew
              go_region_law (first | (refine step_append_lies _ rfl (.tmp 90) (.tmp 98) 23 rfl w.heap.size 39 i3 (.agg #[.int .i64 0, .int .u8 0, .int .i64 0, .slice none 0 0, .int .u8 0, .int .u16 0, .int .i64 0, .int .i64 0, .slice none 0 0, .slice none 0 0, .int .i64 0]) 11 128 Tryd.underlying23 hi3 ha3 hb3 hc3 rfl (by decide) (.slice A2 mm.length c2) _ _ (by simp [Act.eval, Act.put]) hRb.om ⟨w7.heap.size, 0, none⟩ 1 1 [.int .i64 0, .int .u8 n.f, .int .i64 k, .slice A0 n.ts.length c0, .int .u8 n.k, .int .u16 n.c, .int .i64 0, .int .i64 0, .slice none 0 0, .slice none 0 0, .int .i64 n.n] (by simp [Act.eval, Act.put]) rfl (World.news_of_block hB.heap) (one_met _ _ _ _ _ _ _ _) (by decide) hq3 hq4 hsb _ rfl ?_; intro g8 cap8 w8 ho8 hg8 hat8 hlt8; have hR8 := hRb.growM hg8 ho8 hM; have p1 : w8.cell? ⟨W1, 1, none⟩ = some (.slice A2 mm.length c2) := hR8.w1.cell 1; have p2 : w8.frozen? ⟨W1, 1, none⟩ = false := hR8.w1.free 1) |
                (go_simp; go_at_call 23; refine (linked_u _ _ _ _ _ _ _ _ _ _).mono ?_; rintro e w7 ⟨rfl, c7⟩; have hRc := hRd.gr c7; have p3 : w7.cell? ⟨W1, 1, none⟩ = some (.slice A2 mm.length c2) := hRc.w1.cell 1; have hB := Blk.new w7 #[.int .i64 0, .int .u8 n.f, .int .i64 k, .slice A0 n.ts.length c0, .int .u8 n.k, .int .u16 n.c, .int .i64 0, .int .i64 0, .slice none 0 0, .slice none 0 0, .int .i64 n.n] 39; have hRb := hRc.gr ((Ch.refl _ w7).alloc (.cells #[.int .i64 0, .int .u8 n.f, .int .i64 k, .slice A0 n.ts.length c0, .int .u8 n.k, .int .u16 n.c, .int .i64 0, .int .i64 0, .slice none 0 0, .slice none 0 0, .int .i64 n.n] 39)); have hM : MetRep wo w.heap.size (lm k n) [.int .i64 0, .int .u8 n.f, .int .i64 k, .slice A0 n.ts.length c0, .int .u8 n.k, .int .u16 n.c, .int .i64 0, .int .i64 0, .slice none 0 0, .slice none 0 0, .int .i64 n.n] := ⟨_, rfl, hTn⟩; have hsb : w.heap.size ≤ (w7.alloc (.cells #[.int .i64 0, .int .u8 n.f, .int .i64 k, .slice A0 n.ts.length c0, .int .u8 n.k, .int .u16 n.c, .int .i64 0, .int .i64 0, .slice none 0 0, .slice none 0 0, .int .i64 n.n] 39)).heap.size := hRb.ch.size; have p4 : (w7.alloc (.cells #[.int .i64 0, .int .u8 n.f, .int .i64 k, .slice A0 n.ts.length c0, .int .u8 n.k, .int .u16 n.c, .int .i64 0, .int .i64 0, .slice none 0 0, .slice none 0 0, .int .i64 n.n] 39)).cell? ⟨W1, 1, none⟩ = some (.slice A2 mm.length c2) := hRb.w1.cell 1))
              all_goals (go_wp2_with (fail); go_roundg (gk - 1))
              all_goals (first | omega | exact ⟨j + 1, by omega, by omega, by go_num, _, _, _, by rw [hfs]; unfold vstep; rw [if_neg h0]; exact hR8.setM _⟩)
            -->
          · have hj : (j : Int) = r.virtuals.length := by omega
            have hjv : r.virtuals.take j = r.virtuals := List.take_of_length_le (by omega)
            rw [hjv] at hR
            obtain ⟨m1, m2⟩ := vfold_len k r.virtuals (g0 cl r, ms)
            dsimp only at m1 m2
            generalize hs1 : r.virtuals.foldl (vstep k) (g0 cl r, ms) = s1 at hR m1 m2
            obtain ⟨vs, ms1⟩ := s1
            dsimp only at hR m1 m2
            have HS1 := Lib.hid hs1
            clear hs1 hjv
            go_wp2_with (fail)
            generalize gk = g2 at *
            clear y3 hj hj1 hj2 hlt
            generalize wr = wv at *
            go_loopg [9] r.others.length (fun q i wl => ∃ j : Nat, j + q ≤ r.others.length ∧ r.others.length ≤ j + q ∧ i = .int .i64 j ∧ ∃ vx cx v2 xm, cx = vx ∧ Rd true w wo Z W1 NB P wo.heap.size Cb X #[.int .i64 r.super, .int .u8 r.flags, .slice Af lf cf, .slice Av r.virtuals.length cv, .slice Ao r.others.length co] r.flags r.super k v1 v3 vf vv cx v2 vf vv vx v2 cl.length ex.length xc xe xm (f0 cl r ++ r.fields) vs ((r.others.take j).foldl (ostep k) ([], ms1)).1 ((r.others.take j).foldl (ostep k) ([], ms1)).2 wl)
            case atStart => exact ⟨0, by omega, by omega, rfl, _, _, _, _, rfl, by simpa using hR⟩
            case round =>
              clear hR
              obtain ⟨j, hj1, hj2, rfl, _, vx, v2, xm, rfl, hR⟩ := hrel
              have y3 : wr.cell? ⟨wo.heap.size, 4, none⟩ = some (.slice Ao r.others.length co) := hR.r.cell 4
              by_cases hlt : 0 < gk
              · have hj : j < r.others.length := by omega
                have hji : (j : Int) < r.others.length := by omega
                have hfs : (r.others.take (j + 1)).foldl (ostep k) ([], ms1) = ostep k ((r.others.take j).foldl (ostep k) ([], ms1)) r.others[j] := by rw [List.take_succ_eq_append_getElem hj, List.foldl_append]; rfl
                obtain ⟨o1, o2⟩ := ofold_len k (r.others.take j) ([], ms1)
                rw [List.length_take, Nat.min_eq_left (by omega)] at o1 o2
                dsimp only at o1 o2
                generalize hs : (r.others.take j).foldl (ostep k) ([], ms1) = s at hR hfs o1 o2
                generalize hn : r.others[j] = n at hfs
                obtain ⟨xs, mm⟩ := s
                dsimp only at hR o1 o2
                have y1 : wr.cell? ⟨X, 2, none⟩ = some vx := (hR.x rfl).cell 2
                have hq1 : xs.length + 1 ≤ maxLen := by unfold maxLen; simp at o1; omega
                have hq2 : (xs.length + 1) * 8 ≤ 140737488355328 := by simp at o1; omega
                have hq3 : mm.length + 1 ≤ maxLen := by unfold maxLen; omega
                have hq4 : (mm.length + 1) * 128 ≤ 140737488355328 := by omega
                clear o1 o2 m1 m2
                --<
                obtain ⟨A2, c2, rfl⟩ := own_len hR.om
                have y7 : wr.cell? ⟨W1, 1, none⟩ = some (.slice A2 mm.length c2) := hR.w1.cell 1
                have hA := Blk.new wr #[.int .i64 (mm.length : Int)] 3
                have hRa := hR.gr ((Ch.refl _ wr).alloc (.cells #[.int .i64 (mm.length : Int)] 3))
                have hsz : wo.heap.size ≤ (wr.alloc (.cells #[.int .i64 (mm.length : Int)] 3)).heap.size := by have := hR.r.lt; rw [size_alloc]; omega
                go_wp2_with (first | (at_builtin; refine wpList_append_lies _ rfl _ _ 41 rfl wo.heap.size 3 i2 (.int .i64 0) 1 8 Tryd.underlying41 hi2 ha2 hb2 hc2 rfl (by decide) vx _ _ rfl hRa.ox ⟨wr.heap.size, 0, none⟩ 1 1 [.int .i64 (mm.length : Int)] rfl rfl (World.news_of_block hA.heap) (one_icells [(mm.length : Int)]) (by decide) hq1 hq2 hsz _ rfl ?_) | fail)
                intro g5 cap5 w5 ho5 hg5 hat5 hlt5
                have hR5 := hRa.growX (xs' := xs ++ [(mm.length : Int)]) hg5 (by rw [List.length_append, icells_append]; exact ho5) (at_of hat5 (by rw [size_alloc]; exact Nat.le_refl _))
                have y5 : w5.cell? ⟨X, 2, none⟩ = some vx := (hR5.x rfl).cell 2
                have y6 : w5.frozen? ⟨X, 2, none⟩ = false := (hR5.x rfl).free 2
                clear ho5 hg5 hat5 hRa hA hR y1 y3 y7 hsz
                have hR6 := hR5.setX rfl (.slice (some ⟨g5, 0, none⟩) (xs.length + 1) cap5)
                obtain ⟨gv2, capv2, A0, c0, hv, z0, z1, z2, z3, z4, z5, hTn⟩ := nat_at hNo hR6.oq j hj
                injection hv with e1 e2 e3
                subst e1 e3
                rw [hn] at z0 z1 z2 z3 z4 z5 hTn
                have y1 : (w5.setCell ⟨X, 2, none⟩ (.slice (some ⟨g5, 0, none⟩) (xs.length + 1) cap5)).cell? ⟨W1, 1, none⟩ = some (.slice A2 mm.length c2) := hR6.w1.cell 1
                have y3 : (w5.setCell ⟨X, 2, none⟩ (.slice (some ⟨g5, 0, none⟩) (xs.length + 1) cap5)).cell? ⟨wo.heap.size, 4, none⟩ = some (.slice (some ⟨gv2, 0, none⟩) r.others.length co) := hR6.r.cell 4
                go_wp2_with (fail)
                generalize w5.setCell ⟨X, 2, none⟩ (.slice (some ⟨g5, 0, none⟩) (xs.length + 1) cap5) = w6 at *
                clear hR5 y5 y6 hlt5
                have hRd := hR6.gr (Ch.refl _ w6).drew
                go_region_law (first | (refine step_append_lies _ rfl (.tmp 117) (.tmp 125) 23 rfl w.heap.size 39 i3 (.agg #[.int .i64 0, .int .u8 0, .int .i64 0, .slice none 0 0, .int .u8 0, .int .u16 0, .int .i64 0, .int .i64 0, .slice none 0 0, .slice none 0 0, .int .i64 0]) 11 128 Tryd.underlying23 hi3 ha3 hb3 hc3 rfl (by decide) (.slice A2 mm.length c2) _ _ (by simp [Act.eval, Act.put]) hRb.om ⟨w7.heap.size, 0, none⟩ 1 1 [.int .i64 0, .int .u8 n.f, .int .i64 k, .slice A0 n.ts.length c0, .int .u8 n.k, .int .u16 n.c, .int .i64 0, .int .i64 0, .slice none 0 0, .slice none 0 0, .int .i64 n.n] (by simp [Act.eval, Act.put]) rfl (World.news_of_block hB.heap) (one_met _ _ _ _ _ _ _ _) (by decide) hq3 hq4 hsb _ rfl ?_; intro g8 cap8 w8 ho8 hg8 hat8 hlt8; have hR8 := hRb.growM hg8 ho8 hM; have p1 : w8.cell? ⟨W1, 1, none⟩ = some (.slice A2 mm.length c2) := hR8.w1.cell 1; have p2 : w8.frozen? ⟨W1, 1, none⟩ = false := hR8.w1.free 1) |
                  (go_simp; go_at_call 23; refine (linked_u _ _ _ _ _ _ _ _ _ _).mono ?_; rintro e w7 ⟨rfl, c7⟩; have hRc := hRd.gr c7; have p3 : w7.cell? ⟨W1, 1, none⟩ = some (.slice A2 mm.length c2) := hRc.w1.cell 1; have hB := Blk.new w7 #[.int .i64 0, .int .u8 n.f, .int .i64 k, .slice A0 n.ts.length c0, .int .u8 n.k, .int .u16 n.c, .int .i64 0, .int .i64 0, .slice none 0 0, .slice none 0 0, .int .i64 n.n] 39; have hRb := hRc.gr ((Ch.refl _ w7).alloc (.cells #[.int .i64 0, .int .u8 n.f, .int .i64 k, .slice A0 n.ts.length c0, .int .u8 n.k, .int .u16 n.c, .int .i64 0, .int .i64 0, .slice none 0 0, .slice none 0 0, .int .i64 n.n] 39)); have hM : MetRep wo w.heap.size (lm k n) [.int .i64 0, .int .u8 n.f, .int .i64 k, .slice A0 n.ts.length c0, .int .u8 n.k, .int .u16 n.c, .int .i64 0, .int .i64 0, .slice none 0 0, .slice none 0 0, .int .i64 n.n] := ⟨_, rfl, hTn⟩; have hsb : w.heap.size ≤ (w7.alloc (.cells #[.int .i64 0, .int .u8 n.f, .int .i64 k, .slice A0 n.ts.length c0, .int .u8 n.k, .int .u16 n.c, .int .i64 0, .int .i64 0, .slice none 0 0, .slice none 0 0, .int .i64 n.n] 39)).heap.size := hRb.ch.size; have p4 : (w7.alloc (.cells #[.int .i64 0, .int .u8 n.f, .int .i64 k, .slice A0 n.ts.length c0, .int .u8 n.k, .int .u16 n.c, .int .i64 0, .int .i64 0, .slice none 0 0, .slice none 0 0, .int .i64 n.n] 39)).cell? ⟨W1, 1, none⟩ = some (.slice A2 mm.length c2) := hRb.w1.cell 1))
                all_goals (go_wp2_with (fail); go_roundg (gk - 1))
                all_goals (first | omega | exact ⟨j + 1, by omega, by omega, by go_num, _, _, _, _, rfl, by rw [hfs]; unfold ostep; exact hR8.setM _⟩)
                -->
              · have hj : (j : Int) = r.others.length := by omega
                have hjv : r.others.take j = r.others := List.take_of_length_le (by omega)
                rw [hjv] at hR
                generalize hs2 : r.others.foldl (ostep k) ([], ms1) = s2 at hR
                obtain ⟨xs, mm⟩ := s2
                dsimp only at hR
                have HS2 := Lib.hid hs2
                clear hs2 hjv
                obtain ⟨A5, c5, rfl⟩ := own_len hR.of
                obtain ⟨A6, c6, rfl⟩ := own_len hR.ov
                obtain ⟨A7, c7, rfl⟩ := own_len hR.ox
                have q0 : wr.cell? ⟨Cb, 0, none⟩ = some (.int .i64 0) := hR.c.cell 0
                have q1 : wr.cell? ⟨Cb, 1, none⟩ = some (.int .u8 r.flags) := hR.c.cell 1
                have q2 : wr.cell? ⟨Cb, 2, none⟩ = some (.int .i64 r.super) := hR.c.cell 2
                have q3 : wr.cell? ⟨Cb, 3, none⟩ = some (.slice none 0 0) := hR.c.cell 3
                have q4 : wr.cell? ⟨Cb, 4, none⟩ = some (.slice A5 (f0 cl r ++ r.fields).length c5) := hR.c.cell 4
                have q5 : wr.cell? ⟨Cb, 5, none⟩ = some (.slice A6 vs.length c6) := hR.c.cell 5
                have q6 : wr.cell? ⟨Cb, 6, none⟩ = some (.slice none 0 0) := hR.c.cell 6
                have y1 : wr.cell? ⟨W1, 0, none⟩ = some v1 := hR.w1.cell 0
                have hA := Blk.new wr #[.int .i64 0, .int .u8 r.flags, .int .i64 r.super, .slice none 0 0, .slice A5 (f0 cl r ++ r.fields).length c5, .slice A6 vs.length c6, .slice none 0 0] 44
                have hRa := hR.gr ((Ch.refl _ wr).alloc (.cells #[.int .i64 0, .int .u8 r.flags, .int .i64 r.super, .slice none 0 0, .slice A5 (f0 cl r ++ r.fields).length c5, .slice A6 vs.length c6, .slice none 0 0] 44))
                have hsz := hRa.ch.size
                have hq1 : cl.length + 1 ≤ maxLen := by unfold maxLen; omega
                have hq2 : (cl.length + 1) * 120 ≤ 140737488355328 := by omega
                generalize hF0 : f0 cl r ++ r.fields = F at *
                have HF0 := Lib.hid hF0
                clear hF0
                have HCL := Lib.hid hcl
                clear hcl n1 n2 n3 m1 m2
                go_wp2_with (first | (at_builtin; go_loud (refine wpList_append_lies _ rfl _ _ 22 rfl w.heap.size 44 i4 (.agg #[.int .i64 0, .int .u8 0, .int .i64 0, .slice none 0 0, .slice none 0 0, .slice none 0 0, .slice none 0 0]) 7 120 Tryd.underlying22 hi4 ha4 hb4 hc4 rfl (by decide) v1 _ _ rfl hRa.oc ⟨wr.heap.size, 0, none⟩ 1 1 [.int .i64 0, .int .u8 r.flags, .int .i64 r.super, .slice none 0 0, .slice A5 F.length c5, .slice A6 vs.length c6, .slice none 0 0] rfl rfl (World.news_of_block hA.heap) (one_cls _ _ _ _ _ _ _ _) (by decide) hq1 hq2 hsz _ rfl ?_)) | fail)
                intro g5 cap5 w5 ho5 hg5 hat5 hlt5
                have p1 : w5.cell? ⟨W1, 0, none⟩ = some v1 := (hRa.w1.kp (kp_row hRa.oc hg5) (by decide)).cell 0
                have p2 : w5.frozen? ⟨W1, 0, none⟩ = false := (hRa.w1.kp (kp_row hRa.oc hg5) (by decide)).free 0
                have hM := hRa.cls rcl hg5 ho5
                clear q0 q1 q2 q3 q4 q5 q6 y1 y3 hA hRa hR ho5 hg5 hat5 hlt5 hsz hq1 hq2
                obtain ⟨cl2, hc2⟩ : ∃ cl2, cl2 = cl ++ [⟨r.flags, r.super, F, vs⟩] := ⟨_, rfl⟩
                rw [← hc2] at hM
                have HC2 := Lib.hid hc2
                clear hc2
                have q0 : (w5.setCell ⟨W1, 0, none⟩ (.slice (some ⟨g5, 0, none⟩) (cl.length + 1) cap5)).cell? ⟨X, 0, none⟩ = some (.int .i64 k) := hM.x.cell 0
                have q1 : (w5.setCell ⟨W1, 0, none⟩ (.slice (some ⟨g5, 0, none⟩) (cl.length + 1) cap5)).cell? ⟨X, 1, none⟩ = some (.slice none 0 0) := hM.x.cell 1
                have q2 : (w5.setCell ⟨W1, 0, none⟩ (.slice (some ⟨g5, 0, none⟩) (cl.length + 1) cap5)).cell? ⟨X, 2, none⟩ = some (.slice A7 xs.length c7) := hM.x.cell 2
                have y1 : (w5.setCell ⟨W1, 0, none⟩ (.slice (some ⟨g5, 0, none⟩) (cl.length + 1) cap5)).cell? ⟨P, 4, none⟩ = some v3 := hM.p.cell 4
                have hA := Blk.new (w5.setCell ⟨W1, 0, none⟩ (.slice (some ⟨g5, 0, none⟩) (cl.length + 1) cap5)) #[.int .i64 k, .slice none 0 0, .slice A7 xs.length c7] 67
                rw [World.size_setCell] at hA
                have hMa := hM.gr ((Ch.refl _ (w5.setCell ⟨W1, 0, none⟩ (.slice (some ⟨g5, 0, none⟩) (cl.length + 1) cap5))).alloc (.cells #[.int .i64 k, .slice none 0 0, .slice A7 xs.length c7] 67))
                have hsz := hMa.ch.size
                have hex := wst_lene k
                rw [HWK.out] at hex
                dsimp only at hex
                have hq1 : ex.length + 1 ≤ maxLen := by unfold maxLen; omega
                have hq2 : (ex.length + 1) * 56 ≤ 140737488355328 := by omega
                clear hex
                go_wp2_with (first | (at_builtin; go_loud (refine wpList_append_lies _ rfl _ _ 53 rfl w.heap.size 67 i5 (.agg #[.int .i64 0, .slice none 0 0, .slice none 0 0]) 3 56 Tryd.underlying53 hi5 ha5 hb5 hc5 rfl (by decide) v3 _ _ rfl hMa.oe ⟨w5.heap.size, 0, none⟩ 1 1 [.int .i64 k, .slice none 0 0, .slice A7 xs.length c7] rfl rfl (World.news_of_block hA.heap) (one_exp _ _ _ _) (by decide) hq1 hq2 hsz _ rfl ?_)) | fail)
                intro g8 cap8 w8 ho8 hg8 hat8 hlt8
                have p3 : w8.cell? ⟨P, 4, none⟩ = some v3 := (hMa.p.kp (kp_row hMa.oe hg8) (by decide)).cell 4
                have p4 : w8.frozen? ⟨P, 4, none⟩ = false := (hMa.p.kp (kp_row hMa.oe hg8) (by decide)).free 4
                have hFin := hMa.fin re (Nat.le_of_eq HZ.out.symm) hg8 ho8
                clear q0 q1 q2 y1 p1 p2 hA hMa hM ho8 hg8 hat8 hlt8 hsz hq1 hq2
                have hwk : wst (k + 1) = (cl2, mm, ex ++ [⟨k, xs⟩]) := by
                  rw [HW.out]
                  unfold wstep
                  dsimp only
                  rw [HS1.out]
                  dsimp only
                  rw [HS2.out, HF0.out, HC2.out]
                go_wp2_with (fail)
                generalize w8.setCell ⟨P, 4, none⟩ (.slice (some ⟨g8, 0, none⟩) (ex.length + 1) cap8) = w9 at *
                clear p3 p4
                go_roundg (g17 - 1)
                case measure => omega
                case rel => exact ⟨k + 1, by omega, by omega, by go_num, _, _, _, by rw [hwk]; exact hFin.1, hOq.out.oq hFin.2⟩
    · have hk : k = 17 := by omega
      subst hk
      clear hlt hk1 hk2 hTy hNv hNo x0 x1 x2 x3 x4 hO
      generalize hs : wst 17 = s at hd
      obtain ⟨cl, ms, ex⟩ := s
      dsimp only at hd
      obtain ⟨A1, c1, hv1⟩ := own_len hd.oc.choose_spec.1
      obtain ⟨A2, c2, hv2⟩ := own_len hd.om.choose_spec.1
      obtain ⟨A3, c3, hv3⟩ := own_len hd.oe.choose_spec.1
      subst hv1 hv2 hv3
      have q0 : wr.cell? ⟨P, 0, none⟩ = some (.slice (some ⟨NB, 0, none⟩) 7 7) := hd.p.cell 0
      have q1 : wr.cell? ⟨P, 1, none⟩ = some (.int .u8 1) := hd.p.cell 1
      have q2 : wr.cell? ⟨P, 2, none⟩ = some (.int .u8 0) := hd.p.cell 2
      have q3 : wr.cell? ⟨P, 3, none⟩ = some (.bool false) := hd.p.cell 3
      have q4 : wr.cell? ⟨P, 4, none⟩ = some (.slice A3 ex.length c3) := hd.p.cell 4
      have q5 : wr.cell? ⟨P, 5, none⟩ = some (.slice none 0 0) := hd.p.cell 5
      have y1 : wr.cell? ⟨W1, 3, none⟩ = some (.slice none 0 0) := hd.w1.cell 3
      have hA := Blk.new wr #[.slice (some ⟨NB, 0, none⟩) 7 7, .int .u8 1, .int .u8 0, .bool false, .slice A3 ex.length c3, .slice none 0 0] 56
      have hda := hd.gr ((Ch.refl _ wr).alloc (.cells #[.slice (some ⟨NB, 0, none⟩) 7 7, .int .u8 1, .int .u8 0, .bool false, .slice A3 ex.length c3, .slice none 0 0] 56))
      have hnl : (wr.alloc (.cells #[.slice (some ⟨NB, 0, none⟩) 7 7, .int .u8 1, .int .u8 0, .bool false, .slice A3 ex.length c3, .slice none 0 0] 56)).ownsRow w.heap.size 56 6 (.slice none 0 0) 0 [] := own_nil _ _ _ _
      have hsz := hda.ch.size
      have hl63 : 0 + 1 ≤ maxLen := by unfold maxLen; omega
      go_wp2_with (first | (at_builtin; go_loud (refine wpList_append_lies _ rfl _ _ 25 rfl w.heap.size 56 i6 (.agg #[.slice none 0 0, .int .u8 0, .int .u8 0, .bool false, .slice none 0 0, .slice none 0 0]) 6 80 Tryd.underlying25 hi6 ha6 hb6 hc6 rfl (by decide) (.slice none 0 0) 0 [] rfl hnl ⟨wr.heap.size, 0, none⟩ 1 1 [.slice (some ⟨NB, 0, none⟩) 7 7, .int .u8 1, .int .u8 0, .bool false, .slice A3 ex.length c3, .slice none 0 0] rfl rfl (World.news_of_block hA.heap) (one_pkg _ _ _ _) (by decide) hl63 (by decide) hsz _ rfl ?_)) | fail)
      intro g8 cap8 w8 ho8 hg8 hat8 hlt8
      have k8 := kp_row hnl hg8
      have kz : Blk w8 Z _ 27 := hda.z.kp k8 (by decide)
      have kw : Blk w8 W1 _ 27 := hda.w1.kp k8 (by decide)
      have hq8 : Oq (wr.alloc (.cells #[.slice (some ⟨NB, 0, none⟩) 7 7, .int .u8 1, .int .u8 0, .bool false, .slice A3 ex.length c3, .slice none 0 0] 56)) w8 := (Oq.refl _).kp k8 (by decide) (by decide) (by decide) (by decide)
      have hc8 := grow_base (Nat.le_refl _) hda.ch hnl hg8
      have hzw := hda.zw
      rw [HZ.out] at kz hzw
      have hwz : W1 ≠ w.heap.size := Ne.symm hzw
      have p0 : w8.cell? ⟨W1, 0, none⟩ = some (.slice A1 cl.length c1) := kw.cell 0
      have p1 : w8.cell? ⟨W1, 1, none⟩ = some (.slice A2 ms.length c2) := kw.cell 1
      have p2 : w8.cell? ⟨W1, 2, none⟩ = some (.slice none 0 0) := kw.cell 2
      have p3 : w8.cell? ⟨W1, 3, none⟩ = some (.slice none 0 0) := kw.cell 3
      have p4 : w8.frozen? ⟨W1, 3, none⟩ = false := kw.free 3
      have z0 : w8.cell? ⟨w.heap.size, 0, none⟩ = some (.slice none 0 0) := kz.cell 0
      have z1 : w8.cell? ⟨w.heap.size, 1, none⟩ = some (.slice none 0 0) := kz.cell 1
      have z2 : w8.cell? ⟨w.heap.size, 2, none⟩ = some (.slice none 0 0) := kz.cell 2
      have z3 : w8.cell? ⟨w.heap.size, 3, none⟩ = some (.slice none 0 0) := kz.cell 3
      have z4 : w8.frozen? ⟨w.heap.size, 0, none⟩ = false := kz.free 0
      have z5 : w8.frozen? ⟨w.heap.size, 1, none⟩ = false := kz.free 1
      have z6 : w8.frozen? ⟨w.heap.size, 2, none⟩ = false := kz.free 2
      have z7 : w8.frozen? ⟨w.heap.size, 3, none⟩ = false := kz.free 3
      go_wp2_with (fail)
      obtain ⟨wz, hwz'⟩ : ∃ wz, wz = w8.setCell ⟨W1, 3, none⟩ (.slice (some ⟨g8, 0, none⟩) 1 cap8) := ⟨_, rfl⟩
      have kp1 : Kp 27 w8 wz := hwz' ▸ set_kp kw 3 _
      have zw1 : Blk wz w.heap.size _ 27 := hwz' ▸ blk_other kz (p := ⟨W1, 3, none⟩) hzw _
      have c1_ : Ch (fun _ => False) w wz := hwz' ▸ set_base hda.hw hc8 _
      rw [← hwz']
      clear p0 p1 p2 p3 p4 z0 z1 z2 z3 z4 z5 z6 z7 hwz'
      have zw2 := zw1.set 0 (.slice A1 cl.length c1)
      have zw3 := zw2.set 1 (.slice A2 ms.length c2)
      have zw4 := zw3.set 2 (.slice none 0 0)
      have zw5 := zw4.set 3 (.slice (some ⟨g8, 0, none⟩) 1 cap8)
      have kp2 : Kp 27 w8 _ := fun k cs t h ht => set_kp zw4 3 (.slice (some ⟨g8, 0, none⟩) 1 cap8) _ _ _ (set_kp zw3 2 (.slice none 0 0) _ _ _ (set_kp zw2 1 (.slice A2 ms.length c2) _ _ _ (set_kp zw1 0 (.slice A1 cl.length c1) _ _ _ (kp1 _ _ _ h ht) ht) ht) ht) ht
      have c5_ := set_base (Nat.le_refl _) (set_base (Nat.le_refl _) (set_base (Nat.le_refl _) (set_base (Nat.le_refl _) c1_ (j := 0) (.slice A1 cl.length c1)) (j := 1) (.slice A2 ms.length c2)) (j := 2) (.slice none 0 0)) (j := 3) (.slice (some ⟨g8, 0, none⟩) 1 cap8)
      have e0 := zw5.cell 0
      have e1 := zw5.cell 1
      have e2 := zw5.cell 2
      have e3 := zw5.cell 3
      generalize ((((wz.setCell ⟨w.heap.size, 0, none⟩ (.slice A1 cl.length c1)).setCell ⟨w.heap.size, 1, none⟩ (.slice A2 ms.length c2)).setCell ⟨w.heap.size, 2, none⟩ (.slice none 0 0)).setCell ⟨w.heap.size, 3, none⟩ (.slice (some ⟨g8, 0, none⟩) 1 cap8)) = wf at *
      simp at e0 e1 e2 e3
      have hqf : Oq w8 wf := (Oq.refl w8).kp kp2 (by decide) (by decide) (by decide) (by decide)
      obtain ⟨xc, oc, rc⟩ := hda.oc
      obtain ⟨xm, om, rm⟩ := hda.om
      obtain ⟨xe, oe, re⟩ := hda.oe
      refine bodyPost_ret (v := .agg #[.slice A1 cl.length c1, .slice A2 ms.length c2, .slice none 0 0, .slice (some ⟨g8, 0, none⟩) 1 cap8]) (by simp [results, Tryd.results9, go_sem, e0, e1, e2, e3]) rfl ?_
      refine ⟨_, rfl, ?_, c5_⟩
      rw [hs]
      exact ⟨_, _, .slice A3 ex.length c3, _, NB, rfl, ⟨xc, own_kp (own_kp oc k8 (by decide)) kp2 (by decide), rc.imp_ (fun _ _ r => (r.oq hq8).oq hqf)⟩, ⟨xm, own_kp (own_kp om k8 (by decide)) kp2 (by decide), rm.imp_ (fun _ _ r => (r.oq hq8).oq hqf)⟩,
        ⟨xe, own_kp (own_kp oe k8 (by decide)) kp2 (by decide), re.imp_ (fun _ _ r => (r.oq hq8).oq hqf)⟩, HNB.out, (hda.nb.kp k8 (by decide)).kp kp2 (by decide), own_kp ho8 kp2 (by decide)⟩
end Go.Proofs.YtjknnifcbcdjiaaDoor.Tab
