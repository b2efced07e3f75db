/- garderoberef12.Native: the name of a native, as lib.Native tells it. -/
import Derived.Test.YtjknnifcbcdjiaaDoorLibV
import Derived.Test.YtjknnifcbcdjiaaDoorTabWalk
set_option linter.unusedVariables false
set_option linter.unusedSimpArgs false
namespace Go.Proofs.YtjknnifcbcdjiaaDoor.Tab
open Go.RowKit Go.Proofs.YtjknnifcbcdjiaaDoor.Base Go.Proofs.YtjknnifcbcdjiaaDoorW.PrintWords Go.Proofs.YtjknnifcbcdjiaaDoorW.PrintLast
theorem _root_.Go.Proofs.YtjknnifcbcdjiaaDoor.Base.Ch.keep {w w' : World} {p : Addr} {v : Value} (c : Ch (fun _ => False) w w') (h : w.cell? p = some v) : w'.cell? p = some v := (c.cell (World.block_lt_of_cell? w _ h) (fun h => h)).trans h
def theTable : List RowM := rows3 ++ List.replicate 9 rowE ++ [row8] ++ [row9] ++ [row10] ++ [row11] ++ [row12] ++ [row13]
def natV (n : Int) : List NatM → Option ByteArray
  | [] => none
  | x :: l => if 0 < n ∧ x.n = n then some x.s else natV n l
def natO (n : Int) : List NatM → Option ByteArray
  | [] => none
  | x :: l => if x.n = n then some x.s else natO n l
def orE (a b : Option ByteArray) : Option ByteArray := match a with | some s => some s | none => b
def natR (n : Int) : List RowM → Option ByteArray
  | [] => none
  | r :: l => orE (natV n r.virtuals) (orE (natO n r.others) (natR n l))
/-- A native of a row, where its name and number stand. -/
theorem nt_at {w : World} {base : Nat} {v : Value} {ns : List NatM} (h : Nt w base v ns) (i : Nat) (hi : i < ns.length) :
    ∃ g cap, v = .slice (some ⟨g, 0, none⟩) ns.length cap ∧ w.cell? ⟨g, i * 6, none⟩ = some (.string (ns[i]).s) ∧ w.cell? ⟨g, i * 6 + 1, none⟩ = some (.int .i64 (ns[i]).n) := by
  obtain ⟨xs, o, r⟩ := h
  obtain ⟨g, cap, hv, _, hlt⟩ := o.form (by omega)
  obtain ⟨vt, e, _⟩ := r.2 i _ (List.getElem?_eq_getElem hi)
  have hc : ∀ (j : Nat) (u : Value), j < 6 → ((xs.drop (i * 6)).take 6)[j]? = some u → w.cell? ⟨g, i * 6 + j, none⟩ = some u := fun j u hj hu => by
    rw [List.getElem?_take_of_lt hj, List.getElem?_drop] at hu
    have := o.cells (g := g) (by rw [hv]; rfl) _ u hu
    rwa [add_plain] at this
  exact ⟨g, cap, hv, hc 0 _ (by omega) (by rw [e]; rfl), hc 1 _ (by omega) (by rw [e]; rfl)⟩
/-- A row of the table, where its lists stand. -/
theorem out_at {w : World} {base : Nat} {v : Value} {rs : List RowM} (h : Out w base v rs) (i : Nat) (hi : i < rs.length) :
    ∃ g cap A c B d, v = .slice (some ⟨g, 0, none⟩) rs.length cap ∧ w.cell? ⟨g, i * 5 + 3, none⟩ = some (.slice A (rs[i]).virtuals.length c) ∧ w.cell? ⟨g, i * 5 + 4, none⟩ = some (.slice B (rs[i]).others.length d) ∧ Nt w base (.slice A (rs[i]).virtuals.length c) (rs[i]).virtuals ∧ Nt w base (.slice B (rs[i]).others.length d) (rs[i]).others := by
  obtain ⟨xs, o, r⟩ := h
  obtain ⟨g, cap, hv, _, hlt⟩ := o.form (by omega)
  obtain ⟨vf, vv, vo, e, _, nv, no⟩ := r.2 i _ (List.getElem?_eq_getElem hi)
  have lv : ∃ A c, vv = .slice A (rs[i]).virtuals.length c := by
    rcases nv.choose_spec.1.2 with ⟨rfl, hz⟩ | ⟨g, cap, cur, rfl, _⟩
    · exact ⟨none, 0, by rw [hz]⟩
    · exact ⟨_, _, rfl⟩
  have lo : ∃ A c, vo = .slice A (rs[i]).others.length c := by
    rcases no.choose_spec.1.2 with ⟨rfl, hz⟩ | ⟨g, cap, cur, rfl, _⟩
    · exact ⟨none, 0, by rw [hz]⟩
    · exact ⟨_, _, rfl⟩
  obtain ⟨A, c, rfl⟩ := lv
  obtain ⟨B, d, rfl⟩ := lo
  have hc : ∀ (j : Nat) (u : Value), j < 5 → ((xs.drop (i * 5)).take 5)[j]? = some u → w.cell? ⟨g, i * 5 + j, none⟩ = some u := fun j u hj hu => by
    rw [List.getElem?_take_of_lt hj, List.getElem?_drop] at hu
    have := o.cells (g := g) (by rw [hv]; rfl) _ u hu
    rwa [add_plain] at this
  exact ⟨g, cap, A, c, B, d, hv, hc 3 _ (by omega) (by rw [e]; rfl), hc 4 _ (by omega) (by rw [e]; rfl), nv, no⟩
theorem out_len {w : World} {base : Nat} {v : Value} {rs : List RowM} (h : Out w base v rs) : ∃ A c, v = .slice A rs.length c := by
  rcases h.choose_spec.1.2 with ⟨rfl, hz⟩ | ⟨g, cap, cur, rfl, _⟩
  · exact ⟨none, 0, by rw [hz]⟩
  · exact ⟨_, _, rfl⟩
theorem own_max {w : World} {base : Nat} {e : TypeId} {size : Nat} {v : Value} {k : Nat} {xs : List Value} (h : w.ownsRow base e size v k xs) : k ≤ 9223372036854775807 := by
  rcases h.2 with ⟨_, rfl⟩ | ⟨g, cap, cur, _, _, _, h1, h2, _⟩
  · omega
  · unfold maxLen at h2; omega
theorem drop_cons {α : Type} (l : List α) (k : Nat) (h : k < l.length) : l.drop k = l[k] :: l.drop (k + 1) := List.drop_eq_getElem_cons h
def natAns (o : Option ByteArray) : Value := match o with | some s => .tuple #[.string s, .bool true] | none => .tuple #[.string ⟨#[]⟩, .bool false]
set_option maxHeartbeats 4000000 in
set_option maxRecDepth 100000 in
theorem rnat_core (w : World) (n : Int) (rs : List RowM) (hT : Calls Tryd.prog 19 #[] w fun e w' => ∃ v, e = .returned v ∧ Out w' w.heap.size v rs ∧ Ch (fun _ => False) w w') :
    Calls Tryd.prog 7 #[.int .i64 n] w fun e w' => e = .returned (natAns (natR n rs)) ∧ Ch (fun _ => False) w w' := by
  generalize hRES : natR n rs = RES
  have HR := Lib.hid hRES
  clear hRES
  go_enter Tryd.func7, Tryd.ntmps7
  go_wp2_with (fail)
  refine hT.mono ?_
  rintro e w1 ⟨v, rfl, hO, c1⟩
  clear hT
  have hmx := own_max hO.choose_spec.1
  obtain ⟨A, cap, rfl⟩ := out_len hO
  go_wp2_with (fail)
  go_loopg [5] rs.length (fun q i wl => ∃ k : Nat, k + q ≤ rs.length ∧ rs.length ≤ k + q ∧ i = .int .i64 k ∧ Ch (fun _ => False) w1 wl ∧ Hid (natR n (rs.drop k) = RES))
  case atStart => exact ⟨0, by omega, by omega, rfl, Ch.refl _ _, HR⟩
  case round => as_aux_lemma =>
    clear HR
    obtain ⟨k, hk1, hk2, rfl, hc, hr⟩ := hrel
    by_cases hlt : 0 < gk
    · have hk : k < rs.length := by omega
      have hkk : (k : Int) < (rs.length : Int) := by omega
      obtain ⟨g, p, B, d, E, f, e1, z3, z4, nv, no⟩ := out_at hO k hk
      injection e1 with a1 _ a2
      subst a1 a2
      have hh := hr.out
      rw [drop_cons rs k hk] at hh
      unfold natR at hh
      have HH := Lib.hid hh
      clear hh hr
      have Z3 := Lib.hid z3
      have Z4 := Lib.hid z4
      have z3 := hc.keep z3
      have mv := own_max nv.choose_spec.1
      have mo := own_max no.choose_spec.1
      generalize rs[k] = r at *
      obtain ⟨g0, HG0⟩ : ∃ g0, Hid (g0 = gk) := ⟨_, Lib.hid rfl⟩
      clear z4
      go_wp2_with (fail)
      go_loopg [6] r.virtuals.length (fun q i wl => ∃ j : Nat, j + q ≤ r.virtuals.length ∧ r.virtuals.length ≤ j + q ∧ i = .int .i64 j ∧ Ch (fun _ => False) w1 wl ∧ Hid (orE (natV n (r.virtuals.drop j)) (orE (natO n r.others) (natR n (rs.drop (k + 1)))) = RES))
      case atStart => exact ⟨0, by omega, by omega, rfl, hc, HH⟩
      case round => as_aux_lemma =>
        clear HH z3 hc
        obtain ⟨j, hj1, hj2, rfl, hcj, hrj⟩ := hrel
        have z3 := hcj.keep Z3.out
        by_cases hltj : 0 < gk
        · have hj : j < r.virtuals.length := by omega
          have hjj : (j : Int) < (r.virtuals.length : Int) := by omega
          obtain ⟨gv, pv, e3, s0, s1⟩ := nt_at nv j hj
          injection e3 with a3 _ a4
          subst a3 a4
          have hh := hrj.out
          rw [drop_cons _ j hj] at hh
          unfold natV at hh
          have s0 := hcj.keep s0
          have s1 := hcj.keep s1
          generalize r.virtuals[j] = x at *
          clear hrj
          by_cases hm : 0 < n ∧ x.n = n
          · rw [if_pos hm] at hh
            obtain ⟨hn0, hxn⟩ := hm
            have hbx : (x.n == n) = true := by simp [hxn]
            have HH := Lib.hid hh
            clear hh hxn
            go_wp2_with (fail)
            refine bodyPost_ret (v := .tuple #[.string x.s, .bool true]) (by simp [results, Tryd.results7, go_sem]) rfl ⟨?_, c1.then hcj⟩
            rw [← HH.out]
            rfl
          · rw [if_neg hm] at hh
            have HH := Lib.hid hh
            clear hh
            by_cases hn0 : 0 < n
            · have hbx : (x.n == n) = false := beq_eq_false_iff_ne.2 (fun e => hm ⟨hn0, e⟩)
              clear hm
              go_wp2_with (fail)
              go_roundg (gk - 1)
              case measure => omega
              case rel => exact ⟨j + 1, by omega, by omega, by go_num, hcj, HH⟩
            · clear hm
              go_wp2_with (fail)
              go_roundg (gk - 1)
              case measure => omega
              case rel => exact ⟨j + 1, by omega, by omega, by go_num, hcj, HH⟩
        · have hjj : ¬ ((j : Int) < (r.virtuals.length : Int)) := by omega
          have hz : r.virtuals.drop j = [] := List.drop_eq_nil_of_le (by omega)
          have hh := hrj.out
          rw [hz] at hh
          have HH : Hid (orE (natO n r.others) (natR n (rs.drop (k + 1))) = RES) := Lib.hid hh
          have z4 := hcj.keep Z4.out
          clear hh hz hrj hj1 hj2
          go_wp2_with (fail)
          go_loopg [7] r.others.length (fun q i wl => ∃ j : Nat, j + q ≤ r.others.length ∧ r.others.length ≤ j + q ∧ i = .int .i64 j ∧ Ch (fun _ => False) w1 wl ∧ Hid (orE (natO n (r.others.drop j)) (natR n (rs.drop (k + 1))) = RES))
          case atStart => exact ⟨0, by omega, by omega, rfl, hcj, HH⟩
          case round => as_aux_lemma =>
            clear HH z4 hcj z3
            obtain ⟨j, hj1, hj2, rfl, hcj, hrj⟩ := hrel
            have z4 := hcj.keep Z4.out
            by_cases hltj : 0 < gk
            · have hj : j < r.others.length := by omega
              have hjj : (j : Int) < (r.others.length : Int) := by omega
              obtain ⟨gv, pv, e3, s0, s1⟩ := nt_at no j hj
              injection e3 with a3 _ a4
              subst a3 a4
              have hh := hrj.out
              rw [drop_cons _ j hj] at hh
              unfold natO at hh
              have s0 := hcj.keep s0
              have s1 := hcj.keep s1
              generalize r.others[j] = x at *
              clear hrj
              by_cases hm : x.n = n
              · rw [if_pos hm] at hh
                have hbx : (x.n == n) = true := by simp [hm]
                have HH := Lib.hid hh
                clear hh hm
                go_wp2_with (fail)
                refine bodyPost_ret (v := .tuple #[.string x.s, .bool true]) (by simp [results, Tryd.results7, go_sem]) rfl ⟨?_, c1.then hcj⟩
                rw [← HH.out]
                rfl
              · rw [if_neg hm] at hh
                have HH := Lib.hid hh
                have hbx : (x.n == n) = false := beq_eq_false_iff_ne.2 hm
                clear hh hm
                go_wp2_with (fail)
                go_roundg (gk - 1)
                case measure => omega
                case rel => exact ⟨j + 1, by omega, by omega, by go_num, hcj, HH⟩
            · have hjj : ¬ ((j : Int) < (r.others.length : Int)) := by omega
              have hz : r.others.drop j = [] := List.drop_eq_nil_of_le (by omega)
              have hh := hrj.out
              rw [hz] at hh
              have HH : Hid (natR n (rs.drop (k + 1)) = RES) := Lib.hid hh
              clear hh hz hrj hj1 hj2
              go_wp2_with (fail)
              go_roundg (g0 - 1)
              case measure => have := HG0.out; omega
              case rel => exact ⟨k + 1, by have := HG0.out; omega, by have := HG0.out; omega, by go_num, hcj, HH⟩
    · have hkk : ¬ ((k : Int) < (rs.length : Int)) := by omega
      have hz : rs.drop k = [] := List.drop_eq_nil_of_le (by omega)
      have hh := hr.out
      rw [hz] at hh
      unfold natR at hh
      subst hh
      clear hz hr
      go_wp2_with (fail)
      refine bodyPost_ret (v := .tuple #[.string ⟨#[]⟩, .bool false]) (by simp [results, Tryd.results7, go_sem]) rfl ⟨rfl, c1.then hc⟩
theorem natV_no (n : Int) (l : List NatM) (h : ∀ x ∈ l, 0 < n → x.n ≠ n) : natV n l = none := by
  induction l with
  | nil => rfl
  | cons x l ih =>
    unfold natV
    rw [if_neg (fun hh => h x (List.mem_cons_self ..) hh.1 hh.2)]
    exact ih (fun y hy => h y (List.mem_cons_of_mem _ hy))
theorem natO_no (n : Int) (l : List NatM) (h : ∀ x ∈ l, x.n ≠ n) : natO n l = none := by
  induction l with
  | nil => rfl
  | cons x l ih =>
    unfold natO
    rw [if_neg (h x (List.mem_cons_self ..))]
    exact ih (fun y hy => h y (List.mem_cons_of_mem _ hy))
theorem natR_no (n : Int) (l : List RowM) (h : ∀ r ∈ l, (∀ x ∈ r.virtuals, 0 < n → x.n ≠ n) ∧ ∀ x ∈ r.others, x.n ≠ n) : natR n l = none := by
  induction l with
  | nil => rfl
  | cons r l ih =>
    unfold natR
    rw [natV_no n _ (h r (List.mem_cons_self ..)).1, natO_no n _ (h r (List.mem_cons_self ..)).2, ih (fun y hy => h y (List.mem_cons_of_mem _ hy))]
    rfl
theorem tab_nums : (theTable.all fun r => (r.virtuals.all fun x => decide (x.n ≤ 26)) && (r.others.all fun x => decide (1 ≤ x.n) && decide (x.n ≤ 26))) = true := by decide +kernel
theorem tab_names : ((List.range 26).all fun i => decide (natR ((i : Int) + 1) theTable = some ⟨(names.getD i []).toArray⟩)) = true := by decide +kernel
theorem natR_table (n : Int) : natAns (natR n theTable) = .tuple #[.string (nameOf n), .bool (isOf n)] := by
  by_cases h : 1 ≤ n ∧ n ≤ 26
  · obtain ⟨k, hk, rfl⟩ : ∃ k : Nat, k < 26 ∧ n = (k : Int) + 1 := ⟨(n - 1).toNat, by omega, by omega⟩
    have := of_decide_eq_true (List.all_eq_true.1 tab_names k (List.mem_range.2 hk))
    rw [this]
    unfold nameOf isOf
    rw [if_pos h, decide_eq_true h, show ((k : Int) + 1 - 1).toNat = k by omega]
    rfl
  · rw [natR_no n theTable (fun r hr => ?_)]
    · unfold nameOf isOf
      rw [if_neg h, decide_eq_false h]
      rfl
    · have := List.all_eq_true.1 tab_nums r hr
      simp only [Bool.and_eq_true, List.all_eq_true, decide_eq_true_eq] at this
      exact ⟨fun x hx h0 e => by have := this.1 x hx; omega, fun x hx e => by have := this.2 x hx; omega⟩
theorem rnat_any (w : World) (n : Int) : Calls Tryd.prog 7 #[.int .i64 n] w fun e w' => e = .returned (.tuple #[.string (nameOf n), .bool (isOf n)]) ∧ Ch (fun _ => False) w w' := by
  have h := rnat_core w n theTable (table_any w)
  rw [natR_table] at h
  exact h
end Go.Proofs.YtjknnifcbcdjiaaDoor.Tab
