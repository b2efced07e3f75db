/- append onto a slice whose capacity is its length: nothing that was there is written. -/
import Derived.Test.YtjknnifcbcdjiaaWWords
import Derived.Test.YtjknnifcbcdjiaaWMore
import Derived.ArgAppend
import Derived.Deep.AppendSrc
import Derived.Deep.Upon
namespace Go.Proofs.Ytjknnifcbcdjiaa.Full
open Go.RowKit Go.Proofs.YtjknnifcbcdjiaaW.PrintWords Go.Proofs.YtjknnifcbcdjiaaW.PrintLast Go.Proofs.YtjknnifcbcdjiaaW.PrintMore
theorem c_none {α : Type} {d : Kd α} {w : World} {n : Nat} {xs : List α} (h : Kd.C d w none n xs) : n = 0 := by
  rcases Nat.eq_zero_or_pos n with h0 | h0
  · exact h0
  · obtain ⟨ad, he, _⟩ := h.2.2 h0
    cases he
theorem one_of {α : Type} {d : Kd α} {w : World} {ys : List α} {news : List Value} (hs0 : 0 < d.sz) (hnM : Reps (d.K w) d.sz ys news) : ∀ u ∈ news, u.oneCell' = true := by
  intro u hu
  obtain ⟨q, hq, rfl⟩ := List.mem_iff_getElem.1 hu
  have hql : q / d.sz < ys.length := by
    rw [Nat.div_lt_iff_lt_mul hs0]
    rw [← hnM.1]
    exact hq
  have hc := hnM.2 (q / d.sz) _ (List.getElem?_eq_getElem hql)
  refine d.K_one hc _ ?_
  rw [List.mem_iff_getElem?]
  refine ⟨q % d.sz, ?_⟩
  rw [List.getElem?_take, if_pos (Nat.mod_lt _ hs0), List.getElem?_drop, Nat.mul_comm, Nat.div_add_mod, List.getElem?_eq_getElem hq]
theorem append_full {P : Program} {ops : Array Oper} {rest : List Oper} {o : Oper} {a : Act} {Q : Exit → Act → World → Prop} {α : Type} (d : Kd α) (hKM : ∀ {w w' : World} {base : Nat} {ok : Nat → Prop} {x : α} {cs : List Value}, d.K w x cs → d.M w' base ok x cs)
    {w0 W : World} (base : Nat) (hgd : o.guard = none) (s x : Operand) (t e : TypeId) (z : Value) (bytes : Nat) (ho : o.op = .call { callee := .builtin .append, args := #[s, x], argTypes := #[t, t] })
    (ht : P.underlying t = some (.slice e)) (hinfo : (P.info? e).map (fun i => (i.zero, i.size, i.bytes)) = some (some z, d.sz, bytes)) (hz : z.cells.size = d.sz) (hs0 : 0 < d.sz) (hb0 : 0 < bytes)
    (A A2 : Option Addr) (n m c : Nat) (xs ys : List α) (ok : Nat → Prop) (hs : a.eval s = .slice A n n) (hx : a.eval x = .slice A2 m c)
    (HV : Kd.V d e W base ok (.slice A n n) xs) (HR : Kd.C d W A2 m ys) (hfresh : ∀ k, W.heap.size ≤ k → ok k) (HB : Below base w0 W) (hbase : base ≤ W.heap.size) (hl : (xs.length + m) * bytes ≤ 140737488355328)
    (h : ∀ v1 w1, Kd.V d e w1 base ok v1 (xs ++ ys) → Below base w0 w1 → W.grownBy w1 none → wpList P ops Q rest (a.put o.dst v1) w1) : wpList P ops Q (o :: rest) a W := by
  obtain ⟨i0, hi, hzz⟩ := Option.map_eq_some_iff.1 hinfo
  simp only [Prod.mk.injEq] at hzz
  obtain ⟨hz0, hz1, hz2⟩ := hzz
  obtain ⟨hn, _, hF⟩ := Kd.V_at HV
  have hC := Kd.F_now hF
  have hm : ys.length = m := HR.1
  have hlen : xs.length + m ≤ 140737488355328 := Nat.le_trans (Nat.le_mul_of_pos_right _ hb0) hl
  by_cases h0 : m = 0
  · subst h0
    obtain rfl : ys = [] := List.eq_nil_of_length_eq_zero hm
    have hsrc : Src P i0.size t (.slice A2 0 c) 0 [] W := by
      cases A2 with
      | none => exact Src.ofNil W ht c
      | some ad => exact Src.ofSlice W ht ad 0 c [] (by simp) (by simp) (by simp)
    have hrun := run_append_nothing (P := P) W t t o.type e i0 ht hi A n n (Nat.le_refl _) (.slice A2 0 c) hsrc
    refine wpList_plain hgd fun K hK' => ?_
    unfold Oper.wp
    simp only [execOp, ho, resolve, invoke, builtin, hs, hx, hrun, Result.andThen, Sem.run_bind, Sem.run_pure, Result.andThen_ok, List.map_toArray, List.map_cons, List.map_nil]
    exact hK' _ _ (h _ _ (by simpa using HV) HB (World.grownBy.refl W _))
  · obtain ⟨ad, rfl, _⟩ := HR.2.2 (by omega)
    obtain ⟨news, hnr, hnc⟩ := ReadsRow.inner_ HR
    obtain ⟨olds, hor, hoc⟩ : ∃ olds, Reps (d.K W) d.sz xs olds ∧ ∀ b, A = some b → ∀ j u, olds[j]? = some u → W.cell? (b.add j) = some u := by
      cases A with
      | none =>
        obtain rfl : xs = [] := List.eq_nil_of_length_eq_zero (c_none hC)
        exact ⟨[], Reps.none _ _, fun b hb => by cases hb⟩
      | some b =>
        obtain ⟨olds, h1, h2⟩ := ReadsRow.inner_ hC
        exact ⟨olds, h1, fun b' hb' => by cases hb'; exact h2⟩
    refine wpList_append_grows W hgd s x t ho e i0 z d.sz bytes ht hi hz0 hz1 hz2 hz hs0 A n n olds hs (fun hA => by subst hA; have := c_none hC; omega) (by rw [hor.1, hn]) hoc ad m c news hx (by rw [hnr.1, hm]) hnc (one_of hs0 hnr) (by omega) (by unfold maxLen; omega) (by rw [hn]; exact hl) fun v' w' hown hg => ?_
    have hlen' : n + m = (xs ++ ys).length := by rw [List.length_append, hm, hn]
    rw [hlen'] at hown
    have hR : d.R e w' W.heap.size ok v' (xs ++ ys) := ⟨fun k hk => hfresh k (own_base hown k hk), olds ++ news, hown, Kd.reps_append (hor.imp_ (fun _ _ hk => hKM hk)) (hnr.imp_ (fun _ _ hk => hKM hk))⟩
    exact h v' w' (Kd.R_V hR) (HB.grown hg hbase (fun k hk => by cases hk)) hg
end Go.Proofs.Ytjknnifcbcdjiaa.Full
