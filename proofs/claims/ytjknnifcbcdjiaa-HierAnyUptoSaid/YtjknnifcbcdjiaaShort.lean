/- What printed walks search for again and again: a fact carried over memory that grew. The search is a lemma's last argument. -/
import Derived.Test.YtjknnifcbcdjiaaProg
import Derived.RowKit3
import Derived.Test.YtjknnifcbcdjiaaWWords
import Derived.Test.YtjknnifcbcdjiaaWLast
import Derived.Test.YtjknnifcbcdjiaaWTab
import Derived.Test.YtjknnifcbcdjiaaWShare
import Derived.Test.YtjknnifcbcdjiaaWMore
namespace Go.Proofs.Ytjknnifcbcdjiaa.Short
open Go Go.RowKit Go.Proofs.YtjknnifcbcdjiaaW.PrintWords Go.Proofs.YtjknnifcbcdjiaaW.PrintLast Go.Proofs.YtjknnifcbcdjiaaW.PrintMore
set_option linter.unusedVariables false
theorem qR {α : Type} {d : Kd α} {e : Nat} {W0 W : World} {b : Nat} {ok : Nat → Prop} {v : Value} {xs : List α} (x : Kd.R d e W0 b ok v xs)
    (h : Kd.R d e W0 b ok v xs → Kd.R d e W b ok v xs := by intro y_; (with_reducible repeat (first | apply Kd.R_alloc | apply Kd.R_drewN | apply Kd.R_drew)); exact y_) : Kd.R d e W b ok v xs := h x
theorem qV {α : Type} {d : Kd α} {e : Nat} {W0 W : World} {b : Nat} {ok : Nat → Prop} {v : Value} {xs : List α} (x : Kd.V d e W0 b ok v xs)
    (h : Kd.V d e W0 b ok v xs → Kd.V d e W b ok v xs := by intro y_; (with_reducible repeat (first | apply Kd.V_alloc | apply Kd.V_drewN | apply Kd.V_drew)); exact y_) : Kd.V d e W b ok v xs := h x
theorem qC {α : Type} {d : Kd α} {W0 W : World} {A : Option Addr} {n : Nat} {xs : List α} (x : Kd.C d W0 A n xs)
    (h : Kd.C d W0 A n xs → Kd.C d W A n xs := by intro y_; repeat (first | exact y_ | (with_reducible refine Kd.C_alloc ?_ _) | (with_reducible refine Kd.C_drewN ?_ _) | (with_reducible refine Kd.C_drew ?_))) : Kd.C d W A n xs := h x
theorem qb {W0 W : World} {g : Nat} {o : Obj} (x : W0.heap[g]? = some o)
    (h : W0.heap[g]? = some o → W.heap[g]? = some o := by intro y_; (with_reducible repeat (first | refine blk_drewN ?_ _ | refine blk_drew ?_ | refine blk_alloc ?_ _)); exact y_) : W.heap[g]? = some o := h x
theorem qf {W0 W : World} {g : Nat} {o : Obj} (x : W0.heap[g]? = some o)
    (h : W0.heap[g]? = some o → W.heap[g]? = some o := by intro y_; (with_reducible repeat (first | exact y_ | refine blk_drewN ?_ _ | refine blk_drew ?_ | refine blk_alloc ?_ _ | refine blk_far ?_ (Aside0.out (by assumption)) _)); done) : W.heap[g]? = some o := h x
theorem qW {n : Nat} {w W0 W : World} (x : Below n w W0)
    (h : Below n w W0 → Below n w W := by intro y_; repeat (first | (with_reducible first | exact y_ | apply below_alloc | apply pw_below_drewN | apply below_drew1 | refine below_set ?_ (Aside0.out (by assumption))) | exact y_)) : Below n w W := h x
end Go.Proofs.Ytjknnifcbcdjiaa.Short
