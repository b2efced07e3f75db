/- Words for walks: of the printed ones what this seat's rows come to (cut out by a program of this session). -/
import Derived.Test.YtjknnifcbcdjiaaWApart
import Derived.Test.YtjknnifcbcdjiaaWArr
namespace Go.Proofs.YtjknnifcbcdjiaaW.PrintWords
open Go.RowKit
section
variable {P : Program}
end
namespace Kd
section
variable {P : Program} {ops : Array Oper} {rest : List Oper} {o : Oper} {a : Act} {Q : Exit → Act → World → Prop} {Kc : Act → World → Prop} {α : Type}
end
section
variable {α : Type} {d : Kd α} {e : Nat} {w : World} {base : Nat} {ok : Nat → Prop} {v : Value} {xs : List α}
end
section
variable {P : Program} {ops : Array Oper} {rest : List Oper} {o : Oper} {a : Act} {Q : Exit → Act → World → Prop} {Kc : Act → World → Prop} {α : Type}
end
end Kd
end Go.Proofs.YtjknnifcbcdjiaaW.PrintWords
