/- Words for walks: of the printed ones what this seat's rows come to (cut out by a program of this session). -/
import Derived.Test.YtjknnifcbcdjiaaWN
namespace Go.Proofs.YtjknnifcbcdjiaaW.PrintWords
open Go.RowKit
namespace Kd
section
variable {α : Type} {d : Kd α} {W : World} {g n : Nat} {S ok : Nat → Prop} {A : Option Addr} {ad : Addr} {xs : List α}
end
end Kd
end Go.Proofs.YtjknnifcbcdjiaaW.PrintWords
