/- Words for walks: of the printed ones what this seat's rows come to (cut out by a program of this session). -/
import Derived.Test.YtjknnifcbcdjiaaWTab
namespace Go.Proofs.YtjknnifcbcdjiaaW.PrintLast
section
variable {P : Program} {ops : Array Oper} {Q : Exit → Act → World → Prop} {md : Region.Mode} {S : World → Prop} {ds : List Nat} {T : Bool × List (List Nat × List Nat)}
end
end Go.Proofs.YtjknnifcbcdjiaaW.PrintLast
