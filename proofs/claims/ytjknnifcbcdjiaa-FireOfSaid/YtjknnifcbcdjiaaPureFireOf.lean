/- The plain law: the access of any instruction. -/
import Derived.Test.YtjknnifcbcdjiaaPFireOfx
namespace Go.Proofs.Ytjknnifcbcdjiaa.PFireOf
theorem pure_ (c0 o a c3 c4 p c6 : Int) (l7 l8 : List Int) (c9 : Int) : garderobelaw21_FireOf.f c0 o a c3 c4 p c6 l7 l8 c9 = some true := by
  unfold garderobelaw21_FireOf.f fire_Of.f garderoberef21_Of.f garderobelaw21_lives.f
  simp
end Go.Proofs.Ytjknnifcbcdjiaa.PFireOf
