/-
  No cell of these rows narrows 'for every input' (looked for: loops, veiled, ifaces, maps, wideKeys, modest, calm, conditions, laid).
  DERIVED. THE GIVEN ROWS OF THIS SEAT. 8 by the template 'for every input the law returns true; each argument reads behind the call as it read before'; 0 by the template 'total and deterministic' (their statements: YtjknnifcbcdjiaaTotals.lean).
  GIVEN WITH THE SEED: the statements are not yours to turn. If you find one false, say at which input.
  Laid BY PROGRAM, IN A SANDBOX (cutbox-rows.mjs): the forced cells as the released guide's own fill.sh prints them over the translation 6ea33d9ba13c134d… (all of the seat's roots in one cut). By AI agents, Wed Nov 11 2026. No macro, syntax, notation, axiom, sorry.
-/
import Derived.Test.YtjknnifcbcdjiaaChecked
import GoSem.Claim
import GoSem.ClaimJoined
import GoSem.ClaimMapViews
import Derived.JoinedTies
import Derived.KernelRfl
namespace Go.Proofs.Ytjknnifcbcdjiaa
/- THE CELL 'sum', in the pinned program and in every row, IS THE sha256 OF THE DUMP (.gsa) THAT YtjknnifcbcdjiaaProg.lean LOADS. Nothing in Lean hashes anything: it is a label: what it is worth is what the hold of that sum in a sandbox is worth. -/
noncomputable def Try.pinned : Pinned := { name := "ytjknnifcbcdjiaa", sum := "6ea33d9ba13c134d6c973dda6eaf80f22ad4e3b4afb817beef27fb760d82cc28", checked := Try.checked }
namespace Rows
def none {H : Type} : Left H := { results := [], args := [] }

/-- 'garderobelaw15.FindAny': WHATEVER THE INPUT: true; the input reads as it did. -/
def findAnySpec : ChangeSpec := { name := "findAny", fn := fun _ => fun
  | [d1, d2, d3, d4, d5, d6, d7] => { results := [.lit (.bool true)], args := [d1, d2, d3, d4, d5, d6, d7] }
  | _ => none }
def findAnyRow : OpenClaim := { program := "ytjknnifcbcdjiaa", sum := "6ea33d9ba13c134d6c973dda6eaf80f22ad4e3b4afb817beef27fb760d82cc28", func := "garderobe/garderobelaw15.FindAny", spec := "findAny", unfollowed := true, recurses := true, apart := false }
def FindAnySaid : Prop := findAnyRow.holds Try.pinned (OpenSpec.ofChange findAnySpec)

/-- ITS FALSE NEIGHBOUR: 'it returns false'. Refute it at one input. -/
def findAnyWrong : ChangeSpec := { name := "findAny", fn := fun _ => fun
  | [d1, d2, d3, d4, d5, d6, d7] => { results := [.lit (.bool false)], args := [d1, d2, d3, d4, d5, d6, d7] }
  | _ => none }
def FindAnyWrongFalsely : Prop := findAnyRow.holds Try.pinned (OpenSpec.ofChange findAnyWrong)

/-- 'garderobelaw17.ShapeMoves': WHATEVER THE INPUT: true; the input reads as it did. -/
def shapeMovesSpec : ChangeSpec := { name := "shapeMoves", fn := fun _ => fun
  | [d1, d2, d3, d4, d5, d6] => { results := [.lit (.bool true)], args := [d1, d2, d3, d4, d5, d6] }
  | _ => none }
def shapeMovesRow : OpenClaim := { program := "ytjknnifcbcdjiaa", sum := "6ea33d9ba13c134d6c973dda6eaf80f22ad4e3b4afb817beef27fb760d82cc28", func := "garderobe/garderobelaw17.ShapeMoves", spec := "shapeMoves", apart := false }
def ShapeMovesSaid : Prop := shapeMovesRow.holds Try.pinned (OpenSpec.ofChange shapeMovesSpec)

/-- ITS FALSE NEIGHBOUR: 'it returns false'. Refute it at one input. -/
def shapeMovesWrong : ChangeSpec := { name := "shapeMoves", fn := fun _ => fun
  | [d1, d2, d3, d4, d5, d6] => { results := [.lit (.bool false)], args := [d1, d2, d3, d4, d5, d6] }
  | _ => none }
def ShapeMovesWrongFalsely : Prop := shapeMovesRow.holds Try.pinned (OpenSpec.ofChange shapeMovesWrong)

/-- 'garderobelaw17.ShapeCalls': WHATEVER THE INPUT: true; the input reads as it did. -/
def shapeCallsSpec : ChangeSpec := { name := "shapeCalls", fn := fun _ => fun
  | [d1, d2, d3] => { results := [.lit (.bool true)], args := [d1, d2, d3] }
  | _ => none }
def shapeCallsRow : OpenClaim := { program := "ytjknnifcbcdjiaa", sum := "6ea33d9ba13c134d6c973dda6eaf80f22ad4e3b4afb817beef27fb760d82cc28", func := "garderobe/garderobelaw17.ShapeCalls", spec := "shapeCalls", apart := false }
def ShapeCallsSaid : Prop := shapeCallsRow.holds Try.pinned (OpenSpec.ofChange shapeCallsSpec)

/-- ITS FALSE NEIGHBOUR: 'it returns false'. Refute it at one input. -/
def shapeCallsWrong : ChangeSpec := { name := "shapeCalls", fn := fun _ => fun
  | [d1, d2, d3] => { results := [.lit (.bool false)], args := [d1, d2, d3] }
  | _ => none }
def ShapeCallsWrongFalsely : Prop := shapeCallsRow.holds Try.pinned (OpenSpec.ofChange shapeCallsWrong)

/-- 'garderobelaw17.ShapeBack': WHATEVER THE INPUT: true; the input reads as it did. -/
def shapeBackSpec : ChangeSpec := { name := "shapeBack", fn := fun _ => fun
  | [d1, d2, d3] => { results := [.lit (.bool true)], args := [d1, d2, d3] }
  | _ => none }
def shapeBackRow : OpenClaim := { program := "ytjknnifcbcdjiaa", sum := "6ea33d9ba13c134d6c973dda6eaf80f22ad4e3b4afb817beef27fb760d82cc28", func := "garderobe/garderobelaw17.ShapeBack", spec := "shapeBack", apart := false }
def ShapeBackSaid : Prop := shapeBackRow.holds Try.pinned (OpenSpec.ofChange shapeBackSpec)

/-- ITS FALSE NEIGHBOUR: 'it returns false'. Refute it at one input. -/
def shapeBackWrong : ChangeSpec := { name := "shapeBack", fn := fun _ => fun
  | [d1, d2, d3] => { results := [.lit (.bool false)], args := [d1, d2, d3] }
  | _ => none }
def ShapeBackWrongFalsely : Prop := shapeBackRow.holds Try.pinned (OpenSpec.ofChange shapeBackWrong)

/-- 'garderobelaw16.ValsAny': WHATEVER THE INPUT: true; the input reads as it did. -/
def valsAnySpec : ChangeSpec := { name := "valsAny", fn := fun _ => fun
  | [d1, d2, d3, d4] => { results := [.lit (.bool true)], args := [d1, d2, d3, d4] }
  | _ => none }
def valsAnyRow : OpenClaim := { program := "ytjknnifcbcdjiaa", sum := "6ea33d9ba13c134d6c973dda6eaf80f22ad4e3b4afb817beef27fb760d82cc28", func := "garderobe/garderobelaw16.ValsAny", spec := "valsAny", unfollowed := true, recurses := true, apart := false }
def ValsAnySaid : Prop := valsAnyRow.holds Try.pinned (OpenSpec.ofChange valsAnySpec)

/-- ITS FALSE NEIGHBOUR: 'it returns false'. Refute it at one input. -/
def valsAnyWrong : ChangeSpec := { name := "valsAny", fn := fun _ => fun
  | [d1, d2, d3, d4] => { results := [.lit (.bool false)], args := [d1, d2, d3, d4] }
  | _ => none }
def ValsAnyWrongFalsely : Prop := valsAnyRow.holds Try.pinned (OpenSpec.ofChange valsAnyWrong)

/-- 'garderobelaw21.FireAny': WHATEVER THE INPUT: true; the input reads as it did. -/
def fireAnySpec : ChangeSpec := { name := "fireAny", fn := fun _ => fun
  | [d1, d2, d3, d4] => { results := [.lit (.bool true)], args := [d1, d2, d3, d4] }
  | _ => none }
def fireAnyRow : OpenClaim := { program := "ytjknnifcbcdjiaa", sum := "6ea33d9ba13c134d6c973dda6eaf80f22ad4e3b4afb817beef27fb760d82cc28", func := "garderobe/garderobelaw21.FireAny", spec := "fireAny", unfollowed := true, recurses := true, apart := false }
def FireAnySaid : Prop := fireAnyRow.holds Try.pinned (OpenSpec.ofChange fireAnySpec)

/-- ITS FALSE NEIGHBOUR: 'it returns false'. Refute it at one input. -/
def fireAnyWrong : ChangeSpec := { name := "fireAny", fn := fun _ => fun
  | [d1, d2, d3, d4] => { results := [.lit (.bool false)], args := [d1, d2, d3, d4] }
  | _ => none }
def FireAnyWrongFalsely : Prop := fireAnyRow.holds Try.pinned (OpenSpec.ofChange fireAnyWrong)

/-- 'garderobelaw13.HierAny': WHATEVER THE INPUT: true; the input reads as it did. -/
def hierAnySpec : ChangeSpec := { name := "hierAny", fn := fun _ => fun
  | [d1, d2, d3, d4, d5] => { results := [.lit (.bool true)], args := [d1, d2, d3, d4, d5] }
  | _ => none }
def hierAnyRow : OpenClaim := { program := "ytjknnifcbcdjiaa", sum := "6ea33d9ba13c134d6c973dda6eaf80f22ad4e3b4afb817beef27fb760d82cc28", func := "garderobe/garderobelaw13.HierAny", spec := "hierAny", unfollowed := true, recurses := true, apart := false }
def HierAnySaid : Prop := hierAnyRow.holds Try.pinned (OpenSpec.ofChange hierAnySpec)

/-- ITS FALSE NEIGHBOUR: 'it returns false'. Refute it at one input. -/
def hierAnyWrong : ChangeSpec := { name := "hierAny", fn := fun _ => fun
  | [d1, d2, d3, d4, d5] => { results := [.lit (.bool false)], args := [d1, d2, d3, d4, d5] }
  | _ => none }
def HierAnyWrongFalsely : Prop := hierAnyRow.holds Try.pinned (OpenSpec.ofChange hierAnyWrong)

/-- 'garderobelaw21.FireOf': WHATEVER THE INPUT: true; the input reads as it did. -/
def fireOfSpec : ChangeSpec := { name := "fireOf", fn := fun _ => fun
  | [d] => { results := [.lit (.bool true)], args := [d] }
  | _ => none }
def fireOfRow : OpenClaim := { program := "ytjknnifcbcdjiaa", sum := "6ea33d9ba13c134d6c973dda6eaf80f22ad4e3b4afb817beef27fb760d82cc28", func := "garderobe/garderobelaw21.FireOf", spec := "fireOf", unfollowed := true, recurses := true, apart := false }
def FireOfSaid : Prop := fireOfRow.holds Try.pinned (OpenSpec.ofChange fireOfSpec)

/-- ITS FALSE NEIGHBOUR: 'it returns false'. Refute it at one input. -/
def fireOfWrong : ChangeSpec := { name := "fireOf", fn := fun _ => fun
  | [d] => { results := [.lit (.bool false)], args := [d] }
  | _ => none }
def FireOfWrongFalsely : Prop := fireOfRow.holds Try.pinned (OpenSpec.ofChange fireOfWrong)

/- THE SECOND FORM. 'bulk': how many values and letters a reading holds, each counted each time it is reached (what is shared counts as often as it is met; a slice's spare places count too). A statement '..UptoSaid' is the law's where the arguments, and the package variables that the reading takes, are together of bulk at most 1048576: NARROWER than '..Said'. Prove '..Said' where nothing that the law and all that it calls make is longer than what came in: it says more and counts as full. Else prove '..UptoSaid'. A law counts once. -/
mutual
def uptoBulk {H : Type} : DataW H → Nat
  | .lit (.string bytes) => bytes.length + 1
  | .lit _ => 1
  | .nil => 1
  | .ptr d => uptoBulk d + 1
  | .slice elems spare => uptoBulkAll elems + uptoBulkAll spare + 1
  | .agg parts => uptoBulkAll parts + 1
  | .iface _ d => uptoBulk d + 1
  | .map entries => uptoBulkEntries entries + 1
  | .held _ => 1
def uptoBulkAll {H : Type} : List (DataW H) → Nat
  | [] => 0
  | d :: r => uptoBulk d + uptoBulkAll r
def uptoBulkEntries {H : Type} : List (Lit × DataW H) → Nat
  | [] => 0
  | x :: r => uptoBulkEntry x + uptoBulkEntries r
def uptoBulkEntry {H : Type} : Lit × DataW H → Nat
  | (.string bytes, d) => bytes.length + uptoBulk d + 1
  | (_, d) => uptoBulk d + 1
 end
def uptoSmall : (H : Type) → List (DataW H) → Bool := fun _ ds => decide (uptoBulkAll ds ≤ 1048576)
def OpenSpec.upto (s : _root_.Go.ChangeSpec) : _root_.Go.OpenSpec := { _root_.Go.OpenSpec.ofChange s with cond := some uptoSmall }

/-- 'garderobelaw15.FindAny', WHERE WHAT IT READS IS OF BULK AT MOST 1048576: true; the input reads as it did. -/
def findAnyUptoRow : OpenClaim := { program := "ytjknnifcbcdjiaa", sum := "6ea33d9ba13c134d6c973dda6eaf80f22ad4e3b4afb817beef27fb760d82cc28", func := "garderobe/garderobelaw15.FindAny", spec := "findAny", unfollowed := true, recurses := true, apart := false, narrowed := true }
def FindAnyUptoSaid : Prop := findAnyUptoRow.holds Try.pinned (OpenSpec.upto findAnySpec)

/-- 'garderobelaw17.ShapeMoves', WHERE WHAT IT READS IS OF BULK AT MOST 1048576: true; the input reads as it did. -/
def shapeMovesUptoRow : OpenClaim := { program := "ytjknnifcbcdjiaa", sum := "6ea33d9ba13c134d6c973dda6eaf80f22ad4e3b4afb817beef27fb760d82cc28", func := "garderobe/garderobelaw17.ShapeMoves", spec := "shapeMoves", apart := false, narrowed := true }
def ShapeMovesUptoSaid : Prop := shapeMovesUptoRow.holds Try.pinned (OpenSpec.upto shapeMovesSpec)

/-- 'garderobelaw17.ShapeCalls', WHERE WHAT IT READS IS OF BULK AT MOST 1048576: true; the input reads as it did. -/
def shapeCallsUptoRow : OpenClaim := { program := "ytjknnifcbcdjiaa", sum := "6ea33d9ba13c134d6c973dda6eaf80f22ad4e3b4afb817beef27fb760d82cc28", func := "garderobe/garderobelaw17.ShapeCalls", spec := "shapeCalls", apart := false, narrowed := true }
def ShapeCallsUptoSaid : Prop := shapeCallsUptoRow.holds Try.pinned (OpenSpec.upto shapeCallsSpec)

/-- 'garderobelaw17.ShapeBack', WHERE WHAT IT READS IS OF BULK AT MOST 1048576: true; the input reads as it did. -/
def shapeBackUptoRow : OpenClaim := { program := "ytjknnifcbcdjiaa", sum := "6ea33d9ba13c134d6c973dda6eaf80f22ad4e3b4afb817beef27fb760d82cc28", func := "garderobe/garderobelaw17.ShapeBack", spec := "shapeBack", apart := false, narrowed := true }
def ShapeBackUptoSaid : Prop := shapeBackUptoRow.holds Try.pinned (OpenSpec.upto shapeBackSpec)

/-- 'garderobelaw16.ValsAny', WHERE WHAT IT READS IS OF BULK AT MOST 1048576: true; the input reads as it did. -/
def valsAnyUptoRow : OpenClaim := { program := "ytjknnifcbcdjiaa", sum := "6ea33d9ba13c134d6c973dda6eaf80f22ad4e3b4afb817beef27fb760d82cc28", func := "garderobe/garderobelaw16.ValsAny", spec := "valsAny", unfollowed := true, recurses := true, apart := false, narrowed := true }
def ValsAnyUptoSaid : Prop := valsAnyUptoRow.holds Try.pinned (OpenSpec.upto valsAnySpec)

/-- 'garderobelaw21.FireAny', WHERE WHAT IT READS IS OF BULK AT MOST 1048576: true; the input reads as it did. -/
def fireAnyUptoRow : OpenClaim := { program := "ytjknnifcbcdjiaa", sum := "6ea33d9ba13c134d6c973dda6eaf80f22ad4e3b4afb817beef27fb760d82cc28", func := "garderobe/garderobelaw21.FireAny", spec := "fireAny", unfollowed := true, recurses := true, apart := false, narrowed := true }
def FireAnyUptoSaid : Prop := fireAnyUptoRow.holds Try.pinned (OpenSpec.upto fireAnySpec)

/-- 'garderobelaw13.HierAny', WHERE WHAT IT READS IS OF BULK AT MOST 1048576: true; the input reads as it did. -/
def hierAnyUptoRow : OpenClaim := { program := "ytjknnifcbcdjiaa", sum := "6ea33d9ba13c134d6c973dda6eaf80f22ad4e3b4afb817beef27fb760d82cc28", func := "garderobe/garderobelaw13.HierAny", spec := "hierAny", unfollowed := true, recurses := true, apart := false, narrowed := true }
def HierAnyUptoSaid : Prop := hierAnyUptoRow.holds Try.pinned (OpenSpec.upto hierAnySpec)

/-- 'garderobelaw21.FireOf', WHERE WHAT IT READS IS OF BULK AT MOST 1048576: true; the input reads as it did. -/
def fireOfUptoRow : OpenClaim := { program := "ytjknnifcbcdjiaa", sum := "6ea33d9ba13c134d6c973dda6eaf80f22ad4e3b4afb817beef27fb760d82cc28", func := "garderobe/garderobelaw21.FireOf", spec := "fireOf", unfollowed := true, recurses := true, apart := false, narrowed := true }
def FireOfUptoSaid : Prop := fireOfUptoRow.holds Try.pinned (OpenSpec.upto fireOfSpec)

end Rows
end Go.Proofs.Ytjknnifcbcdjiaa
