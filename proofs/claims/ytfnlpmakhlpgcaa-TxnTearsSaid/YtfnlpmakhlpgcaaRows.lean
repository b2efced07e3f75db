/-
  No cell of these rows narrows 'for every input' (looked for: loops, veiled, ifaces, maps, wideKeys, modest, calm, conditions, laid).
  DERIVED. THE GIVEN ROWS OF THIS SEAT. 4 by the template 'for every input the law returns true; each argument reads behind the call as it read before'; 0 by the template 'total and deterministic' (their statements: YtfnlpmakhlpgcaaTotals.lean).
  GIVEN WITH THE SEED: the statements are not yours to turn. If you find one false, say at which input.
  Laid BY PROGRAM, IN A SANDBOX (cutbox-rows.mjs): the forced cells as the released guide's own fill.sh prints them over the translation 116cb8d32c9fbefc… (all of the seat's roots in one cut). By AI agents, Wed Nov 11 2026. No macro, syntax, notation, axiom, sorry.
-/
import Derived.Test.YtfnlpmakhlpgcaaChecked
import GoSem.Claim
import GoSem.ClaimJoined
import GoSem.ClaimMapViews
import Derived.JoinedTies
import Derived.KernelRfl
namespace Go.Proofs.Ytfnlpmakhlpgcaa
/- THE CELL 'sum', in the pinned program and in every row, IS THE sha256 OF THE DUMP (.gsa) THAT YtfnlpmakhlpgcaaProg.lean LOADS. Nothing in Lean hashes anything: it is a label: what it is worth is what the hold of that sum in a sandbox is worth. -/
noncomputable def Try.pinned : Pinned := { name := "ytfnlpmakhlpgcaa", sum := "116cb8d32c9fbefcd7b3edb8f57452d30a2288f50980b5ea12559d8a7c381cf6", checked := Try.checked }
namespace Rows
def none {H : Type} : Left H := { results := [], args := [] }

/-- 'garderobelaw23.TxnNil': WHATEVER THE INPUT: true; the input reads as it did. -/
def txnNilSpec : ChangeSpec := { name := "txnNil", fn := fun _ => fun
  | [d1, d2, d3] => { results := [.lit (.bool true)], args := [d1, d2, d3] }
  | _ => none }
def txnNilRow : OpenClaim := { program := "ytfnlpmakhlpgcaa", sum := "116cb8d32c9fbefcd7b3edb8f57452d30a2288f50980b5ea12559d8a7c381cf6", func := "garderobe/garderobelaw23.TxnNil", spec := "txnNil", unfollowed := true, recurses := true, apart := false }
def TxnNilSaid : Prop := txnNilRow.holds Try.pinned (OpenSpec.ofChange txnNilSpec)

/-- ITS FALSE NEIGHBOUR: 'it returns false'. Refute it at one input. -/
def txnNilWrong : ChangeSpec := { name := "txnNil", fn := fun _ => fun
  | [d1, d2, d3] => { results := [.lit (.bool false)], args := [d1, d2, d3] }
  | _ => none }
def TxnNilWrongFalsely : Prop := txnNilRow.holds Try.pinned (OpenSpec.ofChange txnNilWrong)

/-- 'garderobelaw23.TxnTears': WHATEVER THE INPUT: true; the input reads as it did. -/
def txnTearsSpec : ChangeSpec := { name := "txnTears", fn := fun _ => fun
  | [d1, d2, d3, d4, d5] => { results := [.lit (.bool true)], args := [d1, d2, d3, d4, d5] }
  | _ => none }
def txnTearsRow : OpenClaim := { program := "ytfnlpmakhlpgcaa", sum := "116cb8d32c9fbefcd7b3edb8f57452d30a2288f50980b5ea12559d8a7c381cf6", func := "garderobe/garderobelaw23.TxnTears", spec := "txnTears", unfollowed := true, recurses := true, apart := false }
def TxnTearsSaid : Prop := txnTearsRow.holds Try.pinned (OpenSpec.ofChange txnTearsSpec)

/-- ITS FALSE NEIGHBOUR: 'it returns false'. Refute it at one input. -/
def txnTearsWrong : ChangeSpec := { name := "txnTears", fn := fun _ => fun
  | [d1, d2, d3, d4, d5] => { results := [.lit (.bool false)], args := [d1, d2, d3, d4, d5] }
  | _ => none }
def TxnTearsWrongFalsely : Prop := txnTearsRow.holds Try.pinned (OpenSpec.ofChange txnTearsWrong)

/-- 'garderobelaw23.TxnOne': WHATEVER THE INPUT: true; the input reads as it did. -/
def txnOneSpec : ChangeSpec := { name := "txnOne", fn := fun _ => fun
  | [d1, d2, d3, d4, d5] => { results := [.lit (.bool true)], args := [d1, d2, d3, d4, d5] }
  | _ => none }
def txnOneRow : OpenClaim := { program := "ytfnlpmakhlpgcaa", sum := "116cb8d32c9fbefcd7b3edb8f57452d30a2288f50980b5ea12559d8a7c381cf6", func := "garderobe/garderobelaw23.TxnOne", spec := "txnOne", unfollowed := true, recurses := true, apart := false }
def TxnOneSaid : Prop := txnOneRow.holds Try.pinned (OpenSpec.ofChange txnOneSpec)

/-- ITS FALSE NEIGHBOUR: 'it returns false'. Refute it at one input. -/
def txnOneWrong : ChangeSpec := { name := "txnOne", fn := fun _ => fun
  | [d1, d2, d3, d4, d5] => { results := [.lit (.bool false)], args := [d1, d2, d3, d4, d5] }
  | _ => none }
def TxnOneWrongFalsely : Prop := txnOneRow.holds Try.pinned (OpenSpec.ofChange txnOneWrong)

/-- 'garderobelaw23.TxnAborts': WHATEVER THE INPUT: true; the input reads as it did. -/
def txnAbortsSpec : ChangeSpec := { name := "txnAborts", fn := fun _ => fun
  | [d1, d2, d3, d4] => { results := [.lit (.bool true)], args := [d1, d2, d3, d4] }
  | _ => none }
def txnAbortsRow : OpenClaim := { program := "ytfnlpmakhlpgcaa", sum := "116cb8d32c9fbefcd7b3edb8f57452d30a2288f50980b5ea12559d8a7c381cf6", func := "garderobe/garderobelaw23.TxnAborts", spec := "txnAborts", unfollowed := true, recurses := true, apart := false }
def TxnAbortsSaid : Prop := txnAbortsRow.holds Try.pinned (OpenSpec.ofChange txnAbortsSpec)

/-- ITS FALSE NEIGHBOUR: 'it returns false'. Refute it at one input. -/
def txnAbortsWrong : ChangeSpec := { name := "txnAborts", fn := fun _ => fun
  | [d1, d2, d3, d4] => { results := [.lit (.bool false)], args := [d1, d2, d3, d4] }
  | _ => none }
def TxnAbortsWrongFalsely : Prop := txnAbortsRow.holds Try.pinned (OpenSpec.ofChange txnAbortsWrong)

/- THE SECOND FORM. 'bulk': how many values and letters a reading holds, each counted each time it is reached (what is shared counts as often as it is met; a slice's spare places count too). A statement '..UptoSaid' is the law's where the arguments, and the package variables that the reading takes, are together of bulk at most 1048576: NARROWER than '..Said'. Prove '..Said' where nothing that the law and all that it calls make is longer than what came in: it says more and counts as full. Else prove '..UptoSaid'. A law counts once. -/
mutual
def uptoBulk {H : Type} : DataW H → Nat
  | .lit (.string bytes) => bytes.length + 1
  | .lit _ => 1
  | .nil => 1
  | .ptr d => uptoBulk d + 1
  | .slice elems spare => uptoBulkAll elems + uptoBulkAll spare + 1
  | .agg parts => uptoBulkAll parts + 1
  | .iface _ d => uptoBulk d + 1
  | .map entries => uptoBulkEntries entries + 1
  | .held _ => 1
def uptoBulkAll {H : Type} : List (DataW H) → Nat
  | [] => 0
  | d :: r => uptoBulk d + uptoBulkAll r
def uptoBulkEntries {H : Type} : List (Lit × DataW H) → Nat
  | [] => 0
  | x :: r => uptoBulkEntry x + uptoBulkEntries r
def uptoBulkEntry {H : Type} : Lit × DataW H → Nat
  | (.string bytes, d) => bytes.length + uptoBulk d + 1
  | (_, d) => uptoBulk d + 1
 end
def uptoSmall : (H : Type) → List (DataW H) → Bool := fun _ ds => decide (uptoBulkAll ds ≤ 1048576)
def OpenSpec.upto (s : _root_.Go.ChangeSpec) : _root_.Go.OpenSpec := { _root_.Go.OpenSpec.ofChange s with cond := some uptoSmall }

/-- 'garderobelaw23.TxnNil', WHERE WHAT IT READS IS OF BULK AT MOST 1048576: true; the input reads as it did. -/
def txnNilUptoRow : OpenClaim := { program := "ytfnlpmakhlpgcaa", sum := "116cb8d32c9fbefcd7b3edb8f57452d30a2288f50980b5ea12559d8a7c381cf6", func := "garderobe/garderobelaw23.TxnNil", spec := "txnNil", unfollowed := true, recurses := true, apart := false, narrowed := true }
def TxnNilUptoSaid : Prop := txnNilUptoRow.holds Try.pinned (OpenSpec.upto txnNilSpec)

/-- 'garderobelaw23.TxnTears', WHERE WHAT IT READS IS OF BULK AT MOST 1048576: true; the input reads as it did. -/
def txnTearsUptoRow : OpenClaim := { program := "ytfnlpmakhlpgcaa", sum := "116cb8d32c9fbefcd7b3edb8f57452d30a2288f50980b5ea12559d8a7c381cf6", func := "garderobe/garderobelaw23.TxnTears", spec := "txnTears", unfollowed := true, recurses := true, apart := false, narrowed := true }
def TxnTearsUptoSaid : Prop := txnTearsUptoRow.holds Try.pinned (OpenSpec.upto txnTearsSpec)

/-- 'garderobelaw23.TxnOne', WHERE WHAT IT READS IS OF BULK AT MOST 1048576: true; the input reads as it did. -/
def txnOneUptoRow : OpenClaim := { program := "ytfnlpmakhlpgcaa", sum := "116cb8d32c9fbefcd7b3edb8f57452d30a2288f50980b5ea12559d8a7c381cf6", func := "garderobe/garderobelaw23.TxnOne", spec := "txnOne", unfollowed := true, recurses := true, apart := false, narrowed := true }
def TxnOneUptoSaid : Prop := txnOneUptoRow.holds Try.pinned (OpenSpec.upto txnOneSpec)

/-- 'garderobelaw23.TxnAborts', WHERE WHAT IT READS IS OF BULK AT MOST 1048576: true; the input reads as it did. -/
def txnAbortsUptoRow : OpenClaim := { program := "ytfnlpmakhlpgcaa", sum := "116cb8d32c9fbefcd7b3edb8f57452d30a2288f50980b5ea12559d8a7c381cf6", func := "garderobe/garderobelaw23.TxnAborts", spec := "txnAborts", unfollowed := true, recurses := true, apart := false, narrowed := true }
def TxnAbortsUptoSaid : Prop := txnAbortsUptoRow.holds Try.pinned (OpenSpec.upto txnAbortsSpec)

end Rows
end Go.Proofs.Ytfnlpmakhlpgcaa
