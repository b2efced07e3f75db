/-
  No cell of these rows narrows 'for every input' (looked for: loops, veiled, ifaces, maps, wideKeys, modest, calm, conditions, laid).
  DERIVED. THE GIVEN ROWS OF THIS SEAT. 3 by the template 'for every input the law returns true; each argument reads behind the call as it read before'; 0 by the template 'total and deterministic' (their statements: YtacfnlokflgpeaaTotals.lean).
  GIVEN WITH THE SEED: the statements are not yours to turn. If you find one false, say at which input.
  Laid BY PROGRAM, IN A SANDBOX (cutbox-rows.mjs): the forced cells as the released guide's own fill.sh prints them over the translation dfa3a4af9c019d6f… (all of the seat's roots in one cut). By AI agents, Wed Nov 11 2026. No macro, syntax, notation, axiom, sorry.
-/
import Derived.Test.YtacfnlokflgpeaaChecked
import GoSem.Claim
import GoSem.ClaimJoined
import GoSem.ClaimMapViews
import Derived.JoinedTies
import Derived.KernelRfl
namespace Go.Proofs.Ytacfnlokflgpeaa
/- THE CELL 'sum', in the pinned program and in every row, IS THE sha256 OF THE DUMP (.gsa) THAT YtacfnlokflgpeaaProg.lean LOADS. Nothing in Lean hashes anything: it is a label: what it is worth is what the hold of that sum in a sandbox is worth. -/
noncomputable def Try.pinned : Pinned := { name := "ytacfnlokflgpeaa", sum := "dfa3a4af9c019d6fbfcea2f22621e8d854f359507204c0e282bee31c8fbe072e", checked := Try.checked }
namespace Rows
def none {H : Type} : Left H := { results := [], args := [] }

/-- 'garderobelaw22.NvmCut': WHATEVER THE INPUT: true; the input reads as it did. -/
def nvmCutSpec : ChangeSpec := { name := "nvmCut", fn := fun _ => fun
  | [d1, d2] => { results := [.lit (.bool true)], args := [d1, d2] }
  | _ => none }
def nvmCutRow : OpenClaim := { program := "ytacfnlokflgpeaa", sum := "dfa3a4af9c019d6fbfcea2f22621e8d854f359507204c0e282bee31c8fbe072e", func := "garderobe/garderobelaw22.NvmCut", spec := "nvmCut", apart := false }
def NvmCutSaid : Prop := nvmCutRow.holds Try.pinned (OpenSpec.ofChange nvmCutSpec)

/-- ITS FALSE NEIGHBOUR: 'it returns false'. Refute it at one input. -/
def nvmCutWrong : ChangeSpec := { name := "nvmCut", fn := fun _ => fun
  | [d1, d2] => { results := [.lit (.bool false)], args := [d1, d2] }
  | _ => none }
def NvmCutWrongFalsely : Prop := nvmCutRow.holds Try.pinned (OpenSpec.ofChange nvmCutWrong)

/-- 'garderobelaw22.NvmOne': WHATEVER THE INPUT: true; the input reads as it did. -/
def nvmOneSpec : ChangeSpec := { name := "nvmOne", fn := fun _ => fun
  | [d1, d2, d3, d4] => { results := [.lit (.bool true)], args := [d1, d2, d3, d4] }
  | _ => none }
def nvmOneRow : OpenClaim := { program := "ytacfnlokflgpeaa", sum := "dfa3a4af9c019d6fbfcea2f22621e8d854f359507204c0e282bee31c8fbe072e", func := "garderobe/garderobelaw22.NvmOne", spec := "nvmOne", apart := false }
def NvmOneSaid : Prop := nvmOneRow.holds Try.pinned (OpenSpec.ofChange nvmOneSpec)

/-- ITS FALSE NEIGHBOUR: 'it returns false'. Refute it at one input. -/
def nvmOneWrong : ChangeSpec := { name := "nvmOne", fn := fun _ => fun
  | [d1, d2, d3, d4] => { results := [.lit (.bool false)], args := [d1, d2, d3, d4] }
  | _ => none }
def NvmOneWrongFalsely : Prop := nvmOneRow.holds Try.pinned (OpenSpec.ofChange nvmOneWrong)

/-- 'garderobelaw22.NvmNil': WHATEVER THE INPUT: true; the input reads as it did. -/
def nvmNilSpec : ChangeSpec := { name := "nvmNil", fn := fun _ => fun
  | [d1, d2, d3] => { results := [.lit (.bool true)], args := [d1, d2, d3] }
  | _ => none }
def nvmNilRow : OpenClaim := { program := "ytacfnlokflgpeaa", sum := "dfa3a4af9c019d6fbfcea2f22621e8d854f359507204c0e282bee31c8fbe072e", func := "garderobe/garderobelaw22.NvmNil", spec := "nvmNil", apart := false }
def NvmNilSaid : Prop := nvmNilRow.holds Try.pinned (OpenSpec.ofChange nvmNilSpec)

/-- ITS FALSE NEIGHBOUR: 'it returns false'. Refute it at one input. -/
def nvmNilWrong : ChangeSpec := { name := "nvmNil", fn := fun _ => fun
  | [d1, d2, d3] => { results := [.lit (.bool false)], args := [d1, d2, d3] }
  | _ => none }
def NvmNilWrongFalsely : Prop := nvmNilRow.holds Try.pinned (OpenSpec.ofChange nvmNilWrong)

/- THE SECOND FORM. 'bulk': how many values and letters a reading holds, each counted each time it is reached (what is shared counts as often as it is met; a slice's spare places count too). A statement '..UptoSaid' is the law's where the arguments, and the package variables that the reading takes, are together of bulk at most 1048576: NARROWER than '..Said'. Prove '..Said' where nothing that the law and all that it calls make is longer than what came in: it says more and counts as full. Else prove '..UptoSaid'. A law counts once. -/
mutual
def uptoBulk {H : Type} : DataW H → Nat
  | .lit (.string bytes) => bytes.length + 1
  | .lit _ => 1
  | .nil => 1
  | .ptr d => uptoBulk d + 1
  | .slice elems spare => uptoBulkAll elems + uptoBulkAll spare + 1
  | .agg parts => uptoBulkAll parts + 1
  | .iface _ d => uptoBulk d + 1
  | .map entries => uptoBulkEntries entries + 1
  | .held _ => 1
def uptoBulkAll {H : Type} : List (DataW H) → Nat
  | [] => 0
  | d :: r => uptoBulk d + uptoBulkAll r
def uptoBulkEntries {H : Type} : List (Lit × DataW H) → Nat
  | [] => 0
  | x :: r => uptoBulkEntry x + uptoBulkEntries r
def uptoBulkEntry {H : Type} : Lit × DataW H → Nat
  | (.string bytes, d) => bytes.length + uptoBulk d + 1
  | (_, d) => uptoBulk d + 1
 end
def uptoSmall : (H : Type) → List (DataW H) → Bool := fun _ ds => decide (uptoBulkAll ds ≤ 1048576)
def OpenSpec.upto (s : _root_.Go.ChangeSpec) : _root_.Go.OpenSpec := { _root_.Go.OpenSpec.ofChange s with cond := some uptoSmall }

/-- 'garderobelaw22.NvmCut', WHERE WHAT IT READS IS OF BULK AT MOST 1048576: true; the input reads as it did. -/
def nvmCutUptoRow : OpenClaim := { program := "ytacfnlokflgpeaa", sum := "dfa3a4af9c019d6fbfcea2f22621e8d854f359507204c0e282bee31c8fbe072e", func := "garderobe/garderobelaw22.NvmCut", spec := "nvmCut", apart := false, narrowed := true }
def NvmCutUptoSaid : Prop := nvmCutUptoRow.holds Try.pinned (OpenSpec.upto nvmCutSpec)

/-- 'garderobelaw22.NvmOne', WHERE WHAT IT READS IS OF BULK AT MOST 1048576: true; the input reads as it did. -/
def nvmOneUptoRow : OpenClaim := { program := "ytacfnlokflgpeaa", sum := "dfa3a4af9c019d6fbfcea2f22621e8d854f359507204c0e282bee31c8fbe072e", func := "garderobe/garderobelaw22.NvmOne", spec := "nvmOne", apart := false, narrowed := true }
def NvmOneUptoSaid : Prop := nvmOneUptoRow.holds Try.pinned (OpenSpec.upto nvmOneSpec)

/-- 'garderobelaw22.NvmNil', WHERE WHAT IT READS IS OF BULK AT MOST 1048576: true; the input reads as it did. -/
def nvmNilUptoRow : OpenClaim := { program := "ytacfnlokflgpeaa", sum := "dfa3a4af9c019d6fbfcea2f22621e8d854f359507204c0e282bee31c8fbe072e", func := "garderobe/garderobelaw22.NvmNil", spec := "nvmNil", apart := false, narrowed := true }
def NvmNilUptoSaid : Prop := nvmNilUptoRow.holds Try.pinned (OpenSpec.upto nvmNilSpec)

end Rows
end Go.Proofs.Ytacfnlokflgpeaa
