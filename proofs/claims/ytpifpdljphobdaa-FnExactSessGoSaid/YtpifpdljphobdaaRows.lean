/-
  No cell of these rows narrows 'for every input' (looked for: loops, veiled, ifaces, maps, wideKeys, modest, calm, conditions, laid).
  DERIVED. THE GIVEN ROWS OF THIS SEAT. 4 by the template 'for every input the law returns true; each argument reads behind the call as it read before'; 0 by the template 'total and deterministic' (their statements: YtpifpdljphobdaaTotals.lean).
  GIVEN WITH THE SEED: the statements are not yours to turn. If you find one false, say at which input.
  Laid BY PROGRAM, IN A SANDBOX (cutbox-rows.mjs): the forced cells as the released guide's own fill.sh prints them over the translation 00604634a3e02ace… (all of the seat's roots in one cut). By AI agents, Wed Nov 11 2026. No macro, syntax, notation, axiom, sorry.
-/
import Derived.Test.YtpifpdljphobdaaChecked
import GoSem.Claim
import GoSem.ClaimJoined
import GoSem.ClaimMapViews
import Derived.JoinedTies
import Derived.KernelRfl
namespace Go.Proofs.Ytpifpdljphobdaa
/- THE CELL 'sum', in the pinned program and in every row, IS THE sha256 OF THE DUMP (.gsa) THAT YtpifpdljphobdaaProg.lean LOADS. Nothing in Lean hashes anything: it is a label: what it is worth is what the hold of that sum in a sandbox is worth. -/
noncomputable def Try.pinned : Pinned := { name := "ytpifpdljphobdaa", sum := "00604634a3e02ace9cc63931e51b9a818144979324b789aa9831fea178fdb58e", checked := Try.checked }
namespace Rows
def none {H : Type} : Left H := { results := [], args := [] }

/-- 'laws.FnExactSessOk': WHATEVER THE INPUT: true; the input reads as it did. -/
def fnExactSessOkSpec : ChangeSpec := { name := "fnExactSessOk", fn := fun _ => fun
  | [d1, d2] => { results := [.lit (.bool true)], args := [d1, d2] }
  | _ => none }
def fnExactSessOkRow : OpenClaim := { program := "ytpifpdljphobdaa", sum := "00604634a3e02ace9cc63931e51b9a818144979324b789aa9831fea178fdb58e", func := "loop.example/g00198/laws.FnExactSessOk", spec := "fnExactSessOk", unfollowed := true, recurses := true, apart := false }
def FnExactSessOkSaid : Prop := fnExactSessOkRow.holds Try.pinned (OpenSpec.ofChange fnExactSessOkSpec)

/-- ITS FALSE NEIGHBOUR: 'it returns false'. Refute it at one input. -/
def fnExactSessOkWrong : ChangeSpec := { name := "fnExactSessOk", fn := fun _ => fun
  | [d1, d2] => { results := [.lit (.bool false)], args := [d1, d2] }
  | _ => none }
def FnExactSessOkWrongFalsely : Prop := fnExactSessOkRow.holds Try.pinned (OpenSpec.ofChange fnExactSessOkWrong)

/-- 'laws.FnExactServerNew': WHATEVER THE INPUT: true; the input reads as it did. -/
def fnExactServerNewSpec : ChangeSpec := { name := "fnExactServerNew", fn := fun _ => fun
  | [d] => { results := [.lit (.bool true)], args := [d] }
  | _ => none }
def fnExactServerNewRow : OpenClaim := { program := "ytpifpdljphobdaa", sum := "00604634a3e02ace9cc63931e51b9a818144979324b789aa9831fea178fdb58e", func := "loop.example/g00198/laws.FnExactServerNew", spec := "fnExactServerNew", apart := false }
def FnExactServerNewSaid : Prop := fnExactServerNewRow.holds Try.pinned (OpenSpec.ofChange fnExactServerNewSpec)

/-- ITS FALSE NEIGHBOUR: 'it returns false'. Refute it at one input. -/
def fnExactServerNewWrong : ChangeSpec := { name := "fnExactServerNew", fn := fun _ => fun
  | [d] => { results := [.lit (.bool false)], args := [d] }
  | _ => none }
def FnExactServerNewWrongFalsely : Prop := fnExactServerNewRow.holds Try.pinned (OpenSpec.ofChange fnExactServerNewWrong)

/-- 'laws.FnExactSessGo': WHATEVER THE INPUT: true; the input reads as it did. -/
def fnExactSessGoSpec : ChangeSpec := { name := "fnExactSessGo", fn := fun _ => fun
  | [d1, d2] => { results := [.lit (.bool true)], args := [d1, d2] }
  | _ => none }
def fnExactSessGoRow : OpenClaim := { program := "ytpifpdljphobdaa", sum := "00604634a3e02ace9cc63931e51b9a818144979324b789aa9831fea178fdb58e", func := "loop.example/g00198/laws.FnExactSessGo", spec := "fnExactSessGo", inPlace := ["slices.overlaps[loop.example/g00198/impl.Row]", "slices.overlaps[loop.example/g00198/impl.Kid]"], unfollowed := true, recurses := true, apart := false }
def FnExactSessGoSaid : Prop := fnExactSessGoRow.holds Try.pinned (OpenSpec.ofChange fnExactSessGoSpec)

/-- ITS FALSE NEIGHBOUR: 'it returns false'. Refute it at one input. -/
def fnExactSessGoWrong : ChangeSpec := { name := "fnExactSessGo", fn := fun _ => fun
  | [d1, d2] => { results := [.lit (.bool false)], args := [d1, d2] }
  | _ => none }
def FnExactSessGoWrongFalsely : Prop := fnExactSessGoRow.holds Try.pinned (OpenSpec.ofChange fnExactSessGoWrong)

/-- 'laws.FnExactSessNew': WHATEVER THE INPUT: true; the input reads as it did. -/
def fnExactSessNewSpec : ChangeSpec := { name := "fnExactSessNew", fn := fun _ => fun
  | [d1, d2] => { results := [.lit (.bool true)], args := [d1, d2] }
  | _ => none }
def fnExactSessNewRow : OpenClaim := { program := "ytpifpdljphobdaa", sum := "00604634a3e02ace9cc63931e51b9a818144979324b789aa9831fea178fdb58e", func := "loop.example/g00198/laws.FnExactSessNew", spec := "fnExactSessNew", inPlace := ["slices.overlaps[loop.example/g00198/impl.Kid]"], unfollowed := true, recurses := true, apart := false }
def FnExactSessNewSaid : Prop := fnExactSessNewRow.holds Try.pinned (OpenSpec.ofChange fnExactSessNewSpec)

/-- ITS FALSE NEIGHBOUR: 'it returns false'. Refute it at one input. -/
def fnExactSessNewWrong : ChangeSpec := { name := "fnExactSessNew", fn := fun _ => fun
  | [d1, d2] => { results := [.lit (.bool false)], args := [d1, d2] }
  | _ => none }
def FnExactSessNewWrongFalsely : Prop := fnExactSessNewRow.holds Try.pinned (OpenSpec.ofChange fnExactSessNewWrong)

/- THE SECOND FORM. 'bulk': how many values and letters a reading holds, each counted each time it is reached (what is shared counts as often as it is met; a slice's spare places count too). A statement '..UptoSaid' is the law's where the arguments, and the package variables that the reading takes, are together of bulk at most 1048576: NARROWER than '..Said'. Prove '..Said' where nothing that the law and all that it calls make is longer than what came in: it says more and counts as full. Else prove '..UptoSaid'. A law counts once. -/
mutual
def uptoBulk {H : Type} : DataW H → Nat
  | .lit (.string bytes) => bytes.length + 1
  | .lit _ => 1
  | .nil => 1
  | .ptr d => uptoBulk d + 1
  | .slice elems spare => uptoBulkAll elems + uptoBulkAll spare + 1
  | .agg parts => uptoBulkAll parts + 1
  | .iface _ d => uptoBulk d + 1
  | .map entries => uptoBulkEntries entries + 1
  | .held _ => 1
def uptoBulkAll {H : Type} : List (DataW H) → Nat
  | [] => 0
  | d :: r => uptoBulk d + uptoBulkAll r
def uptoBulkEntries {H : Type} : List (Lit × DataW H) → Nat
  | [] => 0
  | x :: r => uptoBulkEntry x + uptoBulkEntries r
def uptoBulkEntry {H : Type} : Lit × DataW H → Nat
  | (.string bytes, d) => bytes.length + uptoBulk d + 1
  | (_, d) => uptoBulk d + 1
 end
def uptoSmall : (H : Type) → List (DataW H) → Bool := fun _ ds => decide (uptoBulkAll ds ≤ 1048576)
def OpenSpec.upto (s : _root_.Go.ChangeSpec) : _root_.Go.OpenSpec := { _root_.Go.OpenSpec.ofChange s with cond := some uptoSmall }

/-- 'laws.FnExactSessOk', WHERE WHAT IT READS IS OF BULK AT MOST 1048576: true; the input reads as it did. -/
def fnExactSessOkUptoRow : OpenClaim := { program := "ytpifpdljphobdaa", sum := "00604634a3e02ace9cc63931e51b9a818144979324b789aa9831fea178fdb58e", func := "loop.example/g00198/laws.FnExactSessOk", spec := "fnExactSessOk", unfollowed := true, recurses := true, apart := false, narrowed := true }
def FnExactSessOkUptoSaid : Prop := fnExactSessOkUptoRow.holds Try.pinned (OpenSpec.upto fnExactSessOkSpec)

/-- 'laws.FnExactServerNew', WHERE WHAT IT READS IS OF BULK AT MOST 1048576: true; the input reads as it did. -/
def fnExactServerNewUptoRow : OpenClaim := { program := "ytpifpdljphobdaa", sum := "00604634a3e02ace9cc63931e51b9a818144979324b789aa9831fea178fdb58e", func := "loop.example/g00198/laws.FnExactServerNew", spec := "fnExactServerNew", apart := false, narrowed := true }
def FnExactServerNewUptoSaid : Prop := fnExactServerNewUptoRow.holds Try.pinned (OpenSpec.upto fnExactServerNewSpec)

/-- 'laws.FnExactSessGo', WHERE WHAT IT READS IS OF BULK AT MOST 1048576: true; the input reads as it did. -/
def fnExactSessGoUptoRow : OpenClaim := { program := "ytpifpdljphobdaa", sum := "00604634a3e02ace9cc63931e51b9a818144979324b789aa9831fea178fdb58e", func := "loop.example/g00198/laws.FnExactSessGo", spec := "fnExactSessGo", inPlace := ["slices.overlaps[loop.example/g00198/impl.Row]", "slices.overlaps[loop.example/g00198/impl.Kid]"], unfollowed := true, recurses := true, apart := false, narrowed := true }
def FnExactSessGoUptoSaid : Prop := fnExactSessGoUptoRow.holds Try.pinned (OpenSpec.upto fnExactSessGoSpec)

/-- 'laws.FnExactSessNew', WHERE WHAT IT READS IS OF BULK AT MOST 1048576: true; the input reads as it did. -/
def fnExactSessNewUptoRow : OpenClaim := { program := "ytpifpdljphobdaa", sum := "00604634a3e02ace9cc63931e51b9a818144979324b789aa9831fea178fdb58e", func := "loop.example/g00198/laws.FnExactSessNew", spec := "fnExactSessNew", inPlace := ["slices.overlaps[loop.example/g00198/impl.Kid]"], unfollowed := true, recurses := true, apart := false, narrowed := true }
def FnExactSessNewUptoSaid : Prop := fnExactSessNewUptoRow.holds Try.pinned (OpenSpec.upto fnExactSessNewSpec)

end Rows
end Go.Proofs.Ytpifpdljphobdaa
