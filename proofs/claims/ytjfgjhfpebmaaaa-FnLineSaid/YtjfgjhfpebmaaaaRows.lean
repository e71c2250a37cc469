/-
  No cell of these rows narrows 'for every input' (looked for: loops, veiled, ifaces, maps, wideKeys, modest, calm, conditions, laid).
  DERIVED. THE GIVEN ROWS OF THIS SEAT. 5 by the template 'for every input the law returns true; each argument reads behind the call as it read before'; 0 by the template 'total and deterministic' (their statements: YtjfgjhfpebmaaaaTotals.lean).
  GIVEN WITH THE SEED: the statements are not yours to turn. If you find one false, say at which input.
  Laid BY PROGRAM, IN A SANDBOX (cutbox-rows.mjs): the forced cells as the released guide's own fill.sh prints them over the translation a11a870363cd59ed… (all of the seat's roots in one cut). By AI agents, Wed Nov 11 2026. No macro, syntax, notation, axiom, sorry.
-/
import Derived.Test.YtjfgjhfpebmaaaaChecked
import GoSem.Claim
import GoSem.ClaimJoined
import GoSem.ClaimMapViews
import Derived.JoinedTies
import Derived.KernelRfl
namespace Go.Proofs.Ytjfgjhfpebmaaaa
/- THE CELL 'sum', in the pinned program and in every row, IS THE sha256 OF THE DUMP (.gsa) THAT YtjfgjhfpebmaaaaProg.lean LOADS. Nothing in Lean hashes anything: it is a label: what it is worth is what the hold of that sum in a sandbox is worth. -/
noncomputable def Try.pinned : Pinned := { name := "ytjfgjhfpebmaaaa", sum := "a11a870363cd59ed1348ed43d7ceb0120d86935b3b133f9947eca3c7a814b324", checked := Try.checked }
namespace Rows
def none {H : Type} : Left H := { results := [], args := [] }

/-- 'laws.FnExactLineFree': WHATEVER THE INPUT: true; the input reads as it did. -/
def fnExactLineFreeSpec : ChangeSpec := { name := "fnExactLineFree", fn := fun _ => fun
  | [d] => { results := [.lit (.bool true)], args := [d] }
  | _ => none }
def fnExactLineFreeRow : OpenClaim := { program := "ytjfgjhfpebmaaaa", sum := "a11a870363cd59ed1348ed43d7ceb0120d86935b3b133f9947eca3c7a814b324", func := "loop.example/g00198/laws.FnExactLineFree", spec := "fnExactLineFree", apart := false }
def FnExactLineFreeSaid : Prop := fnExactLineFreeRow.holds Try.pinned (OpenSpec.ofChange fnExactLineFreeSpec)

/-- ITS FALSE NEIGHBOUR: 'it returns false'. Refute it at one input. -/
def fnExactLineFreeWrong : ChangeSpec := { name := "fnExactLineFree", fn := fun _ => fun
  | [d] => { results := [.lit (.bool false)], args := [d] }
  | _ => none }
def FnExactLineFreeWrongFalsely : Prop := fnExactLineFreeRow.holds Try.pinned (OpenSpec.ofChange fnExactLineFreeWrong)

/-- 'laws.FnExactLinePut': WHATEVER THE INPUT: true; the input reads as it did. -/
def fnExactLinePutSpec : ChangeSpec := { name := "fnExactLinePut", fn := fun _ => fun
  | [d1, d2] => { results := [.lit (.bool true)], args := [d1, d2] }
  | _ => none }
def fnExactLinePutRow : OpenClaim := { program := "ytjfgjhfpebmaaaa", sum := "a11a870363cd59ed1348ed43d7ceb0120d86935b3b133f9947eca3c7a814b324", func := "loop.example/g00198/laws.FnExactLinePut", spec := "fnExactLinePut", apart := false }
def FnExactLinePutSaid : Prop := fnExactLinePutRow.holds Try.pinned (OpenSpec.ofChange fnExactLinePutSpec)

/-- ITS FALSE NEIGHBOUR: 'it returns false'. Refute it at one input. -/
def fnExactLinePutWrong : ChangeSpec := { name := "fnExactLinePut", fn := fun _ => fun
  | [d1, d2] => { results := [.lit (.bool false)], args := [d1, d2] }
  | _ => none }
def FnExactLinePutWrongFalsely : Prop := fnExactLinePutRow.holds Try.pinned (OpenSpec.ofChange fnExactLinePutWrong)

/-- 'laws.FnExactLineTake': WHATEVER THE INPUT: true; the input reads as it did. -/
def fnExactLineTakeSpec : ChangeSpec := { name := "fnExactLineTake", fn := fun _ => fun
  | [d1, d2] => { results := [.lit (.bool true)], args := [d1, d2] }
  | _ => none }
def fnExactLineTakeRow : OpenClaim := { program := "ytjfgjhfpebmaaaa", sum := "a11a870363cd59ed1348ed43d7ceb0120d86935b3b133f9947eca3c7a814b324", func := "loop.example/g00198/laws.FnExactLineTake", spec := "fnExactLineTake", apart := false }
def FnExactLineTakeSaid : Prop := fnExactLineTakeRow.holds Try.pinned (OpenSpec.ofChange fnExactLineTakeSpec)

/-- ITS FALSE NEIGHBOUR: 'it returns false'. Refute it at one input. -/
def fnExactLineTakeWrong : ChangeSpec := { name := "fnExactLineTake", fn := fun _ => fun
  | [d1, d2] => { results := [.lit (.bool false)], args := [d1, d2] }
  | _ => none }
def FnExactLineTakeWrongFalsely : Prop := fnExactLineTakeRow.holds Try.pinned (OpenSpec.ofChange fnExactLineTakeWrong)

/-- 'laws.FnExactPieces': WHATEVER THE INPUT: true; the input reads as it did. -/
def fnExactPiecesSpec : ChangeSpec := { name := "fnExactPieces", fn := fun _ => fun
  | [d1, d2] => { results := [.lit (.bool true)], args := [d1, d2] }
  | _ => none }
def fnExactPiecesRow : OpenClaim := { program := "ytjfgjhfpebmaaaa", sum := "a11a870363cd59ed1348ed43d7ceb0120d86935b3b133f9947eca3c7a814b324", func := "loop.example/g00198/laws.FnExactPieces", spec := "fnExactPieces", apart := false }
def FnExactPiecesSaid : Prop := fnExactPiecesRow.holds Try.pinned (OpenSpec.ofChange fnExactPiecesSpec)

/-- ITS FALSE NEIGHBOUR: 'it returns false'. Refute it at one input. -/
def fnExactPiecesWrong : ChangeSpec := { name := "fnExactPieces", fn := fun _ => fun
  | [d1, d2] => { results := [.lit (.bool false)], args := [d1, d2] }
  | _ => none }
def FnExactPiecesWrongFalsely : Prop := fnExactPiecesRow.holds Try.pinned (OpenSpec.ofChange fnExactPiecesWrong)

/-- 'laws.FnLine': WHATEVER THE INPUT: true; the input reads as it did. -/
def fnLineSpec : ChangeSpec := { name := "fnLine", fn := fun _ => fun
  | [d] => { results := [.lit (.bool true)], args := [d] }
  | _ => none }
def fnLineRow : OpenClaim := { program := "ytjfgjhfpebmaaaa", sum := "a11a870363cd59ed1348ed43d7ceb0120d86935b3b133f9947eca3c7a814b324", func := "loop.example/g00198/laws.FnLine", spec := "fnLine", apart := false }
def FnLineSaid : Prop := fnLineRow.holds Try.pinned (OpenSpec.ofChange fnLineSpec)

/-- ITS FALSE NEIGHBOUR: 'it returns false'. Refute it at one input. -/
def fnLineWrong : ChangeSpec := { name := "fnLine", fn := fun _ => fun
  | [d] => { results := [.lit (.bool false)], args := [d] }
  | _ => none }
def FnLineWrongFalsely : Prop := fnLineRow.holds Try.pinned (OpenSpec.ofChange fnLineWrong)

/- THE SECOND FORM. 'bulk': how many values and letters a reading holds, each counted each time it is reached (what is shared counts as often as it is met; a slice's spare places count too). A statement '..UptoSaid' is the law's where the arguments, and the package variables that the reading takes, are together of bulk at most 1048576: NARROWER than '..Said'. Prove '..Said' where nothing that the law and all that it calls make is longer than what came in: it says more and counts as full. Else prove '..UptoSaid'. A law counts once. -/
mutual
def uptoBulk {H : Type} : DataW H → Nat
  | .lit (.string bytes) => bytes.length + 1
  | .lit _ => 1
  | .nil => 1
  | .ptr d => uptoBulk d + 1
  | .slice elems spare => uptoBulkAll elems + uptoBulkAll spare + 1
  | .agg parts => uptoBulkAll parts + 1
  | .iface _ d => uptoBulk d + 1
  | .map entries => uptoBulkEntries entries + 1
  | .held _ => 1
def uptoBulkAll {H : Type} : List (DataW H) → Nat
  | [] => 0
  | d :: r => uptoBulk d + uptoBulkAll r
def uptoBulkEntries {H : Type} : List (Lit × DataW H) → Nat
  | [] => 0
  | x :: r => uptoBulkEntry x + uptoBulkEntries r
def uptoBulkEntry {H : Type} : Lit × DataW H → Nat
  | (.string bytes, d) => bytes.length + uptoBulk d + 1
  | (_, d) => uptoBulk d + 1
 end
def uptoSmall : (H : Type) → List (DataW H) → Bool := fun _ ds => decide (uptoBulkAll ds ≤ 1048576)
def OpenSpec.upto (s : _root_.Go.ChangeSpec) : _root_.Go.OpenSpec := { _root_.Go.OpenSpec.ofChange s with cond := some uptoSmall }

/-- 'laws.FnExactLineFree', WHERE WHAT IT READS IS OF BULK AT MOST 1048576: true; the input reads as it did. -/
def fnExactLineFreeUptoRow : OpenClaim := { program := "ytjfgjhfpebmaaaa", sum := "a11a870363cd59ed1348ed43d7ceb0120d86935b3b133f9947eca3c7a814b324", func := "loop.example/g00198/laws.FnExactLineFree", spec := "fnExactLineFree", apart := false, narrowed := true }
def FnExactLineFreeUptoSaid : Prop := fnExactLineFreeUptoRow.holds Try.pinned (OpenSpec.upto fnExactLineFreeSpec)

/-- 'laws.FnExactLinePut', WHERE WHAT IT READS IS OF BULK AT MOST 1048576: true; the input reads as it did. -/
def fnExactLinePutUptoRow : OpenClaim := { program := "ytjfgjhfpebmaaaa", sum := "a11a870363cd59ed1348ed43d7ceb0120d86935b3b133f9947eca3c7a814b324", func := "loop.example/g00198/laws.FnExactLinePut", spec := "fnExactLinePut", apart := false, narrowed := true }
def FnExactLinePutUptoSaid : Prop := fnExactLinePutUptoRow.holds Try.pinned (OpenSpec.upto fnExactLinePutSpec)

/-- 'laws.FnExactLineTake', WHERE WHAT IT READS IS OF BULK AT MOST 1048576: true; the input reads as it did. -/
def fnExactLineTakeUptoRow : OpenClaim := { program := "ytjfgjhfpebmaaaa", sum := "a11a870363cd59ed1348ed43d7ceb0120d86935b3b133f9947eca3c7a814b324", func := "loop.example/g00198/laws.FnExactLineTake", spec := "fnExactLineTake", apart := false, narrowed := true }
def FnExactLineTakeUptoSaid : Prop := fnExactLineTakeUptoRow.holds Try.pinned (OpenSpec.upto fnExactLineTakeSpec)

/-- 'laws.FnExactPieces', WHERE WHAT IT READS IS OF BULK AT MOST 1048576: true; the input reads as it did. -/
def fnExactPiecesUptoRow : OpenClaim := { program := "ytjfgjhfpebmaaaa", sum := "a11a870363cd59ed1348ed43d7ceb0120d86935b3b133f9947eca3c7a814b324", func := "loop.example/g00198/laws.FnExactPieces", spec := "fnExactPieces", apart := false, narrowed := true }
def FnExactPiecesUptoSaid : Prop := fnExactPiecesUptoRow.holds Try.pinned (OpenSpec.upto fnExactPiecesSpec)

/-- 'laws.FnLine', WHERE WHAT IT READS IS OF BULK AT MOST 1048576: true; the input reads as it did. -/
def fnLineUptoRow : OpenClaim := { program := "ytjfgjhfpebmaaaa", sum := "a11a870363cd59ed1348ed43d7ceb0120d86935b3b133f9947eca3c7a814b324", func := "loop.example/g00198/laws.FnLine", spec := "fnLine", apart := false, narrowed := true }
def FnLineUptoSaid : Prop := fnLineUptoRow.holds Try.pinned (OpenSpec.upto fnLineSpec)

end Rows
end Go.Proofs.Ytjfgjhfpebmaaaa
