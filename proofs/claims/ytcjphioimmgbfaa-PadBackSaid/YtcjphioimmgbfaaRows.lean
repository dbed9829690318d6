/-
  No cell of these rows narrows 'for every input' (looked for: loops, veiled, ifaces, maps, wideKeys, modest, calm, conditions, laid).
  DERIVED. THE GIVEN ROWS OF THIS SEAT. 8 by the template 'for every input the law returns true; each argument reads behind the call as it read before'; 0 by the template 'total and deterministic' (their statements: YtcjphioimmgbfaaTotals.lean).
  GIVEN WITH THE SEED: the statements are not yours to turn. If you find one false, say at which input.
  Laid BY PROGRAM, IN A SANDBOX (cutbox-rows.mjs): the forced cells as the released guide's own fill.sh prints them over the translation a0cba94a4dc98e2a… (all of the seat's roots in one cut). By AI agents, Wed Nov 11 2026. No macro, syntax, notation, axiom, sorry.
-/
import Derived.Test.YtcjphioimmgbfaaChecked
import GoSem.Claim
import GoSem.ClaimJoined
import GoSem.ClaimMapViews
import Derived.JoinedTies
import Derived.KernelRfl
namespace Go.Proofs.Ytcjphioimmgbfaa
/- THE CELL 'sum', in the pinned program and in every row, IS THE sha256 OF THE DUMP (.gsa) THAT YtcjphioimmgbfaaProg.lean LOADS. Nothing in Lean hashes anything: it is a label: what it is worth is what the hold of that sum in a sandbox is worth. -/
noncomputable def Try.pinned : Pinned := { name := "ytcjphioimmgbfaa", sum := "a0cba94a4dc98e2a53d9f2070af71d1697a6047bc809de31514f99e07c80518c", checked := Try.checked }
namespace Rows
def none {H : Type} : Left H := { results := [], args := [] }

/-- 'sconcelaw02.TraceFirst': WHATEVER THE INPUT: true; the input reads as it did. -/
def traceFirstSpec : ChangeSpec := { name := "traceFirst", fn := fun _ => fun
  | [d1, d2] => { results := [.lit (.bool true)], args := [d1, d2] }
  | _ => none }
def traceFirstRow : OpenClaim := { program := "ytcjphioimmgbfaa", sum := "a0cba94a4dc98e2a53d9f2070af71d1697a6047bc809de31514f99e07c80518c", func := "sconce/sconcelaw02.TraceFirst", spec := "traceFirst", apart := false }
def TraceFirstSaid : Prop := traceFirstRow.holds Try.pinned (OpenSpec.ofChange traceFirstSpec)

/-- ITS FALSE NEIGHBOUR: 'it returns false'. Refute it at one input. -/
def traceFirstWrong : ChangeSpec := { name := "traceFirst", fn := fun _ => fun
  | [d1, d2] => { results := [.lit (.bool false)], args := [d1, d2] }
  | _ => none }
def TraceFirstWrongFalsely : Prop := traceFirstRow.holds Try.pinned (OpenSpec.ofChange traceFirstWrong)

/-- 'sconcelaw02.TraceActs': WHATEVER THE INPUT: true; the input reads as it did. -/
def traceActsSpec : ChangeSpec := { name := "traceActs", fn := fun _ => fun
  | [d1, d2] => { results := [.lit (.bool true)], args := [d1, d2] }
  | _ => none }
def traceActsRow : OpenClaim := { program := "ytcjphioimmgbfaa", sum := "a0cba94a4dc98e2a53d9f2070af71d1697a6047bc809de31514f99e07c80518c", func := "sconce/sconcelaw02.TraceActs", spec := "traceActs", apart := false }
def TraceActsSaid : Prop := traceActsRow.holds Try.pinned (OpenSpec.ofChange traceActsSpec)

/-- ITS FALSE NEIGHBOUR: 'it returns false'. Refute it at one input. -/
def traceActsWrong : ChangeSpec := { name := "traceActs", fn := fun _ => fun
  | [d1, d2] => { results := [.lit (.bool false)], args := [d1, d2] }
  | _ => none }
def TraceActsWrongFalsely : Prop := traceActsRow.holds Try.pinned (OpenSpec.ofChange traceActsWrong)

/-- 'sconcelaw02.TraceSame': WHATEVER THE INPUT: true; the input reads as it did. -/
def traceSameSpec : ChangeSpec := { name := "traceSame", fn := fun _ => fun
  | [d1, d2] => { results := [.lit (.bool true)], args := [d1, d2] }
  | _ => none }
def traceSameRow : OpenClaim := { program := "ytcjphioimmgbfaa", sum := "a0cba94a4dc98e2a53d9f2070af71d1697a6047bc809de31514f99e07c80518c", func := "sconce/sconcelaw02.TraceSame", spec := "traceSame", apart := false }
def TraceSameSaid : Prop := traceSameRow.holds Try.pinned (OpenSpec.ofChange traceSameSpec)

/-- ITS FALSE NEIGHBOUR: 'it returns false'. Refute it at one input. -/
def traceSameWrong : ChangeSpec := { name := "traceSame", fn := fun _ => fun
  | [d1, d2] => { results := [.lit (.bool false)], args := [d1, d2] }
  | _ => none }
def TraceSameWrongFalsely : Prop := traceSameRow.holds Try.pinned (OpenSpec.ofChange traceSameWrong)

/-- 'sconcelaw02.TraceNone': WHATEVER THE INPUT: true; the input reads as it did. -/
def traceNoneSpec : ChangeSpec := { name := "traceNone", fn := fun _ => fun
  | [d] => { results := [.lit (.bool true)], args := [d] }
  | _ => none }
def traceNoneRow : OpenClaim := { program := "ytcjphioimmgbfaa", sum := "a0cba94a4dc98e2a53d9f2070af71d1697a6047bc809de31514f99e07c80518c", func := "sconce/sconcelaw02.TraceNone", spec := "traceNone", apart := false }
def TraceNoneSaid : Prop := traceNoneRow.holds Try.pinned (OpenSpec.ofChange traceNoneSpec)

/-- ITS FALSE NEIGHBOUR: 'it returns false'. Refute it at one input. -/
def traceNoneWrong : ChangeSpec := { name := "traceNone", fn := fun _ => fun
  | [d] => { results := [.lit (.bool false)], args := [d] }
  | _ => none }
def TraceNoneWrongFalsely : Prop := traceNoneRow.holds Try.pinned (OpenSpec.ofChange traceNoneWrong)

/-- 'sconcelaw23.PadDecodes': WHATEVER THE INPUT: true; the input reads as it did. -/
def padDecodesSpec : ChangeSpec := { name := "padDecodes", fn := fun _ => fun
  | [d] => { results := [.lit (.bool true)], args := [d] }
  | _ => none }
def padDecodesRow : OpenClaim := { program := "ytcjphioimmgbfaa", sum := "a0cba94a4dc98e2a53d9f2070af71d1697a6047bc809de31514f99e07c80518c", func := "sconce/sconcelaw23.PadDecodes", spec := "padDecodes", inPlace := ["math/bits.Sub64"], apart := false }
def PadDecodesSaid : Prop := padDecodesRow.holds Try.pinned (OpenSpec.ofChange padDecodesSpec)

/-- ITS FALSE NEIGHBOUR: 'it returns false'. Refute it at one input. -/
def padDecodesWrong : ChangeSpec := { name := "padDecodes", fn := fun _ => fun
  | [d] => { results := [.lit (.bool false)], args := [d] }
  | _ => none }
def PadDecodesWrongFalsely : Prop := padDecodesRow.holds Try.pinned (OpenSpec.ofChange padDecodesWrong)

/-- 'sconcelaw23.PadFinds': WHATEVER THE INPUT: true; the input reads as it did. -/
def padFindsSpec : ChangeSpec := { name := "padFinds", fn := fun _ => fun
  | [d1, d2, d3, d4] => { results := [.lit (.bool true)], args := [d1, d2, d3, d4] }
  | _ => none }
def padFindsRow : OpenClaim := { program := "ytcjphioimmgbfaa", sum := "a0cba94a4dc98e2a53d9f2070af71d1697a6047bc809de31514f99e07c80518c", func := "sconce/sconcelaw23.PadFinds", spec := "padFinds", inPlace := ["math/bits.Sub64"], apart := false }
def PadFindsSaid : Prop := padFindsRow.holds Try.pinned (OpenSpec.ofChange padFindsSpec)

/-- ITS FALSE NEIGHBOUR: 'it returns false'. Refute it at one input. -/
def padFindsWrong : ChangeSpec := { name := "padFinds", fn := fun _ => fun
  | [d1, d2, d3, d4] => { results := [.lit (.bool false)], args := [d1, d2, d3, d4] }
  | _ => none }
def PadFindsWrongFalsely : Prop := padFindsRow.holds Try.pinned (OpenSpec.ofChange padFindsWrong)

/-- 'sconcelaw23.PadSeen': WHATEVER THE INPUT: true; the input reads as it did. -/
def padSeenSpec : ChangeSpec := { name := "padSeen", fn := fun _ => fun
  | [d1, d2, d3, d4, d5, d6] => { results := [.lit (.bool true)], args := [d1, d2, d3, d4, d5, d6] }
  | _ => none }
def padSeenRow : OpenClaim := { program := "ytcjphioimmgbfaa", sum := "a0cba94a4dc98e2a53d9f2070af71d1697a6047bc809de31514f99e07c80518c", func := "sconce/sconcelaw23.PadSeen", spec := "padSeen", inPlace := ["math/bits.Sub64"], apart := false }
def PadSeenSaid : Prop := padSeenRow.holds Try.pinned (OpenSpec.ofChange padSeenSpec)

/-- ITS FALSE NEIGHBOUR: 'it returns false'. Refute it at one input. -/
def padSeenWrong : ChangeSpec := { name := "padSeen", fn := fun _ => fun
  | [d1, d2, d3, d4, d5, d6] => { results := [.lit (.bool false)], args := [d1, d2, d3, d4, d5, d6] }
  | _ => none }
def PadSeenWrongFalsely : Prop := padSeenRow.holds Try.pinned (OpenSpec.ofChange padSeenWrong)

/-- 'sconcelaw23.PadBack': WHATEVER THE INPUT: true; the input reads as it did. -/
def padBackSpec : ChangeSpec := { name := "padBack", fn := fun _ => fun
  | [d1, d2, d3] => { results := [.lit (.bool true)], args := [d1, d2, d3] }
  | _ => none }
def padBackRow : OpenClaim := { program := "ytcjphioimmgbfaa", sum := "a0cba94a4dc98e2a53d9f2070af71d1697a6047bc809de31514f99e07c80518c", func := "sconce/sconcelaw23.PadBack", spec := "padBack", inPlace := ["math/bits.Sub64"], unfollowed := true, recurses := true, apart := false }
def PadBackSaid : Prop := padBackRow.holds Try.pinned (OpenSpec.ofChange padBackSpec)

/-- ITS FALSE NEIGHBOUR: 'it returns false'. Refute it at one input. -/
def padBackWrong : ChangeSpec := { name := "padBack", fn := fun _ => fun
  | [d1, d2, d3] => { results := [.lit (.bool false)], args := [d1, d2, d3] }
  | _ => none }
def PadBackWrongFalsely : Prop := padBackRow.holds Try.pinned (OpenSpec.ofChange padBackWrong)

/- THE SECOND FORM. 'bulk': how many values and letters a reading holds, each counted each time it is reached (what is shared counts as often as it is met; a slice's spare places count too). A statement '..UptoSaid' is the law's where the arguments, and the package variables that the reading takes, are together of bulk at most 1048576: NARROWER than '..Said'. Prove '..Said' where nothing that the law and all that it calls make is longer than what came in: it says more and counts as full. Else prove '..UptoSaid'. A law counts once. -/
mutual
def uptoBulk {H : Type} : DataW H → Nat
  | .lit (.string bytes) => bytes.length + 1
  | .lit _ => 1
  | .nil => 1
  | .ptr d => uptoBulk d + 1
  | .slice elems spare => uptoBulkAll elems + uptoBulkAll spare + 1
  | .agg parts => uptoBulkAll parts + 1
  | .iface _ d => uptoBulk d + 1
  | .map entries => uptoBulkEntries entries + 1
  | .held _ => 1
def uptoBulkAll {H : Type} : List (DataW H) → Nat
  | [] => 0
  | d :: r => uptoBulk d + uptoBulkAll r
def uptoBulkEntries {H : Type} : List (Lit × DataW H) → Nat
  | [] => 0
  | x :: r => uptoBulkEntry x + uptoBulkEntries r
def uptoBulkEntry {H : Type} : Lit × DataW H → Nat
  | (.string bytes, d) => bytes.length + uptoBulk d + 1
  | (_, d) => uptoBulk d + 1
 end
def uptoSmall : (H : Type) → List (DataW H) → Bool := fun _ ds => decide (uptoBulkAll ds ≤ 1048576)
def OpenSpec.upto (s : _root_.Go.ChangeSpec) : _root_.Go.OpenSpec := { _root_.Go.OpenSpec.ofChange s with cond := some uptoSmall }

/-- 'sconcelaw02.TraceFirst', WHERE WHAT IT READS IS OF BULK AT MOST 1048576: true; the input reads as it did. -/
def traceFirstUptoRow : OpenClaim := { program := "ytcjphioimmgbfaa", sum := "a0cba94a4dc98e2a53d9f2070af71d1697a6047bc809de31514f99e07c80518c", func := "sconce/sconcelaw02.TraceFirst", spec := "traceFirst", apart := false, narrowed := true }
def TraceFirstUptoSaid : Prop := traceFirstUptoRow.holds Try.pinned (OpenSpec.upto traceFirstSpec)

/-- 'sconcelaw02.TraceActs', WHERE WHAT IT READS IS OF BULK AT MOST 1048576: true; the input reads as it did. -/
def traceActsUptoRow : OpenClaim := { program := "ytcjphioimmgbfaa", sum := "a0cba94a4dc98e2a53d9f2070af71d1697a6047bc809de31514f99e07c80518c", func := "sconce/sconcelaw02.TraceActs", spec := "traceActs", apart := false, narrowed := true }
def TraceActsUptoSaid : Prop := traceActsUptoRow.holds Try.pinned (OpenSpec.upto traceActsSpec)

/-- 'sconcelaw02.TraceSame', WHERE WHAT IT READS IS OF BULK AT MOST 1048576: true; the input reads as it did. -/
def traceSameUptoRow : OpenClaim := { program := "ytcjphioimmgbfaa", sum := "a0cba94a4dc98e2a53d9f2070af71d1697a6047bc809de31514f99e07c80518c", func := "sconce/sconcelaw02.TraceSame", spec := "traceSame", apart := false, narrowed := true }
def TraceSameUptoSaid : Prop := traceSameUptoRow.holds Try.pinned (OpenSpec.upto traceSameSpec)

/-- 'sconcelaw02.TraceNone', WHERE WHAT IT READS IS OF BULK AT MOST 1048576: true; the input reads as it did. -/
def traceNoneUptoRow : OpenClaim := { program := "ytcjphioimmgbfaa", sum := "a0cba94a4dc98e2a53d9f2070af71d1697a6047bc809de31514f99e07c80518c", func := "sconce/sconcelaw02.TraceNone", spec := "traceNone", apart := false, narrowed := true }
def TraceNoneUptoSaid : Prop := traceNoneUptoRow.holds Try.pinned (OpenSpec.upto traceNoneSpec)

/-- 'sconcelaw23.PadDecodes', WHERE WHAT IT READS IS OF BULK AT MOST 1048576: true; the input reads as it did. -/
def padDecodesUptoRow : OpenClaim := { program := "ytcjphioimmgbfaa", sum := "a0cba94a4dc98e2a53d9f2070af71d1697a6047bc809de31514f99e07c80518c", func := "sconce/sconcelaw23.PadDecodes", spec := "padDecodes", inPlace := ["math/bits.Sub64"], apart := false, narrowed := true }
def PadDecodesUptoSaid : Prop := padDecodesUptoRow.holds Try.pinned (OpenSpec.upto padDecodesSpec)

/-- 'sconcelaw23.PadFinds', WHERE WHAT IT READS IS OF BULK AT MOST 1048576: true; the input reads as it did. -/
def padFindsUptoRow : OpenClaim := { program := "ytcjphioimmgbfaa", sum := "a0cba94a4dc98e2a53d9f2070af71d1697a6047bc809de31514f99e07c80518c", func := "sconce/sconcelaw23.PadFinds", spec := "padFinds", inPlace := ["math/bits.Sub64"], apart := false, narrowed := true }
def PadFindsUptoSaid : Prop := padFindsUptoRow.holds Try.pinned (OpenSpec.upto padFindsSpec)

/-- 'sconcelaw23.PadSeen', WHERE WHAT IT READS IS OF BULK AT MOST 1048576: true; the input reads as it did. -/
def padSeenUptoRow : OpenClaim := { program := "ytcjphioimmgbfaa", sum := "a0cba94a4dc98e2a53d9f2070af71d1697a6047bc809de31514f99e07c80518c", func := "sconce/sconcelaw23.PadSeen", spec := "padSeen", inPlace := ["math/bits.Sub64"], apart := false, narrowed := true }
def PadSeenUptoSaid : Prop := padSeenUptoRow.holds Try.pinned (OpenSpec.upto padSeenSpec)

/-- 'sconcelaw23.PadBack', WHERE WHAT IT READS IS OF BULK AT MOST 1048576: true; the input reads as it did. -/
def padBackUptoRow : OpenClaim := { program := "ytcjphioimmgbfaa", sum := "a0cba94a4dc98e2a53d9f2070af71d1697a6047bc809de31514f99e07c80518c", func := "sconce/sconcelaw23.PadBack", spec := "padBack", inPlace := ["math/bits.Sub64"], unfollowed := true, recurses := true, apart := false, narrowed := true }
def PadBackUptoSaid : Prop := padBackUptoRow.holds Try.pinned (OpenSpec.upto padBackSpec)

end Rows
end Go.Proofs.Ytcjphioimmgbfaa
