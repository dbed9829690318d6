/-
  No cell of these rows narrows 'for every input' (looked for: loops, veiled, ifaces, maps, wideKeys, modest, calm, conditions, laid).
  DERIVED. THE GIVEN ROWS OF THIS SEAT. 4 by the template 'for every input the law returns true; each argument reads behind the call as it read before'; 0 by the template 'total and deterministic' (their statements: YtpllmkcbkdahbaaTotals.lean).
  GIVEN WITH THE SEED: the statements are not yours to turn. If you find one false, say at which input.
  Laid BY PROGRAM, IN A SANDBOX (cutbox-rows.mjs): the forced cells as the released guide's own fill.sh prints them over the translation 843f19a6986a5aad… (all of the seat's roots in one cut). By AI agents, Wed Nov 11 2026. No macro, syntax, notation, axiom, sorry.
-/
import Derived.Test.YtpllmkcbkdahbaaChecked
import GoSem.Claim
import GoSem.ClaimJoined
import GoSem.ClaimMapViews
import Derived.JoinedTies
import Derived.KernelRfl
namespace Go.Proofs.Ytpllmkcbkdahbaa
/- THE CELL 'sum', in the pinned program and in every row, IS THE sha256 OF THE DUMP (.gsa) THAT YtpllmkcbkdahbaaProg.lean LOADS. Nothing in Lean hashes anything: it is a label: what it is worth is what the hold of that sum in a sandbox is worth. -/
noncomputable def Try.pinned : Pinned := { name := "ytpllmkcbkdahbaa", sum := "843f19a6986a5aadf34aa6affbf89cf43d661fcfb49ad26cae00c7829deddaf7", checked := Try.checked }
namespace Rows
def none {H : Type} : Left H := { results := [], args := [] }

/-- 'sconcelaw11.Sha256Sums': WHATEVER THE INPUT: true; the input reads as it did. -/
def sha256SumsSpec : ChangeSpec := { name := "sha256Sums", fn := fun _ => fun
  | [d] => { results := [.lit (.bool true)], args := [d] }
  | _ => none }
def sha256SumsRow : OpenClaim := { program := "ytpllmkcbkdahbaa", sum := "843f19a6986a5aadf34aa6affbf89cf43d661fcfb49ad26cae00c7829deddaf7", func := "sconce/sconcelaw11.Sha256Sums", spec := "sha256Sums", unfollowed := true, recurses := true, apart := false }
def Sha256SumsSaid : Prop := sha256SumsRow.holds Try.pinned (OpenSpec.ofChange sha256SumsSpec)

/-- ITS FALSE NEIGHBOUR: 'it returns false'. Refute it at one input. -/
def sha256SumsWrong : ChangeSpec := { name := "sha256Sums", fn := fun _ => fun
  | [d] => { results := [.lit (.bool false)], args := [d] }
  | _ => none }
def Sha256SumsWrongFalsely : Prop := sha256SumsRow.holds Try.pinned (OpenSpec.ofChange sha256SumsWrong)

/-- 'sconcelaw11.Sha256Blocks': WHATEVER THE INPUT: true; the input reads as it did. -/
def sha256BlocksSpec : ChangeSpec := { name := "sha256Blocks", fn := fun _ => fun
  | [d1, d2] => { results := [.lit (.bool true)], args := [d1, d2] }
  | _ => none }
def sha256BlocksRow : OpenClaim := { program := "ytpllmkcbkdahbaa", sum := "843f19a6986a5aadf34aa6affbf89cf43d661fcfb49ad26cae00c7829deddaf7", func := "sconce/sconcelaw11.Sha256Blocks", spec := "sha256Blocks", unfollowed := true, recurses := true, apart := false }
def Sha256BlocksSaid : Prop := sha256BlocksRow.holds Try.pinned (OpenSpec.ofChange sha256BlocksSpec)

/-- ITS FALSE NEIGHBOUR: 'it returns false'. Refute it at one input. -/
def sha256BlocksWrong : ChangeSpec := { name := "sha256Blocks", fn := fun _ => fun
  | [d1, d2] => { results := [.lit (.bool false)], args := [d1, d2] }
  | _ => none }
def Sha256BlocksWrongFalsely : Prop := sha256BlocksRow.holds Try.pinned (OpenSpec.ofChange sha256BlocksWrong)

/-- 'sconcelaw11.Sha256Pads': WHATEVER THE INPUT: true; the input reads as it did. -/
def sha256PadsSpec : ChangeSpec := { name := "sha256Pads", fn := fun _ => fun
  | [d] => { results := [.lit (.bool true)], args := [d] }
  | _ => none }
def sha256PadsRow : OpenClaim := { program := "ytpllmkcbkdahbaa", sum := "843f19a6986a5aadf34aa6affbf89cf43d661fcfb49ad26cae00c7829deddaf7", func := "sconce/sconcelaw11.Sha256Pads", spec := "sha256Pads", unfollowed := true, recurses := true, apart := false }
def Sha256PadsSaid : Prop := sha256PadsRow.holds Try.pinned (OpenSpec.ofChange sha256PadsSpec)

/-- ITS FALSE NEIGHBOUR: 'it returns false'. Refute it at one input. -/
def sha256PadsWrong : ChangeSpec := { name := "sha256Pads", fn := fun _ => fun
  | [d] => { results := [.lit (.bool false)], args := [d] }
  | _ => none }
def Sha256PadsWrongFalsely : Prop := sha256PadsRow.holds Try.pinned (OpenSpec.ofChange sha256PadsWrong)

/-- 'sconcelaw11.Sha256Parts': WHATEVER THE INPUT: true; the input reads as it did. -/
def sha256PartsSpec : ChangeSpec := { name := "sha256Parts", fn := fun _ => fun
  | [d] => { results := [.lit (.bool true)], args := [d] }
  | _ => none }
def sha256PartsRow : OpenClaim := { program := "ytpllmkcbkdahbaa", sum := "843f19a6986a5aadf34aa6affbf89cf43d661fcfb49ad26cae00c7829deddaf7", func := "sconce/sconcelaw11.Sha256Parts", spec := "sha256Parts", unfollowed := true, recurses := true, apart := false }
def Sha256PartsSaid : Prop := sha256PartsRow.holds Try.pinned (OpenSpec.ofChange sha256PartsSpec)

/-- ITS FALSE NEIGHBOUR: 'it returns false'. Refute it at one input. -/
def sha256PartsWrong : ChangeSpec := { name := "sha256Parts", fn := fun _ => fun
  | [d] => { results := [.lit (.bool false)], args := [d] }
  | _ => none }
def Sha256PartsWrongFalsely : Prop := sha256PartsRow.holds Try.pinned (OpenSpec.ofChange sha256PartsWrong)

/- THE SECOND FORM. 'bulk': how many values and letters a reading holds, each counted each time it is reached (what is shared counts as often as it is met; a slice's spare places count too). A statement '..UptoSaid' is the law's where the arguments, and the package variables that the reading takes, are together of bulk at most 1048576: NARROWER than '..Said'. Prove '..Said' where nothing that the law and all that it calls make is longer than what came in: it says more and counts as full. Else prove '..UptoSaid'. A law counts once. -/
mutual
def uptoBulk {H : Type} : DataW H → Nat
  | .lit (.string bytes) => bytes.length + 1
  | .lit _ => 1
  | .nil => 1
  | .ptr d => uptoBulk d + 1
  | .slice elems spare => uptoBulkAll elems + uptoBulkAll spare + 1
  | .agg parts => uptoBulkAll parts + 1
  | .iface _ d => uptoBulk d + 1
  | .map entries => uptoBulkEntries entries + 1
  | .held _ => 1
def uptoBulkAll {H : Type} : List (DataW H) → Nat
  | [] => 0
  | d :: r => uptoBulk d + uptoBulkAll r
def uptoBulkEntries {H : Type} : List (Lit × DataW H) → Nat
  | [] => 0
  | x :: r => uptoBulkEntry x + uptoBulkEntries r
def uptoBulkEntry {H : Type} : Lit × DataW H → Nat
  | (.string bytes, d) => bytes.length + uptoBulk d + 1
  | (_, d) => uptoBulk d + 1
 end
def uptoSmall : (H : Type) → List (DataW H) → Bool := fun _ ds => decide (uptoBulkAll ds ≤ 1048576)
def OpenSpec.upto (s : _root_.Go.ChangeSpec) : _root_.Go.OpenSpec := { _root_.Go.OpenSpec.ofChange s with cond := some uptoSmall }

/-- 'sconcelaw11.Sha256Sums', WHERE WHAT IT READS IS OF BULK AT MOST 1048576: true; the input reads as it did. -/
def sha256SumsUptoRow : OpenClaim := { program := "ytpllmkcbkdahbaa", sum := "843f19a6986a5aadf34aa6affbf89cf43d661fcfb49ad26cae00c7829deddaf7", func := "sconce/sconcelaw11.Sha256Sums", spec := "sha256Sums", unfollowed := true, recurses := true, apart := false, narrowed := true }
def Sha256SumsUptoSaid : Prop := sha256SumsUptoRow.holds Try.pinned (OpenSpec.upto sha256SumsSpec)

/-- 'sconcelaw11.Sha256Blocks', WHERE WHAT IT READS IS OF BULK AT MOST 1048576: true; the input reads as it did. -/
def sha256BlocksUptoRow : OpenClaim := { program := "ytpllmkcbkdahbaa", sum := "843f19a6986a5aadf34aa6affbf89cf43d661fcfb49ad26cae00c7829deddaf7", func := "sconce/sconcelaw11.Sha256Blocks", spec := "sha256Blocks", unfollowed := true, recurses := true, apart := false, narrowed := true }
def Sha256BlocksUptoSaid : Prop := sha256BlocksUptoRow.holds Try.pinned (OpenSpec.upto sha256BlocksSpec)

/-- 'sconcelaw11.Sha256Pads', WHERE WHAT IT READS IS OF BULK AT MOST 1048576: true; the input reads as it did. -/
def sha256PadsUptoRow : OpenClaim := { program := "ytpllmkcbkdahbaa", sum := "843f19a6986a5aadf34aa6affbf89cf43d661fcfb49ad26cae00c7829deddaf7", func := "sconce/sconcelaw11.Sha256Pads", spec := "sha256Pads", unfollowed := true, recurses := true, apart := false, narrowed := true }
def Sha256PadsUptoSaid : Prop := sha256PadsUptoRow.holds Try.pinned (OpenSpec.upto sha256PadsSpec)

/-- 'sconcelaw11.Sha256Parts', WHERE WHAT IT READS IS OF BULK AT MOST 1048576: true; the input reads as it did. -/
def sha256PartsUptoRow : OpenClaim := { program := "ytpllmkcbkdahbaa", sum := "843f19a6986a5aadf34aa6affbf89cf43d661fcfb49ad26cae00c7829deddaf7", func := "sconce/sconcelaw11.Sha256Parts", spec := "sha256Parts", unfollowed := true, recurses := true, apart := false, narrowed := true }
def Sha256PartsUptoSaid : Prop := sha256PartsUptoRow.holds Try.pinned (OpenSpec.upto sha256PartsSpec)

end Rows
end Go.Proofs.Ytpllmkcbkdahbaa
