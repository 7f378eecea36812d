/-
  No cell of these rows narrows 'for every input' (looked for: loops, veiled, ifaces, maps, wideKeys, modest, calm, conditions, laid).
  DERIVED. THE GIVEN ROWS OF THIS SEAT. 6 by the template 'for every input the law returns true; each argument reads behind the call as it read before'; 0 by the template 'total and deterministic' (their statements: YtdphikbkknkhiaaTotals.lean).
  GIVEN WITH THE SEED: the statements are not yours to turn. If you find one false, say at which input.
  Laid BY PROGRAM, IN A SANDBOX (cutbox-rows.mjs): the forced cells as the released guide's own fill.sh prints them over the translation 7d62b4d162524ee2… (all of the seat's roots in one cut). By AI agents, Wed Nov 11 2026. No macro, syntax, notation, axiom, sorry.
-/
import Derived.Test.YtdphikbkknkhiaaChecked
import GoSem.Claim
import GoSem.ClaimJoined
import GoSem.ClaimMapViews
import Derived.JoinedTies
import Derived.KernelRfl
namespace Go.Proofs.Ytdphikbkknkhiaa
/- THE CELL 'sum', in the pinned program and in every row, IS THE sha256 OF THE DUMP (.gsa) THAT YtdphikbkknkhiaaProg.lean LOADS. Nothing in Lean hashes anything: it is a label: what it is worth is what the hold of that sum in a sandbox is worth. -/
noncomputable def Try.pinned : Pinned := { name := "ytdphikbkknkhiaa", sum := "7d62b4d162524ee2a7f443e27b45cd58774364ce6e20c37dbfe51d0b9c23559f", checked := Try.checked }
namespace Rows
def none {H : Type} : Left H := { results := [], args := [] }

/-- 'gharrylaw07.RecFrames': WHATEVER THE INPUT: true; the input reads as it did. -/
def recFramesSpec : ChangeSpec := { name := "recFrames", fn := fun _ => fun
  | [d] => { results := [.lit (.bool true)], args := [d] }
  | _ => none }
def recFramesRow : OpenClaim := { program := "ytdphikbkknkhiaa", sum := "7d62b4d162524ee2a7f443e27b45cd58774364ce6e20c37dbfe51d0b9c23559f", func := "gharry/gharrylaw07.RecFrames", spec := "recFrames", unfollowed := true, recurses := true, apart := false }
def RecFramesSaid : Prop := recFramesRow.holds Try.pinned (OpenSpec.ofChange recFramesSpec)

/-- ITS FALSE NEIGHBOUR: 'it returns false'. Refute it at one input. -/
def recFramesWrong : ChangeSpec := { name := "recFrames", fn := fun _ => fun
  | [d] => { results := [.lit (.bool false)], args := [d] }
  | _ => none }
def RecFramesWrongFalsely : Prop := recFramesRow.holds Try.pinned (OpenSpec.ofChange recFramesWrong)

/-- 'gharrylaw07.RecCleans': WHATEVER THE INPUT: true; the input reads as it did. -/
def recCleansSpec : ChangeSpec := { name := "recCleans", fn := fun _ => fun
  | [d] => { results := [.lit (.bool true)], args := [d] }
  | _ => none }
def recCleansRow : OpenClaim := { program := "ytdphikbkknkhiaa", sum := "7d62b4d162524ee2a7f443e27b45cd58774364ce6e20c37dbfe51d0b9c23559f", func := "gharry/gharrylaw07.RecCleans", spec := "recCleans", unfollowed := true, recurses := true, apart := false }
def RecCleansSaid : Prop := recCleansRow.holds Try.pinned (OpenSpec.ofChange recCleansSpec)

/-- ITS FALSE NEIGHBOUR: 'it returns false'. Refute it at one input. -/
def recCleansWrong : ChangeSpec := { name := "recCleans", fn := fun _ => fun
  | [d] => { results := [.lit (.bool false)], args := [d] }
  | _ => none }
def RecCleansWrongFalsely : Prop := recCleansRow.holds Try.pinned (OpenSpec.ofChange recCleansWrong)

/-- 'gharrylaw07.RecLong': WHATEVER THE INPUT: true; the input reads as it did. -/
def recLongSpec : ChangeSpec := { name := "recLong", fn := fun _ => fun
  | [d1, d2] => { results := [.lit (.bool true)], args := [d1, d2] }
  | _ => none }
def recLongRow : OpenClaim := { program := "ytdphikbkknkhiaa", sum := "7d62b4d162524ee2a7f443e27b45cd58774364ce6e20c37dbfe51d0b9c23559f", func := "gharry/gharrylaw07.RecLong", spec := "recLong", unfollowed := true, recurses := true, apart := false }
def RecLongSaid : Prop := recLongRow.holds Try.pinned (OpenSpec.ofChange recLongSpec)

/-- ITS FALSE NEIGHBOUR: 'it returns false'. Refute it at one input. -/
def recLongWrong : ChangeSpec := { name := "recLong", fn := fun _ => fun
  | [d1, d2] => { results := [.lit (.bool false)], args := [d1, d2] }
  | _ => none }
def RecLongWrongFalsely : Prop := recLongRow.holds Try.pinned (OpenSpec.ofChange recLongWrong)

/-- 'gharrylaw07.RecPages': WHATEVER THE INPUT: true; the input reads as it did. -/
def recPagesSpec : ChangeSpec := { name := "recPages", fn := fun _ => fun
  | [d] => { results := [.lit (.bool true)], args := [d] }
  | _ => none }
def recPagesRow : OpenClaim := { program := "ytdphikbkknkhiaa", sum := "7d62b4d162524ee2a7f443e27b45cd58774364ce6e20c37dbfe51d0b9c23559f", func := "gharry/gharrylaw07.RecPages", spec := "recPages", unfollowed := true, recurses := true, apart := false }
def RecPagesSaid : Prop := recPagesRow.holds Try.pinned (OpenSpec.ofChange recPagesSpec)

/-- ITS FALSE NEIGHBOUR: 'it returns false'. Refute it at one input. -/
def recPagesWrong : ChangeSpec := { name := "recPages", fn := fun _ => fun
  | [d] => { results := [.lit (.bool false)], args := [d] }
  | _ => none }
def RecPagesWrongFalsely : Prop := recPagesRow.holds Try.pinned (OpenSpec.ofChange recPagesWrong)

/-- 'gharrylaw07.RecBack': WHATEVER THE INPUT: true; the input reads as it did. -/
def recBackSpec : ChangeSpec := { name := "recBack", fn := fun _ => fun
  | [d1, d2, d3] => { results := [.lit (.bool true)], args := [d1, d2, d3] }
  | _ => none }
def recBackRow : OpenClaim := { program := "ytdphikbkknkhiaa", sum := "7d62b4d162524ee2a7f443e27b45cd58774364ce6e20c37dbfe51d0b9c23559f", func := "gharry/gharrylaw07.RecBack", spec := "recBack", unfollowed := true, recurses := true, apart := false }
def RecBackSaid : Prop := recBackRow.holds Try.pinned (OpenSpec.ofChange recBackSpec)

/-- ITS FALSE NEIGHBOUR: 'it returns false'. Refute it at one input. -/
def recBackWrong : ChangeSpec := { name := "recBack", fn := fun _ => fun
  | [d1, d2, d3] => { results := [.lit (.bool false)], args := [d1, d2, d3] }
  | _ => none }
def RecBackWrongFalsely : Prop := recBackRow.holds Try.pinned (OpenSpec.ofChange recBackWrong)

/-- 'gharrylaw07.RecOpens': WHATEVER THE INPUT: true; the input reads as it did. -/
def recOpensSpec : ChangeSpec := { name := "recOpens", fn := fun _ => fun
  | [d1, d2] => { results := [.lit (.bool true)], args := [d1, d2] }
  | _ => none }
def recOpensRow : OpenClaim := { program := "ytdphikbkknkhiaa", sum := "7d62b4d162524ee2a7f443e27b45cd58774364ce6e20c37dbfe51d0b9c23559f", func := "gharry/gharrylaw07.RecOpens", spec := "recOpens", unfollowed := true, recurses := true, apart := false }
def RecOpensSaid : Prop := recOpensRow.holds Try.pinned (OpenSpec.ofChange recOpensSpec)

/-- ITS FALSE NEIGHBOUR: 'it returns false'. Refute it at one input. -/
def recOpensWrong : ChangeSpec := { name := "recOpens", fn := fun _ => fun
  | [d1, d2] => { results := [.lit (.bool false)], args := [d1, d2] }
  | _ => none }
def RecOpensWrongFalsely : Prop := recOpensRow.holds Try.pinned (OpenSpec.ofChange recOpensWrong)

/- THE SECOND FORM. 'bulk': how many values and letters a reading holds, each counted each time it is reached (what is shared counts as often as it is met; a slice's spare places count too). A statement '..UptoSaid' is the law's where the arguments, and the package variables that the reading takes, are together of bulk at most 1048576: NARROWER than '..Said'. Prove '..Said' where nothing that the law and all that it calls make is longer than what came in: it says more and counts as full. Else prove '..UptoSaid'. A law counts once. -/
mutual
def uptoBulk {H : Type} : DataW H → Nat
  | .lit (.string bytes) => bytes.length + 1
  | .lit _ => 1
  | .nil => 1
  | .ptr d => uptoBulk d + 1
  | .slice elems spare => uptoBulkAll elems + uptoBulkAll spare + 1
  | .agg parts => uptoBulkAll parts + 1
  | .iface _ d => uptoBulk d + 1
  | .map entries => uptoBulkEntries entries + 1
  | .held _ => 1
def uptoBulkAll {H : Type} : List (DataW H) → Nat
  | [] => 0
  | d :: r => uptoBulk d + uptoBulkAll r
def uptoBulkEntries {H : Type} : List (Lit × DataW H) → Nat
  | [] => 0
  | x :: r => uptoBulkEntry x + uptoBulkEntries r
def uptoBulkEntry {H : Type} : Lit × DataW H → Nat
  | (.string bytes, d) => bytes.length + uptoBulk d + 1
  | (_, d) => uptoBulk d + 1
 end
def uptoSmall : (H : Type) → List (DataW H) → Bool := fun _ ds => decide (uptoBulkAll ds ≤ 1048576)
def OpenSpec.upto (s : _root_.Go.ChangeSpec) : _root_.Go.OpenSpec := { _root_.Go.OpenSpec.ofChange s with cond := some uptoSmall }

/-- 'gharrylaw07.RecFrames', WHERE WHAT IT READS IS OF BULK AT MOST 1048576: true; the input reads as it did. -/
def recFramesUptoRow : OpenClaim := { program := "ytdphikbkknkhiaa", sum := "7d62b4d162524ee2a7f443e27b45cd58774364ce6e20c37dbfe51d0b9c23559f", func := "gharry/gharrylaw07.RecFrames", spec := "recFrames", unfollowed := true, recurses := true, apart := false, narrowed := true }
def RecFramesUptoSaid : Prop := recFramesUptoRow.holds Try.pinned (OpenSpec.upto recFramesSpec)

/-- 'gharrylaw07.RecCleans', WHERE WHAT IT READS IS OF BULK AT MOST 1048576: true; the input reads as it did. -/
def recCleansUptoRow : OpenClaim := { program := "ytdphikbkknkhiaa", sum := "7d62b4d162524ee2a7f443e27b45cd58774364ce6e20c37dbfe51d0b9c23559f", func := "gharry/gharrylaw07.RecCleans", spec := "recCleans", unfollowed := true, recurses := true, apart := false, narrowed := true }
def RecCleansUptoSaid : Prop := recCleansUptoRow.holds Try.pinned (OpenSpec.upto recCleansSpec)

/-- 'gharrylaw07.RecLong', WHERE WHAT IT READS IS OF BULK AT MOST 1048576: true; the input reads as it did. -/
def recLongUptoRow : OpenClaim := { program := "ytdphikbkknkhiaa", sum := "7d62b4d162524ee2a7f443e27b45cd58774364ce6e20c37dbfe51d0b9c23559f", func := "gharry/gharrylaw07.RecLong", spec := "recLong", unfollowed := true, recurses := true, apart := false, narrowed := true }
def RecLongUptoSaid : Prop := recLongUptoRow.holds Try.pinned (OpenSpec.upto recLongSpec)

/-- 'gharrylaw07.RecPages', WHERE WHAT IT READS IS OF BULK AT MOST 1048576: true; the input reads as it did. -/
def recPagesUptoRow : OpenClaim := { program := "ytdphikbkknkhiaa", sum := "7d62b4d162524ee2a7f443e27b45cd58774364ce6e20c37dbfe51d0b9c23559f", func := "gharry/gharrylaw07.RecPages", spec := "recPages", unfollowed := true, recurses := true, apart := false, narrowed := true }
def RecPagesUptoSaid : Prop := recPagesUptoRow.holds Try.pinned (OpenSpec.upto recPagesSpec)

/-- 'gharrylaw07.RecBack', WHERE WHAT IT READS IS OF BULK AT MOST 1048576: true; the input reads as it did. -/
def recBackUptoRow : OpenClaim := { program := "ytdphikbkknkhiaa", sum := "7d62b4d162524ee2a7f443e27b45cd58774364ce6e20c37dbfe51d0b9c23559f", func := "gharry/gharrylaw07.RecBack", spec := "recBack", unfollowed := true, recurses := true, apart := false, narrowed := true }
def RecBackUptoSaid : Prop := recBackUptoRow.holds Try.pinned (OpenSpec.upto recBackSpec)

/-- 'gharrylaw07.RecOpens', WHERE WHAT IT READS IS OF BULK AT MOST 1048576: true; the input reads as it did. -/
def recOpensUptoRow : OpenClaim := { program := "ytdphikbkknkhiaa", sum := "7d62b4d162524ee2a7f443e27b45cd58774364ce6e20c37dbfe51d0b9c23559f", func := "gharry/gharrylaw07.RecOpens", spec := "recOpens", unfollowed := true, recurses := true, apart := false, narrowed := true }
def RecOpensUptoSaid : Prop := recOpensUptoRow.holds Try.pinned (OpenSpec.upto recOpensSpec)

end Rows
end Go.Proofs.Ytdphikbkknkhiaa
