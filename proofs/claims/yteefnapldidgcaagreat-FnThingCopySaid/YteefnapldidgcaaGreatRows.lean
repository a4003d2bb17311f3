/-
  No cell of these rows narrows 'for every input' (looked for: loops, veiled, ifaces, maps, wideKeys, modest, calm, conditions, laid).
  DERIVED. THE GIVEN ROWS OF THIS SEAT. 5 by the template 'for every input the law returns true; each argument reads behind the call as it read before'; 0 by the template 'total and deterministic' (their statements: YteefnapldidgcaaGreatTotals.lean).
  GIVEN WITH THE SEED: the statements are not yours to turn. If you find one false, say at which input.
  Laid BY PROGRAM, IN A SANDBOX (cutbox-rows.mjs): the forced cells as the released guide's own fill.sh prints them over the translation 8dbfd4d4a1ba7c84… (all of the seat's roots in one cut). By AI agents, Wed Nov 11 2026. No macro, syntax, notation, axiom, sorry.
-/
import Derived.Test.YteefnapldidgcaaGreatChecked
import GoSem.Claim
import GoSem.ClaimJoined
import GoSem.ClaimMapViews
import Derived.JoinedTies
import Derived.KernelRfl
namespace Go.Proofs.YteefnapldidgcaaGreat
/- THE CELL 'sum', in the pinned program and in every row, IS THE sha256 OF THE DUMP (.gsa) THAT YteefnapldidgcaaGreatProg.lean LOADS. Nothing in Lean hashes anything: it is a label: what it is worth is what the hold of that sum in a sandbox is worth. -/
noncomputable def Tryz.pinned : Pinned := { name := "yteefnapldidgcaagreat", sum := "8dbfd4d4a1ba7c84c2ddbdbc45aa0f104d15c42f75d9c054c412c1bef4fd3856", checked := Tryz.checked }
namespace Rows
def none {H : Type} : Left H := { results := [], args := [] }

/-- 'laws.FnThingBack': WHATEVER THE INPUT: true; the input reads as it did. -/
def fnThingBackSpec : ChangeSpec := { name := "fnThingBack", fn := fun _ => fun
  | [d] => { results := [.lit (.bool true)], args := [d] }
  | _ => none }
def fnThingBackRow : OpenClaim := { program := "yteefnapldidgcaagreat", sum := "8dbfd4d4a1ba7c84c2ddbdbc45aa0f104d15c42f75d9c054c412c1bef4fd3856", func := "loop.example/flitting/laws.FnThingBack", spec := "fnThingBack", apart := false }
def FnThingBackSaid : Prop := fnThingBackRow.holds Tryz.pinned (OpenSpec.ofChange fnThingBackSpec)

/-- ITS FALSE NEIGHBOUR: 'it returns false'. Refute it at one input. -/
def fnThingBackWrong : ChangeSpec := { name := "fnThingBack", fn := fun _ => fun
  | [d] => { results := [.lit (.bool false)], args := [d] }
  | _ => none }
def FnThingBackWrongFalsely : Prop := fnThingBackRow.holds Tryz.pinned (OpenSpec.ofChange fnThingBackWrong)

/-- 'laws.FnWordSwap': WHATEVER THE INPUT: true; the input reads as it did. -/
def fnWordSwapSpec : ChangeSpec := { name := "fnWordSwap", fn := fun _ => fun
  | [d] => { results := [.lit (.bool true)], args := [d] }
  | _ => none }
def fnWordSwapRow : OpenClaim := { program := "yteefnapldidgcaagreat", sum := "8dbfd4d4a1ba7c84c2ddbdbc45aa0f104d15c42f75d9c054c412c1bef4fd3856", func := "loop.example/flitting/laws.FnWordSwap", spec := "fnWordSwap", apart := false }
def FnWordSwapSaid : Prop := fnWordSwapRow.holds Tryz.pinned (OpenSpec.ofChange fnWordSwapSpec)

/-- ITS FALSE NEIGHBOUR: 'it returns false'. Refute it at one input. -/
def fnWordSwapWrong : ChangeSpec := { name := "fnWordSwap", fn := fun _ => fun
  | [d] => { results := [.lit (.bool false)], args := [d] }
  | _ => none }
def FnWordSwapWrongFalsely : Prop := fnWordSwapRow.holds Tryz.pinned (OpenSpec.ofChange fnWordSwapWrong)

/-- 'laws.FnThingCopy': WHATEVER THE INPUT: true; the input reads as it did. -/
def fnThingCopySpec : ChangeSpec := { name := "fnThingCopy", fn := fun _ => fun
  | [d] => { results := [.lit (.bool true)], args := [d] }
  | _ => none }
def fnThingCopyRow : OpenClaim := { program := "yteefnapldidgcaagreat", sum := "8dbfd4d4a1ba7c84c2ddbdbc45aa0f104d15c42f75d9c054c412c1bef4fd3856", func := "loop.example/flitting/laws.FnThingCopy", spec := "fnThingCopy", apart := false }
def FnThingCopySaid : Prop := fnThingCopyRow.holds Tryz.pinned (OpenSpec.ofChange fnThingCopySpec)

/-- ITS FALSE NEIGHBOUR: 'it returns false'. Refute it at one input. -/
def fnThingCopyWrong : ChangeSpec := { name := "fnThingCopy", fn := fun _ => fun
  | [d] => { results := [.lit (.bool false)], args := [d] }
  | _ => none }
def FnThingCopyWrongFalsely : Prop := fnThingCopyRow.holds Tryz.pinned (OpenSpec.ofChange fnThingCopyWrong)

/-- 'laws.FnTableKeeps': WHATEVER THE INPUT: true; the input reads as it did. -/
def fnTableKeepsSpec : ChangeSpec := { name := "fnTableKeeps", fn := fun _ => fun
  | [d] => { results := [.lit (.bool true)], args := [d] }
  | _ => none }
def fnTableKeepsRow : OpenClaim := { program := "yteefnapldidgcaagreat", sum := "8dbfd4d4a1ba7c84c2ddbdbc45aa0f104d15c42f75d9c054c412c1bef4fd3856", func := "loop.example/flitting/laws.FnTableKeeps", spec := "fnTableKeeps", unfollowed := true, recurses := true, apart := false }
def FnTableKeepsSaid : Prop := fnTableKeepsRow.holds Tryz.pinned (OpenSpec.ofChange fnTableKeepsSpec)

/-- ITS FALSE NEIGHBOUR: 'it returns false'. Refute it at one input. -/
def fnTableKeepsWrong : ChangeSpec := { name := "fnTableKeeps", fn := fun _ => fun
  | [d] => { results := [.lit (.bool false)], args := [d] }
  | _ => none }
def FnTableKeepsWrongFalsely : Prop := fnTableKeepsRow.holds Tryz.pinned (OpenSpec.ofChange fnTableKeepsWrong)

/-- 'laws.FnRoomTwice': WHATEVER THE INPUT: true; the input reads as it did. -/
def fnRoomTwiceSpec : ChangeSpec := { name := "fnRoomTwice", fn := fun _ => fun
  | [d] => { results := [.lit (.bool true)], args := [d] }
  | _ => none }
def fnRoomTwiceRow : OpenClaim := { program := "yteefnapldidgcaagreat", sum := "8dbfd4d4a1ba7c84c2ddbdbc45aa0f104d15c42f75d9c054c412c1bef4fd3856", func := "loop.example/flitting/laws.FnRoomTwice", spec := "fnRoomTwice", unfollowed := true, recurses := true, apart := false }
def FnRoomTwiceSaid : Prop := fnRoomTwiceRow.holds Tryz.pinned (OpenSpec.ofChange fnRoomTwiceSpec)

/-- ITS FALSE NEIGHBOUR: 'it returns false'. Refute it at one input. -/
def fnRoomTwiceWrong : ChangeSpec := { name := "fnRoomTwice", fn := fun _ => fun
  | [d] => { results := [.lit (.bool false)], args := [d] }
  | _ => none }
def FnRoomTwiceWrongFalsely : Prop := fnRoomTwiceRow.holds Tryz.pinned (OpenSpec.ofChange fnRoomTwiceWrong)

/- THE SECOND FORM. 'bulk': how many values and letters a reading holds, each counted each time it is reached (what is shared counts as often as it is met; a slice's spare places count too). A statement '..UptoSaid' is the law's where the arguments, and the package variables that the reading takes, are together of bulk at most 1048576: NARROWER than '..Said'. Prove '..Said' where nothing that the law and all that it calls make is longer than what came in: it says more and counts as full. Else prove '..UptoSaid'. A law counts once. -/
mutual
def uptoBulk {H : Type} : DataW H → Nat
  | .lit (.string bytes) => bytes.length + 1
  | .lit _ => 1
  | .nil => 1
  | .ptr d => uptoBulk d + 1
  | .slice elems spare => uptoBulkAll elems + uptoBulkAll spare + 1
  | .agg parts => uptoBulkAll parts + 1
  | .iface _ d => uptoBulk d + 1
  | .map entries => uptoBulkEntries entries + 1
  | .held _ => 1
def uptoBulkAll {H : Type} : List (DataW H) → Nat
  | [] => 0
  | d :: r => uptoBulk d + uptoBulkAll r
def uptoBulkEntries {H : Type} : List (Lit × DataW H) → Nat
  | [] => 0
  | x :: r => uptoBulkEntry x + uptoBulkEntries r
def uptoBulkEntry {H : Type} : Lit × DataW H → Nat
  | (.string bytes, d) => bytes.length + uptoBulk d + 1
  | (_, d) => uptoBulk d + 1
 end
def uptoSmall : (H : Type) → List (DataW H) → Bool := fun _ ds => decide (uptoBulkAll ds ≤ 1048576)
def OpenSpec.upto (s : _root_.Go.ChangeSpec) : _root_.Go.OpenSpec := { _root_.Go.OpenSpec.ofChange s with cond := some uptoSmall }

/-- 'laws.FnThingBack', WHERE WHAT IT READS IS OF BULK AT MOST 1048576: true; the input reads as it did. -/
def fnThingBackUptoRow : OpenClaim := { program := "yteefnapldidgcaagreat", sum := "8dbfd4d4a1ba7c84c2ddbdbc45aa0f104d15c42f75d9c054c412c1bef4fd3856", func := "loop.example/flitting/laws.FnThingBack", spec := "fnThingBack", apart := false, narrowed := true }
def FnThingBackUptoSaid : Prop := fnThingBackUptoRow.holds Tryz.pinned (OpenSpec.upto fnThingBackSpec)

/-- 'laws.FnWordSwap', WHERE WHAT IT READS IS OF BULK AT MOST 1048576: true; the input reads as it did. -/
def fnWordSwapUptoRow : OpenClaim := { program := "yteefnapldidgcaagreat", sum := "8dbfd4d4a1ba7c84c2ddbdbc45aa0f104d15c42f75d9c054c412c1bef4fd3856", func := "loop.example/flitting/laws.FnWordSwap", spec := "fnWordSwap", apart := false, narrowed := true }
def FnWordSwapUptoSaid : Prop := fnWordSwapUptoRow.holds Tryz.pinned (OpenSpec.upto fnWordSwapSpec)

/-- 'laws.FnThingCopy', WHERE WHAT IT READS IS OF BULK AT MOST 1048576: true; the input reads as it did. -/
def fnThingCopyUptoRow : OpenClaim := { program := "yteefnapldidgcaagreat", sum := "8dbfd4d4a1ba7c84c2ddbdbc45aa0f104d15c42f75d9c054c412c1bef4fd3856", func := "loop.example/flitting/laws.FnThingCopy", spec := "fnThingCopy", apart := false, narrowed := true }
def FnThingCopyUptoSaid : Prop := fnThingCopyUptoRow.holds Tryz.pinned (OpenSpec.upto fnThingCopySpec)

/-- 'laws.FnTableKeeps', WHERE WHAT IT READS IS OF BULK AT MOST 1048576: true; the input reads as it did. -/
def fnTableKeepsUptoRow : OpenClaim := { program := "yteefnapldidgcaagreat", sum := "8dbfd4d4a1ba7c84c2ddbdbc45aa0f104d15c42f75d9c054c412c1bef4fd3856", func := "loop.example/flitting/laws.FnTableKeeps", spec := "fnTableKeeps", unfollowed := true, recurses := true, apart := false, narrowed := true }
def FnTableKeepsUptoSaid : Prop := fnTableKeepsUptoRow.holds Tryz.pinned (OpenSpec.upto fnTableKeepsSpec)

/-- 'laws.FnRoomTwice', WHERE WHAT IT READS IS OF BULK AT MOST 1048576: true; the input reads as it did. -/
def fnRoomTwiceUptoRow : OpenClaim := { program := "yteefnapldidgcaagreat", sum := "8dbfd4d4a1ba7c84c2ddbdbc45aa0f104d15c42f75d9c054c412c1bef4fd3856", func := "loop.example/flitting/laws.FnRoomTwice", spec := "fnRoomTwice", unfollowed := true, recurses := true, apart := false, narrowed := true }
def FnRoomTwiceUptoSaid : Prop := fnRoomTwiceUptoRow.holds Tryz.pinned (OpenSpec.upto fnRoomTwiceSpec)

end Rows
end Go.Proofs.YteefnapldidgcaaGreat
