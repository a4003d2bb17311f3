/-
  No cell of these rows narrows 'for every input' (looked for: loops, veiled, ifaces, maps, wideKeys, modest, calm, conditions, laid).
  DERIVED. THE GIVEN ROWS OF THIS SEAT. 3 by the template 'for every input the law returns true; each argument reads behind the call as it read before'; 0 by the template 'total and deterministic' (their statements: YtoajhnhjmhdfdaaGreatTotals.lean).
  GIVEN WITH THE SEED: the statements are not yours to turn. If you find one false, say at which input.
  Laid BY PROGRAM, IN A SANDBOX (cutbox-rows.mjs): the forced cells as the released guide's own fill.sh prints them over the translation 3ba02b4cfdad0033… (all of the seat's roots in one cut). By AI agents, Wed Nov 11 2026. No macro, syntax, notation, axiom, sorry.
-/
import Derived.Test.YtoajhnhjmhdfdaaGreatChecked
import GoSem.Claim
import GoSem.ClaimJoined
import GoSem.ClaimMapViews
import Derived.JoinedTies
import Derived.KernelRfl
namespace Go.Proofs.YtoajhnhjmhdfdaaGreat
/- THE CELL 'sum', in the pinned program and in every row, IS THE sha256 OF THE DUMP (.gsa) THAT YtoajhnhjmhdfdaaGreatProg.lean LOADS. Nothing in Lean hashes anything: it is a label: what it is worth is what the hold of that sum in a sandbox is worth. -/
noncomputable def Tryz.pinned : Pinned := { name := "ytoajhnhjmhdfdaagreat", sum := "3ba02b4cfdad003301e22d4853222658a07d6c623311f89862524d8afc7c8ac5", checked := Tryz.checked }
namespace Rows
def none {H : Type} : Left H := { results := [], args := [] }

/-- 'laws.FnTableRoom': WHATEVER THE INPUT: true; the input reads as it did. -/
def fnTableRoomSpec : ChangeSpec := { name := "fnTableRoom", fn := fun _ => fun
  | [d] => { results := [.lit (.bool true)], args := [d] }
  | _ => none }
def fnTableRoomRow : OpenClaim := { program := "ytoajhnhjmhdfdaagreat", sum := "3ba02b4cfdad003301e22d4853222658a07d6c623311f89862524d8afc7c8ac5", func := "loop.example/flitting/laws.FnTableRoom", spec := "fnTableRoom", unfollowed := true, recurses := true, apart := false }
def FnTableRoomSaid : Prop := fnTableRoomRow.holds Tryz.pinned (OpenSpec.ofChange fnTableRoomSpec)

/-- ITS FALSE NEIGHBOUR: 'it returns false'. Refute it at one input. -/
def fnTableRoomWrong : ChangeSpec := { name := "fnTableRoom", fn := fun _ => fun
  | [d] => { results := [.lit (.bool false)], args := [d] }
  | _ => none }
def FnTableRoomWrongFalsely : Prop := fnTableRoomRow.holds Tryz.pinned (OpenSpec.ofChange fnTableRoomWrong)

/-- 'laws.FnChooseHeld': WHATEVER THE INPUT: true; the input reads as it did. -/
def fnChooseHeldSpec : ChangeSpec := { name := "fnChooseHeld", fn := fun _ => fun
  | [d] => { results := [.lit (.bool true)], args := [d] }
  | _ => none }
def fnChooseHeldRow : OpenClaim := { program := "ytoajhnhjmhdfdaagreat", sum := "3ba02b4cfdad003301e22d4853222658a07d6c623311f89862524d8afc7c8ac5", func := "loop.example/flitting/laws.FnChooseHeld", spec := "fnChooseHeld", unfollowed := true, recurses := true, apart := false }
def FnChooseHeldSaid : Prop := fnChooseHeldRow.holds Tryz.pinned (OpenSpec.ofChange fnChooseHeldSpec)

/-- ITS FALSE NEIGHBOUR: 'it returns false'. Refute it at one input. -/
def fnChooseHeldWrong : ChangeSpec := { name := "fnChooseHeld", fn := fun _ => fun
  | [d] => { results := [.lit (.bool false)], args := [d] }
  | _ => none }
def FnChooseHeldWrongFalsely : Prop := fnChooseHeldRow.holds Tryz.pinned (OpenSpec.ofChange fnChooseHeldWrong)

/-- 'laws.FnTableChoose': WHATEVER THE INPUT: true; the input reads as it did. -/
def fnTableChooseSpec : ChangeSpec := { name := "fnTableChoose", fn := fun _ => fun
  | [d] => { results := [.lit (.bool true)], args := [d] }
  | _ => none }
def fnTableChooseRow : OpenClaim := { program := "ytoajhnhjmhdfdaagreat", sum := "3ba02b4cfdad003301e22d4853222658a07d6c623311f89862524d8afc7c8ac5", func := "loop.example/flitting/laws.FnTableChoose", spec := "fnTableChoose", unfollowed := true, recurses := true, apart := false }
def FnTableChooseSaid : Prop := fnTableChooseRow.holds Tryz.pinned (OpenSpec.ofChange fnTableChooseSpec)

/-- ITS FALSE NEIGHBOUR: 'it returns false'. Refute it at one input. -/
def fnTableChooseWrong : ChangeSpec := { name := "fnTableChoose", fn := fun _ => fun
  | [d] => { results := [.lit (.bool false)], args := [d] }
  | _ => none }
def FnTableChooseWrongFalsely : Prop := fnTableChooseRow.holds Tryz.pinned (OpenSpec.ofChange fnTableChooseWrong)

/- THE SECOND FORM. 'bulk': how many values and letters a reading holds, each counted each time it is reached (what is shared counts as often as it is met; a slice's spare places count too). A statement '..UptoSaid' is the law's where the arguments, and the package variables that the reading takes, are together of bulk at most 1048576: NARROWER than '..Said'. Prove '..Said' where nothing that the law and all that it calls make is longer than what came in: it says more and counts as full. Else prove '..UptoSaid'. A law counts once. -/
mutual
def uptoBulk {H : Type} : DataW H → Nat
  | .lit (.string bytes) => bytes.length + 1
  | .lit _ => 1
  | .nil => 1
  | .ptr d => uptoBulk d + 1
  | .slice elems spare => uptoBulkAll elems + uptoBulkAll spare + 1
  | .agg parts => uptoBulkAll parts + 1
  | .iface _ d => uptoBulk d + 1
  | .map entries => uptoBulkEntries entries + 1
  | .held _ => 1
def uptoBulkAll {H : Type} : List (DataW H) → Nat
  | [] => 0
  | d :: r => uptoBulk d + uptoBulkAll r
def uptoBulkEntries {H : Type} : List (Lit × DataW H) → Nat
  | [] => 0
  | x :: r => uptoBulkEntry x + uptoBulkEntries r
def uptoBulkEntry {H : Type} : Lit × DataW H → Nat
  | (.string bytes, d) => bytes.length + uptoBulk d + 1
  | (_, d) => uptoBulk d + 1
 end
def uptoSmall : (H : Type) → List (DataW H) → Bool := fun _ ds => decide (uptoBulkAll ds ≤ 1048576)
def OpenSpec.upto (s : _root_.Go.ChangeSpec) : _root_.Go.OpenSpec := { _root_.Go.OpenSpec.ofChange s with cond := some uptoSmall }

/-- 'laws.FnTableRoom', WHERE WHAT IT READS IS OF BULK AT MOST 1048576: true; the input reads as it did. -/
def fnTableRoomUptoRow : OpenClaim := { program := "ytoajhnhjmhdfdaagreat", sum := "3ba02b4cfdad003301e22d4853222658a07d6c623311f89862524d8afc7c8ac5", func := "loop.example/flitting/laws.FnTableRoom", spec := "fnTableRoom", unfollowed := true, recurses := true, apart := false, narrowed := true }
def FnTableRoomUptoSaid : Prop := fnTableRoomUptoRow.holds Tryz.pinned (OpenSpec.upto fnTableRoomSpec)

/-- 'laws.FnChooseHeld', WHERE WHAT IT READS IS OF BULK AT MOST 1048576: true; the input reads as it did. -/
def fnChooseHeldUptoRow : OpenClaim := { program := "ytoajhnhjmhdfdaagreat", sum := "3ba02b4cfdad003301e22d4853222658a07d6c623311f89862524d8afc7c8ac5", func := "loop.example/flitting/laws.FnChooseHeld", spec := "fnChooseHeld", unfollowed := true, recurses := true, apart := false, narrowed := true }
def FnChooseHeldUptoSaid : Prop := fnChooseHeldUptoRow.holds Tryz.pinned (OpenSpec.upto fnChooseHeldSpec)

/-- 'laws.FnTableChoose', WHERE WHAT IT READS IS OF BULK AT MOST 1048576: true; the input reads as it did. -/
def fnTableChooseUptoRow : OpenClaim := { program := "ytoajhnhjmhdfdaagreat", sum := "3ba02b4cfdad003301e22d4853222658a07d6c623311f89862524d8afc7c8ac5", func := "loop.example/flitting/laws.FnTableChoose", spec := "fnTableChoose", unfollowed := true, recurses := true, apart := false, narrowed := true }
def FnTableChooseUptoSaid : Prop := fnTableChooseUptoRow.holds Tryz.pinned (OpenSpec.upto fnTableChooseSpec)

end Rows
end Go.Proofs.YtoajhnhjmhdfdaaGreat
