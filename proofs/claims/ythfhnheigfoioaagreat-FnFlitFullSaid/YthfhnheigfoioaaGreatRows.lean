/-
  No cell of these rows narrows 'for every input' (looked for: loops, veiled, ifaces, maps, wideKeys, modest, calm, conditions, laid).
  DERIVED. THE GIVEN ROWS OF THIS SEAT. 5 by the template 'for every input the law returns true; each argument reads behind the call as it read before'; 0 by the template 'total and deterministic' (their statements: YthfhnheigfoioaaGreatTotals.lean).
  GIVEN WITH THE SEED: the statements are not yours to turn. If you find one false, say at which input.
  Laid BY PROGRAM, IN A SANDBOX (cutbox-rows.mjs): the forced cells as the released guide's own fill.sh prints them over the translation d10005698ae8d5bc… (all of the seat's roots in one cut). By AI agents, Wed Nov 11 2026. No macro, syntax, notation, axiom, sorry.
-/
import Derived.Test.YthfhnheigfoioaaGreatChecked
import GoSem.Claim
import GoSem.ClaimJoined
import GoSem.ClaimMapViews
import Derived.JoinedTies
import Derived.KernelRfl
namespace Go.Proofs.YthfhnheigfoioaaGreat
/- THE CELL 'sum', in the pinned program and in every row, IS THE sha256 OF THE DUMP (.gsa) THAT YthfhnheigfoioaaGreatProg.lean LOADS. Nothing in Lean hashes anything: it is a label: what it is worth is what the hold of that sum in a sandbox is worth. -/
noncomputable def Tryz.pinned : Pinned := { name := "ythfhnheigfoioaagreat", sum := "d10005698ae8d5bc7f05167f1b0b270d3010e2cefbdca04cbbed742911469fd8", checked := Tryz.checked }
namespace Rows
def none {H : Type} : Left H := { results := [], args := [] }

/-- 'laws.FnHistPrefix': WHATEVER THE INPUT: true; the input reads as it did. -/
def fnHistPrefixSpec : ChangeSpec := { name := "fnHistPrefix", fn := fun _ => fun
  | [d1, d2] => { results := [.lit (.bool true)], args := [d1, d2] }
  | _ => none }
def fnHistPrefixRow : OpenClaim := { program := "ythfhnheigfoioaagreat", sum := "d10005698ae8d5bc7f05167f1b0b270d3010e2cefbdca04cbbed742911469fd8", func := "loop.example/flitting/laws.FnHistPrefix", spec := "fnHistPrefix", unfollowed := true, recurses := true, apart := false }
def FnHistPrefixSaid : Prop := fnHistPrefixRow.holds Tryz.pinned (OpenSpec.ofChange fnHistPrefixSpec)

/-- ITS FALSE NEIGHBOUR: 'it returns false'. Refute it at one input. -/
def fnHistPrefixWrong : ChangeSpec := { name := "fnHistPrefix", fn := fun _ => fun
  | [d1, d2] => { results := [.lit (.bool false)], args := [d1, d2] }
  | _ => none }
def FnHistPrefixWrongFalsely : Prop := fnHistPrefixRow.holds Tryz.pinned (OpenSpec.ofChange fnHistPrefixWrong)

/-- 'laws.FnPlainFold': WHATEVER THE INPUT: true; the input reads as it did. -/
def fnPlainFoldSpec : ChangeSpec := { name := "fnPlainFold", fn := fun _ => fun
  | [d1, d2] => { results := [.lit (.bool true)], args := [d1, d2] }
  | _ => none }
def fnPlainFoldRow : OpenClaim := { program := "ythfhnheigfoioaagreat", sum := "d10005698ae8d5bc7f05167f1b0b270d3010e2cefbdca04cbbed742911469fd8", func := "loop.example/flitting/laws.FnPlainFold", spec := "fnPlainFold", unfollowed := true, recurses := true, apart := false }
def FnPlainFoldSaid : Prop := fnPlainFoldRow.holds Tryz.pinned (OpenSpec.ofChange fnPlainFoldSpec)

/-- ITS FALSE NEIGHBOUR: 'it returns false'. Refute it at one input. -/
def fnPlainFoldWrong : ChangeSpec := { name := "fnPlainFold", fn := fun _ => fun
  | [d1, d2] => { results := [.lit (.bool false)], args := [d1, d2] }
  | _ => none }
def FnPlainFoldWrongFalsely : Prop := fnPlainFoldRow.holds Tryz.pinned (OpenSpec.ofChange fnPlainFoldWrong)

/-- 'laws.FnCopyOrder': WHATEVER THE INPUT: true; the input reads as it did. -/
def fnCopyOrderSpec : ChangeSpec := { name := "fnCopyOrder", fn := fun _ => fun
  | [d] => { results := [.lit (.bool true)], args := [d] }
  | _ => none }
def fnCopyOrderRow : OpenClaim := { program := "ythfhnheigfoioaagreat", sum := "d10005698ae8d5bc7f05167f1b0b270d3010e2cefbdca04cbbed742911469fd8", func := "loop.example/flitting/laws.FnCopyOrder", spec := "fnCopyOrder", unfollowed := true, recurses := true, apart := false }
def FnCopyOrderSaid : Prop := fnCopyOrderRow.holds Tryz.pinned (OpenSpec.ofChange fnCopyOrderSpec)

/-- ITS FALSE NEIGHBOUR: 'it returns false'. Refute it at one input. -/
def fnCopyOrderWrong : ChangeSpec := { name := "fnCopyOrder", fn := fun _ => fun
  | [d] => { results := [.lit (.bool false)], args := [d] }
  | _ => none }
def FnCopyOrderWrongFalsely : Prop := fnCopyOrderRow.holds Tryz.pinned (OpenSpec.ofChange fnCopyOrderWrong)

/-- 'laws.FnFlitFull': WHATEVER THE INPUT: true; the input reads as it did. -/
def fnFlitFullSpec : ChangeSpec := { name := "fnFlitFull", fn := fun _ => fun
  | [d] => { results := [.lit (.bool true)], args := [d] }
  | _ => none }
def fnFlitFullRow : OpenClaim := { program := "ythfhnheigfoioaagreat", sum := "d10005698ae8d5bc7f05167f1b0b270d3010e2cefbdca04cbbed742911469fd8", func := "loop.example/flitting/laws.FnFlitFull", spec := "fnFlitFull", unfollowed := true, recurses := true, apart := false }
def FnFlitFullSaid : Prop := fnFlitFullRow.holds Tryz.pinned (OpenSpec.ofChange fnFlitFullSpec)

/-- ITS FALSE NEIGHBOUR: 'it returns false'. Refute it at one input. -/
def fnFlitFullWrong : ChangeSpec := { name := "fnFlitFull", fn := fun _ => fun
  | [d] => { results := [.lit (.bool false)], args := [d] }
  | _ => none }
def FnFlitFullWrongFalsely : Prop := fnFlitFullRow.holds Tryz.pinned (OpenSpec.ofChange fnFlitFullWrong)

/-- 'laws.FnCopySame': WHATEVER THE INPUT: true; the input reads as it did. -/
def fnCopySameSpec : ChangeSpec := { name := "fnCopySame", fn := fun _ => fun
  | [d] => { results := [.lit (.bool true)], args := [d] }
  | _ => none }
def fnCopySameRow : OpenClaim := { program := "ythfhnheigfoioaagreat", sum := "d10005698ae8d5bc7f05167f1b0b270d3010e2cefbdca04cbbed742911469fd8", func := "loop.example/flitting/laws.FnCopySame", spec := "fnCopySame", unfollowed := true, recurses := true, apart := false }
def FnCopySameSaid : Prop := fnCopySameRow.holds Tryz.pinned (OpenSpec.ofChange fnCopySameSpec)

/-- ITS FALSE NEIGHBOUR: 'it returns false'. Refute it at one input. -/
def fnCopySameWrong : ChangeSpec := { name := "fnCopySame", fn := fun _ => fun
  | [d] => { results := [.lit (.bool false)], args := [d] }
  | _ => none }
def FnCopySameWrongFalsely : Prop := fnCopySameRow.holds Tryz.pinned (OpenSpec.ofChange fnCopySameWrong)

/- THE SECOND FORM. 'bulk': how many values and letters a reading holds, each counted each time it is reached (what is shared counts as often as it is met; a slice's spare places count too). A statement '..UptoSaid' is the law's where the arguments, and the package variables that the reading takes, are together of bulk at most 1048576: NARROWER than '..Said'. Prove '..Said' where nothing that the law and all that it calls make is longer than what came in: it says more and counts as full. Else prove '..UptoSaid'. A law counts once. -/
mutual
def uptoBulk {H : Type} : DataW H → Nat
  | .lit (.string bytes) => bytes.length + 1
  | .lit _ => 1
  | .nil => 1
  | .ptr d => uptoBulk d + 1
  | .slice elems spare => uptoBulkAll elems + uptoBulkAll spare + 1
  | .agg parts => uptoBulkAll parts + 1
  | .iface _ d => uptoBulk d + 1
  | .map entries => uptoBulkEntries entries + 1
  | .held _ => 1
def uptoBulkAll {H : Type} : List (DataW H) → Nat
  | [] => 0
  | d :: r => uptoBulk d + uptoBulkAll r
def uptoBulkEntries {H : Type} : List (Lit × DataW H) → Nat
  | [] => 0
  | x :: r => uptoBulkEntry x + uptoBulkEntries r
def uptoBulkEntry {H : Type} : Lit × DataW H → Nat
  | (.string bytes, d) => bytes.length + uptoBulk d + 1
  | (_, d) => uptoBulk d + 1
 end
def uptoSmall : (H : Type) → List (DataW H) → Bool := fun _ ds => decide (uptoBulkAll ds ≤ 1048576)
def OpenSpec.upto (s : _root_.Go.ChangeSpec) : _root_.Go.OpenSpec := { _root_.Go.OpenSpec.ofChange s with cond := some uptoSmall }

/-- 'laws.FnHistPrefix', WHERE WHAT IT READS IS OF BULK AT MOST 1048576: true; the input reads as it did. -/
def fnHistPrefixUptoRow : OpenClaim := { program := "ythfhnheigfoioaagreat", sum := "d10005698ae8d5bc7f05167f1b0b270d3010e2cefbdca04cbbed742911469fd8", func := "loop.example/flitting/laws.FnHistPrefix", spec := "fnHistPrefix", unfollowed := true, recurses := true, apart := false, narrowed := true }
def FnHistPrefixUptoSaid : Prop := fnHistPrefixUptoRow.holds Tryz.pinned (OpenSpec.upto fnHistPrefixSpec)

/-- 'laws.FnPlainFold', WHERE WHAT IT READS IS OF BULK AT MOST 1048576: true; the input reads as it did. -/
def fnPlainFoldUptoRow : OpenClaim := { program := "ythfhnheigfoioaagreat", sum := "d10005698ae8d5bc7f05167f1b0b270d3010e2cefbdca04cbbed742911469fd8", func := "loop.example/flitting/laws.FnPlainFold", spec := "fnPlainFold", unfollowed := true, recurses := true, apart := false, narrowed := true }
def FnPlainFoldUptoSaid : Prop := fnPlainFoldUptoRow.holds Tryz.pinned (OpenSpec.upto fnPlainFoldSpec)

/-- 'laws.FnCopyOrder', WHERE WHAT IT READS IS OF BULK AT MOST 1048576: true; the input reads as it did. -/
def fnCopyOrderUptoRow : OpenClaim := { program := "ythfhnheigfoioaagreat", sum := "d10005698ae8d5bc7f05167f1b0b270d3010e2cefbdca04cbbed742911469fd8", func := "loop.example/flitting/laws.FnCopyOrder", spec := "fnCopyOrder", unfollowed := true, recurses := true, apart := false, narrowed := true }
def FnCopyOrderUptoSaid : Prop := fnCopyOrderUptoRow.holds Tryz.pinned (OpenSpec.upto fnCopyOrderSpec)

/-- 'laws.FnFlitFull', WHERE WHAT IT READS IS OF BULK AT MOST 1048576: true; the input reads as it did. -/
def fnFlitFullUptoRow : OpenClaim := { program := "ythfhnheigfoioaagreat", sum := "d10005698ae8d5bc7f05167f1b0b270d3010e2cefbdca04cbbed742911469fd8", func := "loop.example/flitting/laws.FnFlitFull", spec := "fnFlitFull", unfollowed := true, recurses := true, apart := false, narrowed := true }
def FnFlitFullUptoSaid : Prop := fnFlitFullUptoRow.holds Tryz.pinned (OpenSpec.upto fnFlitFullSpec)

/-- 'laws.FnCopySame', WHERE WHAT IT READS IS OF BULK AT MOST 1048576: true; the input reads as it did. -/
def fnCopySameUptoRow : OpenClaim := { program := "ythfhnheigfoioaagreat", sum := "d10005698ae8d5bc7f05167f1b0b270d3010e2cefbdca04cbbed742911469fd8", func := "loop.example/flitting/laws.FnCopySame", spec := "fnCopySame", unfollowed := true, recurses := true, apart := false, narrowed := true }
def FnCopySameUptoSaid : Prop := fnCopySameUptoRow.holds Tryz.pinned (OpenSpec.upto fnCopySameSpec)

end Rows
end Go.Proofs.YthfhnheigfoioaaGreat
