/-
  No cell of these rows narrows 'for every input' (looked for: loops, veiled, ifaces, maps, wideKeys, modest, calm, conditions, laid).
  DERIVED. THE GIVEN ROWS OF THIS SEAT. 6 by the template 'for every input the law returns true; each argument reads behind the call as it read before'; 0 by the template 'total and deterministic' (their statements: YthifcapakfcfnaaGreatTotals.lean).
  GIVEN WITH THE SEED: the statements are not yours to turn. If you find one false, say at which input.
  Laid BY PROGRAM, IN A SANDBOX (cutbox-rows.mjs): the forced cells as the released guide's own fill.sh prints them over the translation dc3b289522d79574… (all of the seat's roots in one cut). By AI agents, Wed Nov 11 2026. No macro, syntax, notation, axiom, sorry.
-/
import Derived.Test.YthifcapakfcfnaaGreatChecked
import GoSem.Claim
import GoSem.ClaimJoined
import GoSem.ClaimMapViews
import Derived.JoinedTies
import Derived.KernelRfl
namespace Go.Proofs.YthifcapakfcfnaaGreat
/- THE CELL 'sum', in the pinned program and in every row, IS THE sha256 OF THE DUMP (.gsa) THAT YthifcapakfcfnaaGreatProg.lean LOADS. Nothing in Lean hashes anything: it is a label: what it is worth is what the hold of that sum in a sandbox is worth. -/
noncomputable def Tryz.pinned : Pinned := { name := "ythifcapakfcfnaagreat", sum := "dc3b289522d79574f228e8318dcae4820271f60d6c766df3c9fa95717e3d1690", checked := Tryz.checked }
namespace Rows
def none {H : Type} : Left H := { results := [], args := [] }

/-- 'laws.FnFlitSafe': WHATEVER THE INPUT: true; the input reads as it did. -/
def fnFlitSafeSpec : ChangeSpec := { name := "fnFlitSafe", fn := fun _ => fun
  | [d1, d2] => { results := [.lit (.bool true)], args := [d1, d2] }
  | _ => none }
def fnFlitSafeRow : OpenClaim := { program := "ythifcapakfcfnaagreat", sum := "dc3b289522d79574f228e8318dcae4820271f60d6c766df3c9fa95717e3d1690", func := "loop.example/flitting/laws.FnFlitSafe", spec := "fnFlitSafe", unfollowed := true, recurses := true, apart := false }
def FnFlitSafeSaid : Prop := fnFlitSafeRow.holds Tryz.pinned (OpenSpec.ofChange fnFlitSafeSpec)

/-- ITS FALSE NEIGHBOUR: 'it returns false'. Refute it at one input. -/
def fnFlitSafeWrong : ChangeSpec := { name := "fnFlitSafe", fn := fun _ => fun
  | [d1, d2] => { results := [.lit (.bool false)], args := [d1, d2] }
  | _ => none }
def FnFlitSafeWrongFalsely : Prop := fnFlitSafeRow.holds Tryz.pinned (OpenSpec.ofChange fnFlitSafeWrong)

/-- 'laws.FnHistPrefix': WHATEVER THE INPUT: true; the input reads as it did. -/
def fnHistPrefixSpec : ChangeSpec := { name := "fnHistPrefix", fn := fun _ => fun
  | [d1, d2] => { results := [.lit (.bool true)], args := [d1, d2] }
  | _ => none }
def fnHistPrefixRow : OpenClaim := { program := "ythifcapakfcfnaagreat", sum := "dc3b289522d79574f228e8318dcae4820271f60d6c766df3c9fa95717e3d1690", func := "loop.example/flitting/laws.FnHistPrefix", spec := "fnHistPrefix", unfollowed := true, recurses := true, apart := false }
def FnHistPrefixSaid : Prop := fnHistPrefixRow.holds Tryz.pinned (OpenSpec.ofChange fnHistPrefixSpec)

/-- ITS FALSE NEIGHBOUR: 'it returns false'. Refute it at one input. -/
def fnHistPrefixWrong : ChangeSpec := { name := "fnHistPrefix", fn := fun _ => fun
  | [d1, d2] => { results := [.lit (.bool false)], args := [d1, d2] }
  | _ => none }
def FnHistPrefixWrongFalsely : Prop := fnHistPrefixRow.holds Tryz.pinned (OpenSpec.ofChange fnHistPrefixWrong)

/-- 'laws.FnFlitPhases': WHATEVER THE INPUT: true; the input reads as it did. -/
def fnFlitPhasesSpec : ChangeSpec := { name := "fnFlitPhases", fn := fun _ => fun
  | [d] => { results := [.lit (.bool true)], args := [d] }
  | _ => none }
def fnFlitPhasesRow : OpenClaim := { program := "ythifcapakfcfnaagreat", sum := "dc3b289522d79574f228e8318dcae4820271f60d6c766df3c9fa95717e3d1690", func := "loop.example/flitting/laws.FnFlitPhases", spec := "fnFlitPhases", unfollowed := true, recurses := true, apart := false }
def FnFlitPhasesSaid : Prop := fnFlitPhasesRow.holds Tryz.pinned (OpenSpec.ofChange fnFlitPhasesSpec)

/-- ITS FALSE NEIGHBOUR: 'it returns false'. Refute it at one input. -/
def fnFlitPhasesWrong : ChangeSpec := { name := "fnFlitPhases", fn := fun _ => fun
  | [d] => { results := [.lit (.bool false)], args := [d] }
  | _ => none }
def FnFlitPhasesWrongFalsely : Prop := fnFlitPhasesRow.holds Tryz.pinned (OpenSpec.ofChange fnFlitPhasesWrong)

/-- 'laws.FnFlitPinned': WHATEVER THE INPUT: true; the input reads as it did. -/
def fnFlitPinnedSpec : ChangeSpec := { name := "fnFlitPinned", fn := fun _ => fun
  | [d1, d2] => { results := [.lit (.bool true)], args := [d1, d2] }
  | _ => none }
def fnFlitPinnedRow : OpenClaim := { program := "ythifcapakfcfnaagreat", sum := "dc3b289522d79574f228e8318dcae4820271f60d6c766df3c9fa95717e3d1690", func := "loop.example/flitting/laws.FnFlitPinned", spec := "fnFlitPinned", unfollowed := true, recurses := true, apart := false }
def FnFlitPinnedSaid : Prop := fnFlitPinnedRow.holds Tryz.pinned (OpenSpec.ofChange fnFlitPinnedSpec)

/-- ITS FALSE NEIGHBOUR: 'it returns false'. Refute it at one input. -/
def fnFlitPinnedWrong : ChangeSpec := { name := "fnFlitPinned", fn := fun _ => fun
  | [d1, d2] => { results := [.lit (.bool false)], args := [d1, d2] }
  | _ => none }
def FnFlitPinnedWrongFalsely : Prop := fnFlitPinnedRow.holds Tryz.pinned (OpenSpec.ofChange fnFlitPinnedWrong)

/-- 'laws.FnFlitIdle': WHATEVER THE INPUT: true; the input reads as it did. -/
def fnFlitIdleSpec : ChangeSpec := { name := "fnFlitIdle", fn := fun _ => fun
  | [d] => { results := [.lit (.bool true)], args := [d] }
  | _ => none }
def fnFlitIdleRow : OpenClaim := { program := "ythifcapakfcfnaagreat", sum := "dc3b289522d79574f228e8318dcae4820271f60d6c766df3c9fa95717e3d1690", func := "loop.example/flitting/laws.FnFlitIdle", spec := "fnFlitIdle", unfollowed := true, recurses := true, apart := false }
def FnFlitIdleSaid : Prop := fnFlitIdleRow.holds Tryz.pinned (OpenSpec.ofChange fnFlitIdleSpec)

/-- ITS FALSE NEIGHBOUR: 'it returns false'. Refute it at one input. -/
def fnFlitIdleWrong : ChangeSpec := { name := "fnFlitIdle", fn := fun _ => fun
  | [d] => { results := [.lit (.bool false)], args := [d] }
  | _ => none }
def FnFlitIdleWrongFalsely : Prop := fnFlitIdleRow.holds Tryz.pinned (OpenSpec.ofChange fnFlitIdleWrong)

/-- 'laws.FnFlitMarked': WHATEVER THE INPUT: true; the input reads as it did. -/
def fnFlitMarkedSpec : ChangeSpec := { name := "fnFlitMarked", fn := fun _ => fun
  | [d1, d2] => { results := [.lit (.bool true)], args := [d1, d2] }
  | _ => none }
def fnFlitMarkedRow : OpenClaim := { program := "ythifcapakfcfnaagreat", sum := "dc3b289522d79574f228e8318dcae4820271f60d6c766df3c9fa95717e3d1690", func := "loop.example/flitting/laws.FnFlitMarked", spec := "fnFlitMarked", unfollowed := true, recurses := true, apart := false }
def FnFlitMarkedSaid : Prop := fnFlitMarkedRow.holds Tryz.pinned (OpenSpec.ofChange fnFlitMarkedSpec)

/-- ITS FALSE NEIGHBOUR: 'it returns false'. Refute it at one input. -/
def fnFlitMarkedWrong : ChangeSpec := { name := "fnFlitMarked", fn := fun _ => fun
  | [d1, d2] => { results := [.lit (.bool false)], args := [d1, d2] }
  | _ => none }
def FnFlitMarkedWrongFalsely : Prop := fnFlitMarkedRow.holds Tryz.pinned (OpenSpec.ofChange fnFlitMarkedWrong)

/- THE SECOND FORM. 'bulk': how many values and letters a reading holds, each counted each time it is reached (what is shared counts as often as it is met; a slice's spare places count too). A statement '..UptoSaid' is the law's where the arguments, and the package variables that the reading takes, are together of bulk at most 1048576: NARROWER than '..Said'. Prove '..Said' where nothing that the law and all that it calls make is longer than what came in: it says more and counts as full. Else prove '..UptoSaid'. A law counts once. -/
mutual
def uptoBulk {H : Type} : DataW H → Nat
  | .lit (.string bytes) => bytes.length + 1
  | .lit _ => 1
  | .nil => 1
  | .ptr d => uptoBulk d + 1
  | .slice elems spare => uptoBulkAll elems + uptoBulkAll spare + 1
  | .agg parts => uptoBulkAll parts + 1
  | .iface _ d => uptoBulk d + 1
  | .map entries => uptoBulkEntries entries + 1
  | .held _ => 1
def uptoBulkAll {H : Type} : List (DataW H) → Nat
  | [] => 0
  | d :: r => uptoBulk d + uptoBulkAll r
def uptoBulkEntries {H : Type} : List (Lit × DataW H) → Nat
  | [] => 0
  | x :: r => uptoBulkEntry x + uptoBulkEntries r
def uptoBulkEntry {H : Type} : Lit × DataW H → Nat
  | (.string bytes, d) => bytes.length + uptoBulk d + 1
  | (_, d) => uptoBulk d + 1
 end
def uptoSmall : (H : Type) → List (DataW H) → Bool := fun _ ds => decide (uptoBulkAll ds ≤ 1048576)
def OpenSpec.upto (s : _root_.Go.ChangeSpec) : _root_.Go.OpenSpec := { _root_.Go.OpenSpec.ofChange s with cond := some uptoSmall }

/-- 'laws.FnFlitSafe', WHERE WHAT IT READS IS OF BULK AT MOST 1048576: true; the input reads as it did. -/
def fnFlitSafeUptoRow : OpenClaim := { program := "ythifcapakfcfnaagreat", sum := "dc3b289522d79574f228e8318dcae4820271f60d6c766df3c9fa95717e3d1690", func := "loop.example/flitting/laws.FnFlitSafe", spec := "fnFlitSafe", unfollowed := true, recurses := true, apart := false, narrowed := true }
def FnFlitSafeUptoSaid : Prop := fnFlitSafeUptoRow.holds Tryz.pinned (OpenSpec.upto fnFlitSafeSpec)

/-- 'laws.FnHistPrefix', WHERE WHAT IT READS IS OF BULK AT MOST 1048576: true; the input reads as it did. -/
def fnHistPrefixUptoRow : OpenClaim := { program := "ythifcapakfcfnaagreat", sum := "dc3b289522d79574f228e8318dcae4820271f60d6c766df3c9fa95717e3d1690", func := "loop.example/flitting/laws.FnHistPrefix", spec := "fnHistPrefix", unfollowed := true, recurses := true, apart := false, narrowed := true }
def FnHistPrefixUptoSaid : Prop := fnHistPrefixUptoRow.holds Tryz.pinned (OpenSpec.upto fnHistPrefixSpec)

/-- 'laws.FnFlitPhases', WHERE WHAT IT READS IS OF BULK AT MOST 1048576: true; the input reads as it did. -/
def fnFlitPhasesUptoRow : OpenClaim := { program := "ythifcapakfcfnaagreat", sum := "dc3b289522d79574f228e8318dcae4820271f60d6c766df3c9fa95717e3d1690", func := "loop.example/flitting/laws.FnFlitPhases", spec := "fnFlitPhases", unfollowed := true, recurses := true, apart := false, narrowed := true }
def FnFlitPhasesUptoSaid : Prop := fnFlitPhasesUptoRow.holds Tryz.pinned (OpenSpec.upto fnFlitPhasesSpec)

/-- 'laws.FnFlitPinned', WHERE WHAT IT READS IS OF BULK AT MOST 1048576: true; the input reads as it did. -/
def fnFlitPinnedUptoRow : OpenClaim := { program := "ythifcapakfcfnaagreat", sum := "dc3b289522d79574f228e8318dcae4820271f60d6c766df3c9fa95717e3d1690", func := "loop.example/flitting/laws.FnFlitPinned", spec := "fnFlitPinned", unfollowed := true, recurses := true, apart := false, narrowed := true }
def FnFlitPinnedUptoSaid : Prop := fnFlitPinnedUptoRow.holds Tryz.pinned (OpenSpec.upto fnFlitPinnedSpec)

/-- 'laws.FnFlitIdle', WHERE WHAT IT READS IS OF BULK AT MOST 1048576: true; the input reads as it did. -/
def fnFlitIdleUptoRow : OpenClaim := { program := "ythifcapakfcfnaagreat", sum := "dc3b289522d79574f228e8318dcae4820271f60d6c766df3c9fa95717e3d1690", func := "loop.example/flitting/laws.FnFlitIdle", spec := "fnFlitIdle", unfollowed := true, recurses := true, apart := false, narrowed := true }
def FnFlitIdleUptoSaid : Prop := fnFlitIdleUptoRow.holds Tryz.pinned (OpenSpec.upto fnFlitIdleSpec)

/-- 'laws.FnFlitMarked', WHERE WHAT IT READS IS OF BULK AT MOST 1048576: true; the input reads as it did. -/
def fnFlitMarkedUptoRow : OpenClaim := { program := "ythifcapakfcfnaagreat", sum := "dc3b289522d79574f228e8318dcae4820271f60d6c766df3c9fa95717e3d1690", func := "loop.example/flitting/laws.FnFlitMarked", spec := "fnFlitMarked", unfollowed := true, recurses := true, apart := false, narrowed := true }
def FnFlitMarkedUptoSaid : Prop := fnFlitMarkedUptoRow.holds Tryz.pinned (OpenSpec.upto fnFlitMarkedSpec)

end Rows
end Go.Proofs.YthifcapakfcfnaaGreat
