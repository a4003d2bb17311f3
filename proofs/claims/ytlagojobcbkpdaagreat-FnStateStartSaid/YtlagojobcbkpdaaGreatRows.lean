/-
  No cell of these rows narrows 'for every input' (looked for: loops, veiled, ifaces, maps, wideKeys, modest, calm, conditions, laid).
  DERIVED. THE GIVEN ROWS OF THIS SEAT. 6 by the template 'for every input the law returns true; each argument reads behind the call as it read before'; 0 by the template 'total and deterministic' (their statements: YtlagojobcbkpdaaGreatTotals.lean).
  GIVEN WITH THE SEED: the statements are not yours to turn. If you find one false, say at which input.
  Laid BY PROGRAM, IN A SANDBOX (cutbox-rows.mjs): the forced cells as the released guide's own fill.sh prints them over the translation b1df7ce6d7282f96… (all of the seat's roots in one cut). By AI agents, Wed Nov 11 2026. No macro, syntax, notation, axiom, sorry.
-/
import Derived.Test.YtlagojobcbkpdaaGreatChecked
import GoSem.Claim
import GoSem.ClaimJoined
import GoSem.ClaimMapViews
import Derived.JoinedTies
import Derived.KernelRfl
namespace Go.Proofs.YtlagojobcbkpdaaGreat
/- THE CELL 'sum', in the pinned program and in every row, IS THE sha256 OF THE DUMP (.gsa) THAT YtlagojobcbkpdaaGreatProg.lean LOADS. Nothing in Lean hashes anything: it is a label: what it is worth is what the hold of that sum in a sandbox is worth. -/
noncomputable def Tryz.pinned : Pinned := { name := "ytlagojobcbkpdaagreat", sum := "b1df7ce6d7282f967cecfe4db5438085bd200903a365d87fdc9547e376e62c4f", checked := Tryz.checked }
namespace Rows
def none {H : Type} : Left H := { results := [], args := [] }

/-- 'laws.FnStateAudits': WHATEVER THE INPUT: true; the input reads as it did. -/
def fnStateAuditsSpec : ChangeSpec := { name := "fnStateAudits", fn := fun _ => fun
  | [d] => { results := [.lit (.bool true)], args := [d] }
  | _ => none }
def fnStateAuditsRow : OpenClaim := { program := "ytlagojobcbkpdaagreat", sum := "b1df7ce6d7282f967cecfe4db5438085bd200903a365d87fdc9547e376e62c4f", func := "loop.example/flitting/laws.FnStateAudits", spec := "fnStateAudits", unfollowed := true, recurses := true, apart := false }
def FnStateAuditsSaid : Prop := fnStateAuditsRow.holds Tryz.pinned (OpenSpec.ofChange fnStateAuditsSpec)

/-- ITS FALSE NEIGHBOUR: 'it returns false'. Refute it at one input. -/
def fnStateAuditsWrong : ChangeSpec := { name := "fnStateAudits", fn := fun _ => fun
  | [d] => { results := [.lit (.bool false)], args := [d] }
  | _ => none }
def FnStateAuditsWrongFalsely : Prop := fnStateAuditsRow.holds Tryz.pinned (OpenSpec.ofChange fnStateAuditsWrong)

/-- 'laws.FnStateStart': WHATEVER THE INPUT: true; the input reads as it did. -/
def fnStateStartSpec : ChangeSpec := { name := "fnStateStart", fn := fun _ => fun
  | [d] => { results := [.lit (.bool true)], args := [d] }
  | _ => none }
def fnStateStartRow : OpenClaim := { program := "ytlagojobcbkpdaagreat", sum := "b1df7ce6d7282f967cecfe4db5438085bd200903a365d87fdc9547e376e62c4f", func := "loop.example/flitting/laws.FnStateStart", spec := "fnStateStart", unfollowed := true, recurses := true, apart := false }
def FnStateStartSaid : Prop := fnStateStartRow.holds Tryz.pinned (OpenSpec.ofChange fnStateStartSpec)

/-- ITS FALSE NEIGHBOUR: 'it returns false'. Refute it at one input. -/
def fnStateStartWrong : ChangeSpec := { name := "fnStateStart", fn := fun _ => fun
  | [d] => { results := [.lit (.bool false)], args := [d] }
  | _ => none }
def FnStateStartWrongFalsely : Prop := fnStateStartRow.holds Tryz.pinned (OpenSpec.ofChange fnStateStartWrong)

/-- 'laws.FnMarkReach': WHATEVER THE INPUT: true; the input reads as it did. -/
def fnMarkReachSpec : ChangeSpec := { name := "fnMarkReach", fn := fun _ => fun
  | [d] => { results := [.lit (.bool true)], args := [d] }
  | _ => none }
def fnMarkReachRow : OpenClaim := { program := "ytlagojobcbkpdaagreat", sum := "b1df7ce6d7282f967cecfe4db5438085bd200903a365d87fdc9547e376e62c4f", func := "loop.example/flitting/laws.FnMarkReach", spec := "fnMarkReach", unfollowed := true, recurses := true, apart := false }
def FnMarkReachSaid : Prop := fnMarkReachRow.holds Tryz.pinned (OpenSpec.ofChange fnMarkReachSpec)

/-- ITS FALSE NEIGHBOUR: 'it returns false'. Refute it at one input. -/
def fnMarkReachWrong : ChangeSpec := { name := "fnMarkReach", fn := fun _ => fun
  | [d] => { results := [.lit (.bool false)], args := [d] }
  | _ => none }
def FnMarkReachWrongFalsely : Prop := fnMarkReachRow.holds Tryz.pinned (OpenSpec.ofChange fnMarkReachWrong)

/-- 'laws.FnAuditWords': WHATEVER THE INPUT: true; the input reads as it did. -/
def fnAuditWordsSpec : ChangeSpec := { name := "fnAuditWords", fn := fun _ => fun
  | [d] => { results := [.lit (.bool true)], args := [d] }
  | _ => none }
def fnAuditWordsRow : OpenClaim := { program := "ytlagojobcbkpdaagreat", sum := "b1df7ce6d7282f967cecfe4db5438085bd200903a365d87fdc9547e376e62c4f", func := "loop.example/flitting/laws.FnAuditWords", spec := "fnAuditWords", unfollowed := true, recurses := true, apart := false }
def FnAuditWordsSaid : Prop := fnAuditWordsRow.holds Tryz.pinned (OpenSpec.ofChange fnAuditWordsSpec)

/-- ITS FALSE NEIGHBOUR: 'it returns false'. Refute it at one input. -/
def fnAuditWordsWrong : ChangeSpec := { name := "fnAuditWords", fn := fun _ => fun
  | [d] => { results := [.lit (.bool false)], args := [d] }
  | _ => none }
def FnAuditWordsWrongFalsely : Prop := fnAuditWordsRow.holds Tryz.pinned (OpenSpec.ofChange fnAuditWordsWrong)

/-- 'laws.FnFullLive': WHATEVER THE INPUT: true; the input reads as it did. -/
def fnFullLiveSpec : ChangeSpec := { name := "fnFullLive", fn := fun _ => fun
  | [d] => { results := [.lit (.bool true)], args := [d] }
  | _ => none }
def fnFullLiveRow : OpenClaim := { program := "ytlagojobcbkpdaagreat", sum := "b1df7ce6d7282f967cecfe4db5438085bd200903a365d87fdc9547e376e62c4f", func := "loop.example/flitting/laws.FnFullLive", spec := "fnFullLive", unfollowed := true, recurses := true, apart := false }
def FnFullLiveSaid : Prop := fnFullLiveRow.holds Tryz.pinned (OpenSpec.ofChange fnFullLiveSpec)

/-- ITS FALSE NEIGHBOUR: 'it returns false'. Refute it at one input. -/
def fnFullLiveWrong : ChangeSpec := { name := "fnFullLive", fn := fun _ => fun
  | [d] => { results := [.lit (.bool false)], args := [d] }
  | _ => none }
def FnFullLiveWrongFalsely : Prop := fnFullLiveRow.holds Tryz.pinned (OpenSpec.ofChange fnFullLiveWrong)

/-- 'laws.FnFullPins': WHATEVER THE INPUT: true; the input reads as it did. -/
def fnFullPinsSpec : ChangeSpec := { name := "fnFullPins", fn := fun _ => fun
  | [d] => { results := [.lit (.bool true)], args := [d] }
  | _ => none }
def fnFullPinsRow : OpenClaim := { program := "ytlagojobcbkpdaagreat", sum := "b1df7ce6d7282f967cecfe4db5438085bd200903a365d87fdc9547e376e62c4f", func := "loop.example/flitting/laws.FnFullPins", spec := "fnFullPins", unfollowed := true, recurses := true, apart := false }
def FnFullPinsSaid : Prop := fnFullPinsRow.holds Tryz.pinned (OpenSpec.ofChange fnFullPinsSpec)

/-- ITS FALSE NEIGHBOUR: 'it returns false'. Refute it at one input. -/
def fnFullPinsWrong : ChangeSpec := { name := "fnFullPins", fn := fun _ => fun
  | [d] => { results := [.lit (.bool false)], args := [d] }
  | _ => none }
def FnFullPinsWrongFalsely : Prop := fnFullPinsRow.holds Tryz.pinned (OpenSpec.ofChange fnFullPinsWrong)

/- THE SECOND FORM. 'bulk': how many values and letters a reading holds, each counted each time it is reached (what is shared counts as often as it is met; a slice's spare places count too). A statement '..UptoSaid' is the law's where the arguments, and the package variables that the reading takes, are together of bulk at most 1048576: NARROWER than '..Said'. Prove '..Said' where nothing that the law and all that it calls make is longer than what came in: it says more and counts as full. Else prove '..UptoSaid'. A law counts once. -/
mutual
def uptoBulk {H : Type} : DataW H → Nat
  | .lit (.string bytes) => bytes.length + 1
  | .lit _ => 1
  | .nil => 1
  | .ptr d => uptoBulk d + 1
  | .slice elems spare => uptoBulkAll elems + uptoBulkAll spare + 1
  | .agg parts => uptoBulkAll parts + 1
  | .iface _ d => uptoBulk d + 1
  | .map entries => uptoBulkEntries entries + 1
  | .held _ => 1
def uptoBulkAll {H : Type} : List (DataW H) → Nat
  | [] => 0
  | d :: r => uptoBulk d + uptoBulkAll r
def uptoBulkEntries {H : Type} : List (Lit × DataW H) → Nat
  | [] => 0
  | x :: r => uptoBulkEntry x + uptoBulkEntries r
def uptoBulkEntry {H : Type} : Lit × DataW H → Nat
  | (.string bytes, d) => bytes.length + uptoBulk d + 1
  | (_, d) => uptoBulk d + 1
 end
def uptoSmall : (H : Type) → List (DataW H) → Bool := fun _ ds => decide (uptoBulkAll ds ≤ 1048576)
def OpenSpec.upto (s : _root_.Go.ChangeSpec) : _root_.Go.OpenSpec := { _root_.Go.OpenSpec.ofChange s with cond := some uptoSmall }

/-- 'laws.FnStateAudits', WHERE WHAT IT READS IS OF BULK AT MOST 1048576: true; the input reads as it did. -/
def fnStateAuditsUptoRow : OpenClaim := { program := "ytlagojobcbkpdaagreat", sum := "b1df7ce6d7282f967cecfe4db5438085bd200903a365d87fdc9547e376e62c4f", func := "loop.example/flitting/laws.FnStateAudits", spec := "fnStateAudits", unfollowed := true, recurses := true, apart := false, narrowed := true }
def FnStateAuditsUptoSaid : Prop := fnStateAuditsUptoRow.holds Tryz.pinned (OpenSpec.upto fnStateAuditsSpec)

/-- 'laws.FnStateStart', WHERE WHAT IT READS IS OF BULK AT MOST 1048576: true; the input reads as it did. -/
def fnStateStartUptoRow : OpenClaim := { program := "ytlagojobcbkpdaagreat", sum := "b1df7ce6d7282f967cecfe4db5438085bd200903a365d87fdc9547e376e62c4f", func := "loop.example/flitting/laws.FnStateStart", spec := "fnStateStart", unfollowed := true, recurses := true, apart := false, narrowed := true }
def FnStateStartUptoSaid : Prop := fnStateStartUptoRow.holds Tryz.pinned (OpenSpec.upto fnStateStartSpec)

/-- 'laws.FnMarkReach', WHERE WHAT IT READS IS OF BULK AT MOST 1048576: true; the input reads as it did. -/
def fnMarkReachUptoRow : OpenClaim := { program := "ytlagojobcbkpdaagreat", sum := "b1df7ce6d7282f967cecfe4db5438085bd200903a365d87fdc9547e376e62c4f", func := "loop.example/flitting/laws.FnMarkReach", spec := "fnMarkReach", unfollowed := true, recurses := true, apart := false, narrowed := true }
def FnMarkReachUptoSaid : Prop := fnMarkReachUptoRow.holds Tryz.pinned (OpenSpec.upto fnMarkReachSpec)

/-- 'laws.FnAuditWords', WHERE WHAT IT READS IS OF BULK AT MOST 1048576: true; the input reads as it did. -/
def fnAuditWordsUptoRow : OpenClaim := { program := "ytlagojobcbkpdaagreat", sum := "b1df7ce6d7282f967cecfe4db5438085bd200903a365d87fdc9547e376e62c4f", func := "loop.example/flitting/laws.FnAuditWords", spec := "fnAuditWords", unfollowed := true, recurses := true, apart := false, narrowed := true }
def FnAuditWordsUptoSaid : Prop := fnAuditWordsUptoRow.holds Tryz.pinned (OpenSpec.upto fnAuditWordsSpec)

/-- 'laws.FnFullLive', WHERE WHAT IT READS IS OF BULK AT MOST 1048576: true; the input reads as it did. -/
def fnFullLiveUptoRow : OpenClaim := { program := "ytlagojobcbkpdaagreat", sum := "b1df7ce6d7282f967cecfe4db5438085bd200903a365d87fdc9547e376e62c4f", func := "loop.example/flitting/laws.FnFullLive", spec := "fnFullLive", unfollowed := true, recurses := true, apart := false, narrowed := true }
def FnFullLiveUptoSaid : Prop := fnFullLiveUptoRow.holds Tryz.pinned (OpenSpec.upto fnFullLiveSpec)

/-- 'laws.FnFullPins', WHERE WHAT IT READS IS OF BULK AT MOST 1048576: true; the input reads as it did. -/
def fnFullPinsUptoRow : OpenClaim := { program := "ytlagojobcbkpdaagreat", sum := "b1df7ce6d7282f967cecfe4db5438085bd200903a365d87fdc9547e376e62c4f", func := "loop.example/flitting/laws.FnFullPins", spec := "fnFullPins", unfollowed := true, recurses := true, apart := false, narrowed := true }
def FnFullPinsUptoSaid : Prop := fnFullPinsUptoRow.holds Tryz.pinned (OpenSpec.upto fnFullPinsSpec)

end Rows
end Go.Proofs.YtlagojobcbkpdaaGreat
