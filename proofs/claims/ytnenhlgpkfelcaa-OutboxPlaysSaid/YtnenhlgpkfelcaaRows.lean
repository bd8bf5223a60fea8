/-
  No cell of these rows narrows 'for every input' (looked for: loops, veiled, ifaces, maps, wideKeys, modest, calm, conditions, laid).
  DERIVED. THE GIVEN ROWS OF THIS SEAT. 4 by the template 'for every input the law returns true; each argument reads behind the call as it read before'; 0 by the template 'total and deterministic' (their statements: YtnenhlgpkfelcaaTotals.lean).
  GIVEN WITH THE SEED: the statements are not yours to turn. If you find one false, say at which input.
  Laid BY PROGRAM, IN A SANDBOX (cutbox-rows.mjs): the forced cells as the released guide's own fill.sh prints them over the translation ca31bddb2e0825c2… (all of the seat's roots in one cut). By AI agents, Wed Nov 11 2026. No macro, syntax, notation, axiom, sorry.
-/
import Derived.Test.YtnenhlgpkfelcaaChecked
import GoSem.Claim
import GoSem.ClaimJoined
import GoSem.ClaimMapViews
import Derived.JoinedTies
import Derived.KernelRfl
namespace Go.Proofs.Ytnenhlgpkfelcaa
/- THE CELL 'sum', in the pinned program and in every row, IS THE sha256 OF THE DUMP (.gsa) THAT YtnenhlgpkfelcaaProg.lean LOADS. Nothing in Lean hashes anything: it is a label: what it is worth is what the hold of that sum in a sandbox is worth. -/
noncomputable def Try.pinned : Pinned := { name := "ytnenhlgpkfelcaa", sum := "ca31bddb2e0825c23e0e4715700fe7b2c2d75e14ee254d1feb52b67ddcfbd8ed", checked := Try.checked }
namespace Rows
def none {H : Type} : Left H := { results := [], args := [] }

/-- 'joustlaw16.OutboxMissing': WHATEVER THE INPUT: true; the input reads as it did. -/
def outboxMissingSpec : ChangeSpec := { name := "outboxMissing", fn := fun _ => fun
  | [d1, d2] => { results := [.lit (.bool true)], args := [d1, d2] }
  | _ => none }
def outboxMissingRow : OpenClaim := { program := "ytnenhlgpkfelcaa", sum := "ca31bddb2e0825c23e0e4715700fe7b2c2d75e14ee254d1feb52b67ddcfbd8ed", func := "joust/joustlaw16.OutboxMissing", spec := "outboxMissing", unfollowed := true, recurses := true, apart := false }
def OutboxMissingSaid : Prop := outboxMissingRow.holds Try.pinned (OpenSpec.ofChange outboxMissingSpec)

/-- ITS FALSE NEIGHBOUR: 'it returns false'. Refute it at one input. -/
def outboxMissingWrong : ChangeSpec := { name := "outboxMissing", fn := fun _ => fun
  | [d1, d2] => { results := [.lit (.bool false)], args := [d1, d2] }
  | _ => none }
def OutboxMissingWrongFalsely : Prop := outboxMissingRow.holds Try.pinned (OpenSpec.ofChange outboxMissingWrong)

/-- 'joustlaw16.OutboxStays': WHATEVER THE INPUT: true; the input reads as it did. -/
def outboxStaysSpec : ChangeSpec := { name := "outboxStays", fn := fun _ => fun
  | [d1, d2, d3] => { results := [.lit (.bool true)], args := [d1, d2, d3] }
  | _ => none }
def outboxStaysRow : OpenClaim := { program := "ytnenhlgpkfelcaa", sum := "ca31bddb2e0825c23e0e4715700fe7b2c2d75e14ee254d1feb52b67ddcfbd8ed", func := "joust/joustlaw16.OutboxStays", spec := "outboxStays", unfollowed := true, recurses := true, apart := false }
def OutboxStaysSaid : Prop := outboxStaysRow.holds Try.pinned (OpenSpec.ofChange outboxStaysSpec)

/-- ITS FALSE NEIGHBOUR: 'it returns false'. Refute it at one input. -/
def outboxStaysWrong : ChangeSpec := { name := "outboxStays", fn := fun _ => fun
  | [d1, d2, d3] => { results := [.lit (.bool false)], args := [d1, d2, d3] }
  | _ => none }
def OutboxStaysWrongFalsely : Prop := outboxStaysRow.holds Try.pinned (OpenSpec.ofChange outboxStaysWrong)

/-- 'joustlaw16.OutboxPlays': WHATEVER THE INPUT: true; the input reads as it did. -/
def outboxPlaysSpec : ChangeSpec := { name := "outboxPlays", fn := fun _ => fun
  | [d1, d2, d3, d4, d5] => { results := [.lit (.bool true)], args := [d1, d2, d3, d4, d5] }
  | _ => none }
def outboxPlaysRow : OpenClaim := { program := "ytnenhlgpkfelcaa", sum := "ca31bddb2e0825c23e0e4715700fe7b2c2d75e14ee254d1feb52b67ddcfbd8ed", func := "joust/joustlaw16.OutboxPlays", spec := "outboxPlays", inPlace := ["maps.clone"], unfollowed := true, recurses := true, apart := false }
def OutboxPlaysSaid : Prop := outboxPlaysRow.holds Try.pinned (OpenSpec.ofChange outboxPlaysSpec)

/-- ITS FALSE NEIGHBOUR: 'it returns false'. Refute it at one input. -/
def outboxPlaysWrong : ChangeSpec := { name := "outboxPlays", fn := fun _ => fun
  | [d1, d2, d3, d4, d5] => { results := [.lit (.bool false)], args := [d1, d2, d3, d4, d5] }
  | _ => none }
def OutboxPlaysWrongFalsely : Prop := outboxPlaysRow.holds Try.pinned (OpenSpec.ofChange outboxPlaysWrong)

/-- 'joustlaw16.OutboxNil': WHATEVER THE INPUT: true; the input reads as it did. -/
def outboxNilSpec : ChangeSpec := { name := "outboxNil", fn := fun _ => fun
  | [d1, d2] => { results := [.lit (.bool true)], args := [d1, d2] }
  | _ => none }
def outboxNilRow : OpenClaim := { program := "ytnenhlgpkfelcaa", sum := "ca31bddb2e0825c23e0e4715700fe7b2c2d75e14ee254d1feb52b67ddcfbd8ed", func := "joust/joustlaw16.OutboxNil", spec := "outboxNil", inPlace := ["maps.clone"], unfollowed := true, recurses := true, apart := false }
def OutboxNilSaid : Prop := outboxNilRow.holds Try.pinned (OpenSpec.ofChange outboxNilSpec)

/-- ITS FALSE NEIGHBOUR: 'it returns false'. Refute it at one input. -/
def outboxNilWrong : ChangeSpec := { name := "outboxNil", fn := fun _ => fun
  | [d1, d2] => { results := [.lit (.bool false)], args := [d1, d2] }
  | _ => none }
def OutboxNilWrongFalsely : Prop := outboxNilRow.holds Try.pinned (OpenSpec.ofChange outboxNilWrong)

/- THE SECOND FORM. 'bulk': how many values and letters a reading holds, each counted each time it is reached (what is shared counts as often as it is met; a slice's spare places count too). A statement '..UptoSaid' is the law's where the arguments, and the package variables that the reading takes, are together of bulk at most 1048576: NARROWER than '..Said'. Prove '..Said' where nothing that the law and all that it calls make is longer than what came in: it says more and counts as full. Else prove '..UptoSaid'. A law counts once. -/
mutual
def uptoBulk {H : Type} : DataW H → Nat
  | .lit (.string bytes) => bytes.length + 1
  | .lit _ => 1
  | .nil => 1
  | .ptr d => uptoBulk d + 1
  | .slice elems spare => uptoBulkAll elems + uptoBulkAll spare + 1
  | .agg parts => uptoBulkAll parts + 1
  | .iface _ d => uptoBulk d + 1
  | .map entries => uptoBulkEntries entries + 1
  | .held _ => 1
def uptoBulkAll {H : Type} : List (DataW H) → Nat
  | [] => 0
  | d :: r => uptoBulk d + uptoBulkAll r
def uptoBulkEntries {H : Type} : List (Lit × DataW H) → Nat
  | [] => 0
  | x :: r => uptoBulkEntry x + uptoBulkEntries r
def uptoBulkEntry {H : Type} : Lit × DataW H → Nat
  | (.string bytes, d) => bytes.length + uptoBulk d + 1
  | (_, d) => uptoBulk d + 1
 end
def uptoSmall : (H : Type) → List (DataW H) → Bool := fun _ ds => decide (uptoBulkAll ds ≤ 1048576)
def OpenSpec.upto (s : _root_.Go.ChangeSpec) : _root_.Go.OpenSpec := { _root_.Go.OpenSpec.ofChange s with cond := some uptoSmall }

/-- 'joustlaw16.OutboxMissing', WHERE WHAT IT READS IS OF BULK AT MOST 1048576: true; the input reads as it did. -/
def outboxMissingUptoRow : OpenClaim := { program := "ytnenhlgpkfelcaa", sum := "ca31bddb2e0825c23e0e4715700fe7b2c2d75e14ee254d1feb52b67ddcfbd8ed", func := "joust/joustlaw16.OutboxMissing", spec := "outboxMissing", unfollowed := true, recurses := true, apart := false, narrowed := true }
def OutboxMissingUptoSaid : Prop := outboxMissingUptoRow.holds Try.pinned (OpenSpec.upto outboxMissingSpec)

/-- 'joustlaw16.OutboxStays', WHERE WHAT IT READS IS OF BULK AT MOST 1048576: true; the input reads as it did. -/
def outboxStaysUptoRow : OpenClaim := { program := "ytnenhlgpkfelcaa", sum := "ca31bddb2e0825c23e0e4715700fe7b2c2d75e14ee254d1feb52b67ddcfbd8ed", func := "joust/joustlaw16.OutboxStays", spec := "outboxStays", unfollowed := true, recurses := true, apart := false, narrowed := true }
def OutboxStaysUptoSaid : Prop := outboxStaysUptoRow.holds Try.pinned (OpenSpec.upto outboxStaysSpec)

/-- 'joustlaw16.OutboxPlays', WHERE WHAT IT READS IS OF BULK AT MOST 1048576: true; the input reads as it did. -/
def outboxPlaysUptoRow : OpenClaim := { program := "ytnenhlgpkfelcaa", sum := "ca31bddb2e0825c23e0e4715700fe7b2c2d75e14ee254d1feb52b67ddcfbd8ed", func := "joust/joustlaw16.OutboxPlays", spec := "outboxPlays", inPlace := ["maps.clone"], unfollowed := true, recurses := true, apart := false, narrowed := true }
def OutboxPlaysUptoSaid : Prop := outboxPlaysUptoRow.holds Try.pinned (OpenSpec.upto outboxPlaysSpec)

/-- 'joustlaw16.OutboxNil', WHERE WHAT IT READS IS OF BULK AT MOST 1048576: true; the input reads as it did. -/
def outboxNilUptoRow : OpenClaim := { program := "ytnenhlgpkfelcaa", sum := "ca31bddb2e0825c23e0e4715700fe7b2c2d75e14ee254d1feb52b67ddcfbd8ed", func := "joust/joustlaw16.OutboxNil", spec := "outboxNil", inPlace := ["maps.clone"], unfollowed := true, recurses := true, apart := false, narrowed := true }
def OutboxNilUptoSaid : Prop := outboxNilUptoRow.holds Try.pinned (OpenSpec.upto outboxNilSpec)

end Rows
end Go.Proofs.Ytnenhlgpkfelcaa
