/-
  No cell of these rows narrows 'for every input' (looked for: loops, veiled, ifaces, maps, wideKeys, modest, calm, conditions, laid).
  DERIVED. THE GIVEN ROWS OF THIS SEAT. 4 by the template 'for every input the law returns true; each argument reads behind the call as it read before'; 0 by the template 'total and deterministic' (their statements: YtjcgflclijfokaaTotals.lean).
  GIVEN WITH THE SEED: the statements are not yours to turn. If you find one false, say at which input.
  Laid BY PROGRAM, IN A SANDBOX (cutbox-rows.mjs): the forced cells as the released guide's own fill.sh prints them over the translation e35a4691a04da01a… (all of the seat's roots in one cut). By AI agents, Wed Nov 11 2026. No macro, syntax, notation, axiom, sorry.
-/
import Derived.Test.YtjcgflclijfokaaChecked
import GoSem.Claim
import GoSem.ClaimJoined
import GoSem.ClaimMapViews
import Derived.JoinedTies
import Derived.KernelRfl
namespace Go.Proofs.Ytjcgflclijfokaa
/- THE CELL 'sum', in the pinned program and in every row, IS THE sha256 OF THE DUMP (.gsa) THAT YtjcgflclijfokaaProg.lean LOADS. Nothing in Lean hashes anything: it is a label: what it is worth is what the hold of that sum in a sandbox is worth. -/
noncomputable def Try.pinned : Pinned := { name := "ytjcgflclijfokaa", sum := "e35a4691a04da01a07f1695112ae2e1b49647a53635e0480a9a880fdbfd347c7", checked := Try.checked }
namespace Rows
def none {H : Type} : Left H := { results := [], args := [] }

/-- 'joustlaw19.SequenceFar': WHATEVER THE INPUT: true; the input reads as it did. -/
def sequenceFarSpec : ChangeSpec := { name := "sequenceFar", fn := fun _ => fun
  | [d1, d2] => { results := [.lit (.bool true)], args := [d1, d2] }
  | _ => none }
def sequenceFarRow : OpenClaim := { program := "ytjcgflclijfokaa", sum := "e35a4691a04da01a07f1695112ae2e1b49647a53635e0480a9a880fdbfd347c7", func := "joust/joustlaw19.SequenceFar", spec := "sequenceFar", apart := false }
def SequenceFarSaid : Prop := sequenceFarRow.holds Try.pinned (OpenSpec.ofChange sequenceFarSpec)

/-- ITS FALSE NEIGHBOUR: 'it returns false'. Refute it at one input. -/
def sequenceFarWrong : ChangeSpec := { name := "sequenceFar", fn := fun _ => fun
  | [d1, d2] => { results := [.lit (.bool false)], args := [d1, d2] }
  | _ => none }
def SequenceFarWrongFalsely : Prop := sequenceFarRow.holds Try.pinned (OpenSpec.ofChange sequenceFarWrong)

/-- 'joustlaw19.SequencePlays': WHATEVER THE INPUT: true; the input reads as it did. -/
def sequencePlaysSpec : ChangeSpec := { name := "sequencePlays", fn := fun _ => fun
  | [d1, d2, d3] => { results := [.lit (.bool true)], args := [d1, d2, d3] }
  | _ => none }
def sequencePlaysRow : OpenClaim := { program := "ytjcgflclijfokaa", sum := "e35a4691a04da01a07f1695112ae2e1b49647a53635e0480a9a880fdbfd347c7", func := "joust/joustlaw19.SequencePlays", spec := "sequencePlays", apart := false }
def SequencePlaysSaid : Prop := sequencePlaysRow.holds Try.pinned (OpenSpec.ofChange sequencePlaysSpec)

/-- ITS FALSE NEIGHBOUR: 'it returns false'. Refute it at one input. -/
def sequencePlaysWrong : ChangeSpec := { name := "sequencePlays", fn := fun _ => fun
  | [d1, d2, d3] => { results := [.lit (.bool false)], args := [d1, d2, d3] }
  | _ => none }
def SequencePlaysWrongFalsely : Prop := sequencePlaysRow.holds Try.pinned (OpenSpec.ofChange sequencePlaysWrong)

/-- 'joustlaw19.SequenceOnce': WHATEVER THE INPUT: true; the input reads as it did. -/
def sequenceOnceSpec : ChangeSpec := { name := "sequenceOnce", fn := fun _ => fun
  | [d] => { results := [.lit (.bool true)], args := [d] }
  | _ => none }
def sequenceOnceRow : OpenClaim := { program := "ytjcgflclijfokaa", sum := "e35a4691a04da01a07f1695112ae2e1b49647a53635e0480a9a880fdbfd347c7", func := "joust/joustlaw19.SequenceOnce", spec := "sequenceOnce", apart := false }
def SequenceOnceSaid : Prop := sequenceOnceRow.holds Try.pinned (OpenSpec.ofChange sequenceOnceSpec)

/-- ITS FALSE NEIGHBOUR: 'it returns false'. Refute it at one input. -/
def sequenceOnceWrong : ChangeSpec := { name := "sequenceOnce", fn := fun _ => fun
  | [d] => { results := [.lit (.bool false)], args := [d] }
  | _ => none }
def SequenceOnceWrongFalsely : Prop := sequenceOnceRow.holds Try.pinned (OpenSpec.ofChange sequenceOnceWrong)

/-- 'joustlaw19.SequenceRising': WHATEVER THE INPUT: true; the input reads as it did. -/
def sequenceRisingSpec : ChangeSpec := { name := "sequenceRising", fn := fun _ => fun
  | [d] => { results := [.lit (.bool true)], args := [d] }
  | _ => none }
def sequenceRisingRow : OpenClaim := { program := "ytjcgflclijfokaa", sum := "e35a4691a04da01a07f1695112ae2e1b49647a53635e0480a9a880fdbfd347c7", func := "joust/joustlaw19.SequenceRising", spec := "sequenceRising", apart := false }
def SequenceRisingSaid : Prop := sequenceRisingRow.holds Try.pinned (OpenSpec.ofChange sequenceRisingSpec)

/-- ITS FALSE NEIGHBOUR: 'it returns false'. Refute it at one input. -/
def sequenceRisingWrong : ChangeSpec := { name := "sequenceRising", fn := fun _ => fun
  | [d] => { results := [.lit (.bool false)], args := [d] }
  | _ => none }
def SequenceRisingWrongFalsely : Prop := sequenceRisingRow.holds Try.pinned (OpenSpec.ofChange sequenceRisingWrong)

/- THE SECOND FORM. 'bulk': how many values and letters a reading holds, each counted each time it is reached (what is shared counts as often as it is met; a slice's spare places count too). A statement '..UptoSaid' is the law's where the arguments, and the package variables that the reading takes, are together of bulk at most 1048576: NARROWER than '..Said'. Prove '..Said' where nothing that the law and all that it calls make is longer than what came in: it says more and counts as full. Else prove '..UptoSaid'. A law counts once. -/
mutual
def uptoBulk {H : Type} : DataW H → Nat
  | .lit (.string bytes) => bytes.length + 1
  | .lit _ => 1
  | .nil => 1
  | .ptr d => uptoBulk d + 1
  | .slice elems spare => uptoBulkAll elems + uptoBulkAll spare + 1
  | .agg parts => uptoBulkAll parts + 1
  | .iface _ d => uptoBulk d + 1
  | .map entries => uptoBulkEntries entries + 1
  | .held _ => 1
def uptoBulkAll {H : Type} : List (DataW H) → Nat
  | [] => 0
  | d :: r => uptoBulk d + uptoBulkAll r
def uptoBulkEntries {H : Type} : List (Lit × DataW H) → Nat
  | [] => 0
  | x :: r => uptoBulkEntry x + uptoBulkEntries r
def uptoBulkEntry {H : Type} : Lit × DataW H → Nat
  | (.string bytes, d) => bytes.length + uptoBulk d + 1
  | (_, d) => uptoBulk d + 1
 end
def uptoSmall : (H : Type) → List (DataW H) → Bool := fun _ ds => decide (uptoBulkAll ds ≤ 1048576)
def OpenSpec.upto (s : _root_.Go.ChangeSpec) : _root_.Go.OpenSpec := { _root_.Go.OpenSpec.ofChange s with cond := some uptoSmall }

/-- 'joustlaw19.SequenceFar', WHERE WHAT IT READS IS OF BULK AT MOST 1048576: true; the input reads as it did. -/
def sequenceFarUptoRow : OpenClaim := { program := "ytjcgflclijfokaa", sum := "e35a4691a04da01a07f1695112ae2e1b49647a53635e0480a9a880fdbfd347c7", func := "joust/joustlaw19.SequenceFar", spec := "sequenceFar", apart := false, narrowed := true }
def SequenceFarUptoSaid : Prop := sequenceFarUptoRow.holds Try.pinned (OpenSpec.upto sequenceFarSpec)

/-- 'joustlaw19.SequencePlays', WHERE WHAT IT READS IS OF BULK AT MOST 1048576: true; the input reads as it did. -/
def sequencePlaysUptoRow : OpenClaim := { program := "ytjcgflclijfokaa", sum := "e35a4691a04da01a07f1695112ae2e1b49647a53635e0480a9a880fdbfd347c7", func := "joust/joustlaw19.SequencePlays", spec := "sequencePlays", apart := false, narrowed := true }
def SequencePlaysUptoSaid : Prop := sequencePlaysUptoRow.holds Try.pinned (OpenSpec.upto sequencePlaysSpec)

/-- 'joustlaw19.SequenceOnce', WHERE WHAT IT READS IS OF BULK AT MOST 1048576: true; the input reads as it did. -/
def sequenceOnceUptoRow : OpenClaim := { program := "ytjcgflclijfokaa", sum := "e35a4691a04da01a07f1695112ae2e1b49647a53635e0480a9a880fdbfd347c7", func := "joust/joustlaw19.SequenceOnce", spec := "sequenceOnce", apart := false, narrowed := true }
def SequenceOnceUptoSaid : Prop := sequenceOnceUptoRow.holds Try.pinned (OpenSpec.upto sequenceOnceSpec)

/-- 'joustlaw19.SequenceRising', WHERE WHAT IT READS IS OF BULK AT MOST 1048576: true; the input reads as it did. -/
def sequenceRisingUptoRow : OpenClaim := { program := "ytjcgflclijfokaa", sum := "e35a4691a04da01a07f1695112ae2e1b49647a53635e0480a9a880fdbfd347c7", func := "joust/joustlaw19.SequenceRising", spec := "sequenceRising", apart := false, narrowed := true }
def SequenceRisingUptoSaid : Prop := sequenceRisingUptoRow.holds Try.pinned (OpenSpec.upto sequenceRisingSpec)

end Rows
end Go.Proofs.Ytjcgflclijfokaa
