/-
  No cell of these rows narrows 'for every input' (looked for: loops, veiled, ifaces, maps, wideKeys, modest, calm, conditions, laid).
  DERIVED. THE GIVEN ROWS OF THIS SEAT. 6 by the template 'for every input the law returns true; each argument reads behind the call as it read before'; 0 by the template 'total and deterministic' (their statements: YtdodnhpboddheaaTotals.lean).
  GIVEN WITH THE SEED: the statements are not yours to turn. If you find one false, say at which input.
  Laid BY PROGRAM, IN A SANDBOX (cutbox-rows.mjs): the forced cells as the released guide's own fill.sh prints them over the translation b72463bc7b3c0802… (all of the seat's roots in one cut). By AI agents, Wed Nov 11 2026. No macro, syntax, notation, axiom, sorry.
-/
import Derived.Test.YtdodnhpboddheaaChecked
import GoSem.Claim
import GoSem.ClaimJoined
import GoSem.ClaimMapViews
import Derived.JoinedTies
import Derived.KernelRfl
namespace Go.Proofs.Ytdodnhpboddheaa
/- THE CELL 'sum', in the pinned program and in every row, IS THE sha256 OF THE DUMP (.gsa) THAT YtdodnhpboddheaaProg.lean LOADS. Nothing in Lean hashes anything: it is a label: what it is worth is what the hold of that sum in a sandbox is worth. -/
noncomputable def Try.pinned : Pinned := { name := "ytdodnhpboddheaa", sum := "b72463bc7b3c0802ed00668ecdbd6e264110bbe11afb71fd07d1ed465a548c6b", checked := Try.checked }
namespace Rows
def none {H : Type} : Left H := { results := [], args := [] }

/-- 'joustlaw01.FixedTells': WHATEVER THE INPUT: true; the input reads as it did. -/
def fixedTellsSpec : ChangeSpec := { name := "fixedTells", fn := fun _ => fun
  | [d1, d2, d3, d4] => { results := [.lit (.bool true)], args := [d1, d2, d3, d4] }
  | _ => none }
def fixedTellsRow : OpenClaim := { program := "ytdodnhpboddheaa", sum := "b72463bc7b3c0802ed00668ecdbd6e264110bbe11afb71fd07d1ed465a548c6b", func := "joust/joustlaw01.FixedTells", spec := "fixedTells", unfollowed := true, recurses := true, apart := false }
def FixedTellsSaid : Prop := fixedTellsRow.holds Try.pinned (OpenSpec.ofChange fixedTellsSpec)

/-- ITS FALSE NEIGHBOUR: 'it returns false'. Refute it at one input. -/
def fixedTellsWrong : ChangeSpec := { name := "fixedTells", fn := fun _ => fun
  | [d1, d2, d3, d4] => { results := [.lit (.bool false)], args := [d1, d2, d3, d4] }
  | _ => none }
def FixedTellsWrongFalsely : Prop := fixedTellsRow.holds Try.pinned (OpenSpec.ofChange fixedTellsWrong)

/-- 'joustlaw01.FixedBounds': WHATEVER THE INPUT: true; the input reads as it did. -/
def fixedBoundsSpec : ChangeSpec := { name := "fixedBounds", fn := fun _ => fun
  | [d1, d2, d3, d4] => { results := [.lit (.bool true)], args := [d1, d2, d3, d4] }
  | _ => none }
def fixedBoundsRow : OpenClaim := { program := "ytdodnhpboddheaa", sum := "b72463bc7b3c0802ed00668ecdbd6e264110bbe11afb71fd07d1ed465a548c6b", func := "joust/joustlaw01.FixedBounds", spec := "fixedBounds", unfollowed := true, recurses := true, apart := false }
def FixedBoundsSaid : Prop := fixedBoundsRow.holds Try.pinned (OpenSpec.ofChange fixedBoundsSpec)

/-- ITS FALSE NEIGHBOUR: 'it returns false'. Refute it at one input. -/
def fixedBoundsWrong : ChangeSpec := { name := "fixedBounds", fn := fun _ => fun
  | [d1, d2, d3, d4] => { results := [.lit (.bool false)], args := [d1, d2, d3, d4] }
  | _ => none }
def FixedBoundsWrongFalsely : Prop := fixedBoundsRow.holds Try.pinned (OpenSpec.ofChange fixedBoundsWrong)

/-- 'joustlaw01.FixedPlain': WHATEVER THE INPUT: true; the input reads as it did. -/
def fixedPlainSpec : ChangeSpec := { name := "fixedPlain", fn := fun _ => fun
  | [d1, d2, d3] => { results := [.lit (.bool true)], args := [d1, d2, d3] }
  | _ => none }
def fixedPlainRow : OpenClaim := { program := "ytdodnhpboddheaa", sum := "b72463bc7b3c0802ed00668ecdbd6e264110bbe11afb71fd07d1ed465a548c6b", func := "joust/joustlaw01.FixedPlain", spec := "fixedPlain", apart := false }
def FixedPlainSaid : Prop := fixedPlainRow.holds Try.pinned (OpenSpec.ofChange fixedPlainSpec)

/-- ITS FALSE NEIGHBOUR: 'it returns false'. Refute it at one input. -/
def fixedPlainWrong : ChangeSpec := { name := "fixedPlain", fn := fun _ => fun
  | [d1, d2, d3] => { results := [.lit (.bool false)], args := [d1, d2, d3] }
  | _ => none }
def FixedPlainWrongFalsely : Prop := fixedPlainRow.holds Try.pinned (OpenSpec.ofChange fixedPlainWrong)

/-- 'joustlaw01.FixedClamp': WHATEVER THE INPUT: true; the input reads as it did. -/
def fixedClampSpec : ChangeSpec := { name := "fixedClamp", fn := fun _ => fun
  | [d1, d2, d3] => { results := [.lit (.bool true)], args := [d1, d2, d3] }
  | _ => none }
def fixedClampRow : OpenClaim := { program := "ytdodnhpboddheaa", sum := "b72463bc7b3c0802ed00668ecdbd6e264110bbe11afb71fd07d1ed465a548c6b", func := "joust/joustlaw01.FixedClamp", spec := "fixedClamp", apart := false }
def FixedClampSaid : Prop := fixedClampRow.holds Try.pinned (OpenSpec.ofChange fixedClampSpec)

/-- ITS FALSE NEIGHBOUR: 'it returns false'. Refute it at one input. -/
def fixedClampWrong : ChangeSpec := { name := "fixedClamp", fn := fun _ => fun
  | [d1, d2, d3] => { results := [.lit (.bool false)], args := [d1, d2, d3] }
  | _ => none }
def FixedClampWrongFalsely : Prop := fixedClampRow.holds Try.pinned (OpenSpec.ofChange fixedClampWrong)

/-- 'joustlaw01.FixedScale': WHATEVER THE INPUT: true; the input reads as it did. -/
def fixedScaleSpec : ChangeSpec := { name := "fixedScale", fn := fun _ => fun
  | [d1, d2] => { results := [.lit (.bool true)], args := [d1, d2] }
  | _ => none }
def fixedScaleRow : OpenClaim := { program := "ytdodnhpboddheaa", sum := "b72463bc7b3c0802ed00668ecdbd6e264110bbe11afb71fd07d1ed465a548c6b", func := "joust/joustlaw01.FixedScale", spec := "fixedScale", apart := false }
def FixedScaleSaid : Prop := fixedScaleRow.holds Try.pinned (OpenSpec.ofChange fixedScaleSpec)

/-- ITS FALSE NEIGHBOUR: 'it returns false'. Refute it at one input. -/
def fixedScaleWrong : ChangeSpec := { name := "fixedScale", fn := fun _ => fun
  | [d1, d2] => { results := [.lit (.bool false)], args := [d1, d2] }
  | _ => none }
def FixedScaleWrongFalsely : Prop := fixedScaleRow.holds Try.pinned (OpenSpec.ofChange fixedScaleWrong)

/-- 'joustlaw01.FixedFull': WHATEVER THE INPUT: true; the input reads as it did. -/
def fixedFullSpec : ChangeSpec := { name := "fixedFull", fn := fun _ => fun
  | [d1, d2] => { results := [.lit (.bool true)], args := [d1, d2] }
  | _ => none }
def fixedFullRow : OpenClaim := { program := "ytdodnhpboddheaa", sum := "b72463bc7b3c0802ed00668ecdbd6e264110bbe11afb71fd07d1ed465a548c6b", func := "joust/joustlaw01.FixedFull", spec := "fixedFull", apart := false }
def FixedFullSaid : Prop := fixedFullRow.holds Try.pinned (OpenSpec.ofChange fixedFullSpec)

/-- ITS FALSE NEIGHBOUR: 'it returns false'. Refute it at one input. -/
def fixedFullWrong : ChangeSpec := { name := "fixedFull", fn := fun _ => fun
  | [d1, d2] => { results := [.lit (.bool false)], args := [d1, d2] }
  | _ => none }
def FixedFullWrongFalsely : Prop := fixedFullRow.holds Try.pinned (OpenSpec.ofChange fixedFullWrong)

/- THE SECOND FORM. 'bulk': how many values and letters a reading holds, each counted each time it is reached (what is shared counts as often as it is met; a slice's spare places count too). A statement '..UptoSaid' is the law's where the arguments, and the package variables that the reading takes, are together of bulk at most 1048576: NARROWER than '..Said'. Prove '..Said' where nothing that the law and all that it calls make is longer than what came in: it says more and counts as full. Else prove '..UptoSaid'. A law counts once. -/
mutual
def uptoBulk {H : Type} : DataW H → Nat
  | .lit (.string bytes) => bytes.length + 1
  | .lit _ => 1
  | .nil => 1
  | .ptr d => uptoBulk d + 1
  | .slice elems spare => uptoBulkAll elems + uptoBulkAll spare + 1
  | .agg parts => uptoBulkAll parts + 1
  | .iface _ d => uptoBulk d + 1
  | .map entries => uptoBulkEntries entries + 1
  | .held _ => 1
def uptoBulkAll {H : Type} : List (DataW H) → Nat
  | [] => 0
  | d :: r => uptoBulk d + uptoBulkAll r
def uptoBulkEntries {H : Type} : List (Lit × DataW H) → Nat
  | [] => 0
  | x :: r => uptoBulkEntry x + uptoBulkEntries r
def uptoBulkEntry {H : Type} : Lit × DataW H → Nat
  | (.string bytes, d) => bytes.length + uptoBulk d + 1
  | (_, d) => uptoBulk d + 1
 end
def uptoSmall : (H : Type) → List (DataW H) → Bool := fun _ ds => decide (uptoBulkAll ds ≤ 1048576)
def OpenSpec.upto (s : _root_.Go.ChangeSpec) : _root_.Go.OpenSpec := { _root_.Go.OpenSpec.ofChange s with cond := some uptoSmall }

/-- 'joustlaw01.FixedTells', WHERE WHAT IT READS IS OF BULK AT MOST 1048576: true; the input reads as it did. -/
def fixedTellsUptoRow : OpenClaim := { program := "ytdodnhpboddheaa", sum := "b72463bc7b3c0802ed00668ecdbd6e264110bbe11afb71fd07d1ed465a548c6b", func := "joust/joustlaw01.FixedTells", spec := "fixedTells", unfollowed := true, recurses := true, apart := false, narrowed := true }
def FixedTellsUptoSaid : Prop := fixedTellsUptoRow.holds Try.pinned (OpenSpec.upto fixedTellsSpec)

/-- 'joustlaw01.FixedBounds', WHERE WHAT IT READS IS OF BULK AT MOST 1048576: true; the input reads as it did. -/
def fixedBoundsUptoRow : OpenClaim := { program := "ytdodnhpboddheaa", sum := "b72463bc7b3c0802ed00668ecdbd6e264110bbe11afb71fd07d1ed465a548c6b", func := "joust/joustlaw01.FixedBounds", spec := "fixedBounds", unfollowed := true, recurses := true, apart := false, narrowed := true }
def FixedBoundsUptoSaid : Prop := fixedBoundsUptoRow.holds Try.pinned (OpenSpec.upto fixedBoundsSpec)

/-- 'joustlaw01.FixedPlain', WHERE WHAT IT READS IS OF BULK AT MOST 1048576: true; the input reads as it did. -/
def fixedPlainUptoRow : OpenClaim := { program := "ytdodnhpboddheaa", sum := "b72463bc7b3c0802ed00668ecdbd6e264110bbe11afb71fd07d1ed465a548c6b", func := "joust/joustlaw01.FixedPlain", spec := "fixedPlain", apart := false, narrowed := true }
def FixedPlainUptoSaid : Prop := fixedPlainUptoRow.holds Try.pinned (OpenSpec.upto fixedPlainSpec)

/-- 'joustlaw01.FixedClamp', WHERE WHAT IT READS IS OF BULK AT MOST 1048576: true; the input reads as it did. -/
def fixedClampUptoRow : OpenClaim := { program := "ytdodnhpboddheaa", sum := "b72463bc7b3c0802ed00668ecdbd6e264110bbe11afb71fd07d1ed465a548c6b", func := "joust/joustlaw01.FixedClamp", spec := "fixedClamp", apart := false, narrowed := true }
def FixedClampUptoSaid : Prop := fixedClampUptoRow.holds Try.pinned (OpenSpec.upto fixedClampSpec)

/-- 'joustlaw01.FixedScale', WHERE WHAT IT READS IS OF BULK AT MOST 1048576: true; the input reads as it did. -/
def fixedScaleUptoRow : OpenClaim := { program := "ytdodnhpboddheaa", sum := "b72463bc7b3c0802ed00668ecdbd6e264110bbe11afb71fd07d1ed465a548c6b", func := "joust/joustlaw01.FixedScale", spec := "fixedScale", apart := false, narrowed := true }
def FixedScaleUptoSaid : Prop := fixedScaleUptoRow.holds Try.pinned (OpenSpec.upto fixedScaleSpec)

/-- 'joustlaw01.FixedFull', WHERE WHAT IT READS IS OF BULK AT MOST 1048576: true; the input reads as it did. -/
def fixedFullUptoRow : OpenClaim := { program := "ytdodnhpboddheaa", sum := "b72463bc7b3c0802ed00668ecdbd6e264110bbe11afb71fd07d1ed465a548c6b", func := "joust/joustlaw01.FixedFull", spec := "fixedFull", apart := false, narrowed := true }
def FixedFullUptoSaid : Prop := fixedFullUptoRow.holds Try.pinned (OpenSpec.upto fixedFullSpec)

end Rows
end Go.Proofs.Ytdodnhpboddheaa
