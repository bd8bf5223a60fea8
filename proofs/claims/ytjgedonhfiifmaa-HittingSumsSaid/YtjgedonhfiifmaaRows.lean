/-
  No cell of these rows narrows 'for every input' (looked for: loops, veiled, ifaces, maps, wideKeys, modest, calm, conditions, laid).
  DERIVED. THE GIVEN ROWS OF THIS SEAT. 4 by the template 'for every input the law returns true; each argument reads behind the call as it read before'; 0 by the template 'total and deterministic' (their statements: YtjgedonhfiifmaaTotals.lean).
  GIVEN WITH THE SEED: the statements are not yours to turn. If you find one false, say at which input.
  Laid BY PROGRAM, IN A SANDBOX (cutbox-rows.mjs): the forced cells as the released guide's own fill.sh prints them over the translation 1aa9284fb995562e… (all of the seat's roots in one cut). By AI agents, Wed Nov 11 2026. No macro, syntax, notation, axiom, sorry.
-/
import Derived.Test.YtjgedonhfiifmaaChecked
import GoSem.Claim
import GoSem.ClaimJoined
import GoSem.ClaimMapViews
import Derived.JoinedTies
import Derived.KernelRfl
namespace Go.Proofs.Ytjgedonhfiifmaa
/- THE CELL 'sum', in the pinned program and in every row, IS THE sha256 OF THE DUMP (.gsa) THAT YtjgedonhfiifmaaProg.lean LOADS. Nothing in Lean hashes anything: it is a label: what it is worth is what the hold of that sum in a sandbox is worth. -/
noncomputable def Try.pinned : Pinned := { name := "ytjgedonhfiifmaa", sum := "1aa9284fb995562e406683816d1bb2f5efe452c92fc08ecaea96b37c4657bb01", checked := Try.checked }
namespace Rows
def none {H : Type} : Left H := { results := [], args := [] }

/-- 'joustlaw08.HittingOwn': WHATEVER THE INPUT: true; the input reads as it did. -/
def hittingOwnSpec : ChangeSpec := { name := "hittingOwn", fn := fun _ => fun
  | [d1, d2] => { results := [.lit (.bool true)], args := [d1, d2] }
  | _ => none }
def hittingOwnRow : OpenClaim := { program := "ytjgedonhfiifmaa", sum := "1aa9284fb995562e406683816d1bb2f5efe452c92fc08ecaea96b37c4657bb01", func := "joust/joustlaw08.HittingOwn", spec := "hittingOwn", unfollowed := true, recurses := true, apart := false }
def HittingOwnSaid : Prop := hittingOwnRow.holds Try.pinned (OpenSpec.ofChange hittingOwnSpec)

/-- ITS FALSE NEIGHBOUR: 'it returns false'. Refute it at one input. -/
def hittingOwnWrong : ChangeSpec := { name := "hittingOwn", fn := fun _ => fun
  | [d1, d2] => { results := [.lit (.bool false)], args := [d1, d2] }
  | _ => none }
def HittingOwnWrongFalsely : Prop := hittingOwnRow.holds Try.pinned (OpenSpec.ofChange hittingOwnWrong)

/-- 'joustlaw08.HittingHeals': WHATEVER THE INPUT: true; the input reads as it did. -/
def hittingHealsSpec : ChangeSpec := { name := "hittingHeals", fn := fun _ => fun
  | [d1, d2] => { results := [.lit (.bool true)], args := [d1, d2] }
  | _ => none }
def hittingHealsRow : OpenClaim := { program := "ytjgedonhfiifmaa", sum := "1aa9284fb995562e406683816d1bb2f5efe452c92fc08ecaea96b37c4657bb01", func := "joust/joustlaw08.HittingHeals", spec := "hittingHeals", unfollowed := true, recurses := true, apart := false }
def HittingHealsSaid : Prop := hittingHealsRow.holds Try.pinned (OpenSpec.ofChange hittingHealsSpec)

/-- ITS FALSE NEIGHBOUR: 'it returns false'. Refute it at one input. -/
def hittingHealsWrong : ChangeSpec := { name := "hittingHeals", fn := fun _ => fun
  | [d1, d2] => { results := [.lit (.bool false)], args := [d1, d2] }
  | _ => none }
def HittingHealsWrongFalsely : Prop := hittingHealsRow.holds Try.pinned (OpenSpec.ofChange hittingHealsWrong)

/-- 'joustlaw08.HittingSums': WHATEVER THE INPUT: true; the input reads as it did. -/
def hittingSumsSpec : ChangeSpec := { name := "hittingSums", fn := fun _ => fun
  | [d1, d2, d3] => { results := [.lit (.bool true)], args := [d1, d2, d3] }
  | _ => none }
def hittingSumsRow : OpenClaim := { program := "ytjgedonhfiifmaa", sum := "1aa9284fb995562e406683816d1bb2f5efe452c92fc08ecaea96b37c4657bb01", func := "joust/joustlaw08.HittingSums", spec := "hittingSums", unfollowed := true, recurses := true, apart := false }
def HittingSumsSaid : Prop := hittingSumsRow.holds Try.pinned (OpenSpec.ofChange hittingSumsSpec)

/-- ITS FALSE NEIGHBOUR: 'it returns false'. Refute it at one input. -/
def hittingSumsWrong : ChangeSpec := { name := "hittingSums", fn := fun _ => fun
  | [d1, d2, d3] => { results := [.lit (.bool false)], args := [d1, d2, d3] }
  | _ => none }
def HittingSumsWrongFalsely : Prop := hittingSumsRow.holds Try.pinned (OpenSpec.ofChange hittingSumsWrong)

/-- 'joustlaw08.HittingOnly': WHATEVER THE INPUT: true; the input reads as it did. -/
def hittingOnlySpec : ChangeSpec := { name := "hittingOnly", fn := fun _ => fun
  | [d1, d2] => { results := [.lit (.bool true)], args := [d1, d2] }
  | _ => none }
def hittingOnlyRow : OpenClaim := { program := "ytjgedonhfiifmaa", sum := "1aa9284fb995562e406683816d1bb2f5efe452c92fc08ecaea96b37c4657bb01", func := "joust/joustlaw08.HittingOnly", spec := "hittingOnly", unfollowed := true, recurses := true, apart := false }
def HittingOnlySaid : Prop := hittingOnlyRow.holds Try.pinned (OpenSpec.ofChange hittingOnlySpec)

/-- ITS FALSE NEIGHBOUR: 'it returns false'. Refute it at one input. -/
def hittingOnlyWrong : ChangeSpec := { name := "hittingOnly", fn := fun _ => fun
  | [d1, d2] => { results := [.lit (.bool false)], args := [d1, d2] }
  | _ => none }
def HittingOnlyWrongFalsely : Prop := hittingOnlyRow.holds Try.pinned (OpenSpec.ofChange hittingOnlyWrong)

/- THE SECOND FORM. 'bulk': how many values and letters a reading holds, each counted each time it is reached (what is shared counts as often as it is met; a slice's spare places count too). A statement '..UptoSaid' is the law's where the arguments, and the package variables that the reading takes, are together of bulk at most 1048576: NARROWER than '..Said'. Prove '..Said' where nothing that the law and all that it calls make is longer than what came in: it says more and counts as full. Else prove '..UptoSaid'. A law counts once. -/
mutual
def uptoBulk {H : Type} : DataW H → Nat
  | .lit (.string bytes) => bytes.length + 1
  | .lit _ => 1
  | .nil => 1
  | .ptr d => uptoBulk d + 1
  | .slice elems spare => uptoBulkAll elems + uptoBulkAll spare + 1
  | .agg parts => uptoBulkAll parts + 1
  | .iface _ d => uptoBulk d + 1
  | .map entries => uptoBulkEntries entries + 1
  | .held _ => 1
def uptoBulkAll {H : Type} : List (DataW H) → Nat
  | [] => 0
  | d :: r => uptoBulk d + uptoBulkAll r
def uptoBulkEntries {H : Type} : List (Lit × DataW H) → Nat
  | [] => 0
  | x :: r => uptoBulkEntry x + uptoBulkEntries r
def uptoBulkEntry {H : Type} : Lit × DataW H → Nat
  | (.string bytes, d) => bytes.length + uptoBulk d + 1
  | (_, d) => uptoBulk d + 1
 end
def uptoSmall : (H : Type) → List (DataW H) → Bool := fun _ ds => decide (uptoBulkAll ds ≤ 1048576)
def OpenSpec.upto (s : _root_.Go.ChangeSpec) : _root_.Go.OpenSpec := { _root_.Go.OpenSpec.ofChange s with cond := some uptoSmall }

/-- 'joustlaw08.HittingOwn', WHERE WHAT IT READS IS OF BULK AT MOST 1048576: true; the input reads as it did. -/
def hittingOwnUptoRow : OpenClaim := { program := "ytjgedonhfiifmaa", sum := "1aa9284fb995562e406683816d1bb2f5efe452c92fc08ecaea96b37c4657bb01", func := "joust/joustlaw08.HittingOwn", spec := "hittingOwn", unfollowed := true, recurses := true, apart := false, narrowed := true }
def HittingOwnUptoSaid : Prop := hittingOwnUptoRow.holds Try.pinned (OpenSpec.upto hittingOwnSpec)

/-- 'joustlaw08.HittingHeals', WHERE WHAT IT READS IS OF BULK AT MOST 1048576: true; the input reads as it did. -/
def hittingHealsUptoRow : OpenClaim := { program := "ytjgedonhfiifmaa", sum := "1aa9284fb995562e406683816d1bb2f5efe452c92fc08ecaea96b37c4657bb01", func := "joust/joustlaw08.HittingHeals", spec := "hittingHeals", unfollowed := true, recurses := true, apart := false, narrowed := true }
def HittingHealsUptoSaid : Prop := hittingHealsUptoRow.holds Try.pinned (OpenSpec.upto hittingHealsSpec)

/-- 'joustlaw08.HittingSums', WHERE WHAT IT READS IS OF BULK AT MOST 1048576: true; the input reads as it did. -/
def hittingSumsUptoRow : OpenClaim := { program := "ytjgedonhfiifmaa", sum := "1aa9284fb995562e406683816d1bb2f5efe452c92fc08ecaea96b37c4657bb01", func := "joust/joustlaw08.HittingSums", spec := "hittingSums", unfollowed := true, recurses := true, apart := false, narrowed := true }
def HittingSumsUptoSaid : Prop := hittingSumsUptoRow.holds Try.pinned (OpenSpec.upto hittingSumsSpec)

/-- 'joustlaw08.HittingOnly', WHERE WHAT IT READS IS OF BULK AT MOST 1048576: true; the input reads as it did. -/
def hittingOnlyUptoRow : OpenClaim := { program := "ytjgedonhfiifmaa", sum := "1aa9284fb995562e406683816d1bb2f5efe452c92fc08ecaea96b37c4657bb01", func := "joust/joustlaw08.HittingOnly", spec := "hittingOnly", unfollowed := true, recurses := true, apart := false, narrowed := true }
def HittingOnlyUptoSaid : Prop := hittingOnlyUptoRow.holds Try.pinned (OpenSpec.upto hittingOnlySpec)

end Rows
end Go.Proofs.Ytjgedonhfiifmaa
