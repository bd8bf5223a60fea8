/-
  No cell of these rows narrows 'for every input' (looked for: loops, veiled, ifaces, maps, wideKeys, modest, calm, conditions, laid).
  DERIVED. THE GIVEN ROWS OF THIS SEAT. 4 by the template 'for every input the law returns true; each argument reads behind the call as it read before'; 0 by the template 'total and deterministic' (their statements: YtonlibdfakmgoaaTotals.lean).
  GIVEN WITH THE SEED: the statements are not yours to turn. If you find one false, say at which input.
  Laid BY PROGRAM, IN A SANDBOX (cutbox-rows.mjs): the forced cells as the released guide's own fill.sh prints them over the translation 5264abdd3b3a4603… (all of the seat's roots in one cut). By AI agents, Wed Nov 11 2026. No macro, syntax, notation, axiom, sorry.
-/
import Derived.Test.YtonlibdfakmgoaaChecked
import GoSem.Claim
import GoSem.ClaimJoined
import GoSem.ClaimMapViews
import Derived.JoinedTies
import Derived.KernelRfl
namespace Go.Proofs.Ytonlibdfakmgoaa
/- THE CELL 'sum', in the pinned program and in every row, IS THE sha256 OF THE DUMP (.gsa) THAT YtonlibdfakmgoaaProg.lean LOADS. Nothing in Lean hashes anything: it is a label: what it is worth is what the hold of that sum in a sandbox is worth. -/
noncomputable def Try.pinned : Pinned := { name := "ytonlibdfakmgoaa", sum := "5264abdd3b3a4603d917d8ae9ee112ab8ad19f9928553867554e637c0efa256b", checked := Try.checked }
namespace Rows
def none {H : Type} : Left H := { results := [], args := [] }

/-- 'joustlaw02.ChanceOrder': WHATEVER THE INPUT: true; the input reads as it did. -/
def chanceOrderSpec : ChangeSpec := { name := "chanceOrder", fn := fun _ => fun
  | [d1, d2, d3, d4] => { results := [.lit (.bool true)], args := [d1, d2, d3, d4] }
  | _ => none }
def chanceOrderRow : OpenClaim := { program := "ytonlibdfakmgoaa", sum := "5264abdd3b3a4603d917d8ae9ee112ab8ad19f9928553867554e637c0efa256b", func := "joust/joustlaw02.ChanceOrder", spec := "chanceOrder", apart := false }
def ChanceOrderSaid : Prop := chanceOrderRow.holds Try.pinned (OpenSpec.ofChange chanceOrderSpec)

/-- ITS FALSE NEIGHBOUR: 'it returns false'. Refute it at one input. -/
def chanceOrderWrong : ChangeSpec := { name := "chanceOrder", fn := fun _ => fun
  | [d1, d2, d3, d4] => { results := [.lit (.bool false)], args := [d1, d2, d3, d4] }
  | _ => none }
def ChanceOrderWrongFalsely : Prop := chanceOrderRow.holds Try.pinned (OpenSpec.ofChange chanceOrderWrong)

/-- 'joustlaw02.ChanceBack': WHATEVER THE INPUT: true; the input reads as it did. -/
def chanceBackSpec : ChangeSpec := { name := "chanceBack", fn := fun _ => fun
  | [d] => { results := [.lit (.bool true)], args := [d] }
  | _ => none }
def chanceBackRow : OpenClaim := { program := "ytonlibdfakmgoaa", sum := "5264abdd3b3a4603d917d8ae9ee112ab8ad19f9928553867554e637c0efa256b", func := "joust/joustlaw02.ChanceBack", spec := "chanceBack", apart := false }
def ChanceBackSaid : Prop := chanceBackRow.holds Try.pinned (OpenSpec.ofChange chanceBackSpec)

/-- ITS FALSE NEIGHBOUR: 'it returns false'. Refute it at one input. -/
def chanceBackWrong : ChangeSpec := { name := "chanceBack", fn := fun _ => fun
  | [d] => { results := [.lit (.bool false)], args := [d] }
  | _ => none }
def ChanceBackWrongFalsely : Prop := chanceBackRow.holds Try.pinned (OpenSpec.ofChange chanceBackWrong)

/-- 'joustlaw02.ChanceTells': WHATEVER THE INPUT: true; the input reads as it did. -/
def chanceTellsSpec : ChangeSpec := { name := "chanceTells", fn := fun _ => fun
  | [d1, d2, d3, d4] => { results := [.lit (.bool true)], args := [d1, d2, d3, d4] }
  | _ => none }
def chanceTellsRow : OpenClaim := { program := "ytonlibdfakmgoaa", sum := "5264abdd3b3a4603d917d8ae9ee112ab8ad19f9928553867554e637c0efa256b", func := "joust/joustlaw02.ChanceTells", spec := "chanceTells", unfollowed := true, recurses := true, apart := false }
def ChanceTellsSaid : Prop := chanceTellsRow.holds Try.pinned (OpenSpec.ofChange chanceTellsSpec)

/-- ITS FALSE NEIGHBOUR: 'it returns false'. Refute it at one input. -/
def chanceTellsWrong : ChangeSpec := { name := "chanceTells", fn := fun _ => fun
  | [d1, d2, d3, d4] => { results := [.lit (.bool false)], args := [d1, d2, d3, d4] }
  | _ => none }
def ChanceTellsWrongFalsely : Prop := chanceTellsRow.holds Try.pinned (OpenSpec.ofChange chanceTellsWrong)

/-- 'joustlaw02.ChanceBelow': WHATEVER THE INPUT: true; the input reads as it did. -/
def chanceBelowSpec : ChangeSpec := { name := "chanceBelow", fn := fun _ => fun
  | [d1, d2, d3, d4] => { results := [.lit (.bool true)], args := [d1, d2, d3, d4] }
  | _ => none }
def chanceBelowRow : OpenClaim := { program := "ytonlibdfakmgoaa", sum := "5264abdd3b3a4603d917d8ae9ee112ab8ad19f9928553867554e637c0efa256b", func := "joust/joustlaw02.ChanceBelow", spec := "chanceBelow", apart := false }
def ChanceBelowSaid : Prop := chanceBelowRow.holds Try.pinned (OpenSpec.ofChange chanceBelowSpec)

/-- ITS FALSE NEIGHBOUR: 'it returns false'. Refute it at one input. -/
def chanceBelowWrong : ChangeSpec := { name := "chanceBelow", fn := fun _ => fun
  | [d1, d2, d3, d4] => { results := [.lit (.bool false)], args := [d1, d2, d3, d4] }
  | _ => none }
def ChanceBelowWrongFalsely : Prop := chanceBelowRow.holds Try.pinned (OpenSpec.ofChange chanceBelowWrong)

/- THE SECOND FORM. 'bulk': how many values and letters a reading holds, each counted each time it is reached (what is shared counts as often as it is met; a slice's spare places count too). A statement '..UptoSaid' is the law's where the arguments, and the package variables that the reading takes, are together of bulk at most 1048576: NARROWER than '..Said'. Prove '..Said' where nothing that the law and all that it calls make is longer than what came in: it says more and counts as full. Else prove '..UptoSaid'. A law counts once. -/
mutual
def uptoBulk {H : Type} : DataW H → Nat
  | .lit (.string bytes) => bytes.length + 1
  | .lit _ => 1
  | .nil => 1
  | .ptr d => uptoBulk d + 1
  | .slice elems spare => uptoBulkAll elems + uptoBulkAll spare + 1
  | .agg parts => uptoBulkAll parts + 1
  | .iface _ d => uptoBulk d + 1
  | .map entries => uptoBulkEntries entries + 1
  | .held _ => 1
def uptoBulkAll {H : Type} : List (DataW H) → Nat
  | [] => 0
  | d :: r => uptoBulk d + uptoBulkAll r
def uptoBulkEntries {H : Type} : List (Lit × DataW H) → Nat
  | [] => 0
  | x :: r => uptoBulkEntry x + uptoBulkEntries r
def uptoBulkEntry {H : Type} : Lit × DataW H → Nat
  | (.string bytes, d) => bytes.length + uptoBulk d + 1
  | (_, d) => uptoBulk d + 1
 end
def uptoSmall : (H : Type) → List (DataW H) → Bool := fun _ ds => decide (uptoBulkAll ds ≤ 1048576)
def OpenSpec.upto (s : _root_.Go.ChangeSpec) : _root_.Go.OpenSpec := { _root_.Go.OpenSpec.ofChange s with cond := some uptoSmall }

/-- 'joustlaw02.ChanceOrder', WHERE WHAT IT READS IS OF BULK AT MOST 1048576: true; the input reads as it did. -/
def chanceOrderUptoRow : OpenClaim := { program := "ytonlibdfakmgoaa", sum := "5264abdd3b3a4603d917d8ae9ee112ab8ad19f9928553867554e637c0efa256b", func := "joust/joustlaw02.ChanceOrder", spec := "chanceOrder", apart := false, narrowed := true }
def ChanceOrderUptoSaid : Prop := chanceOrderUptoRow.holds Try.pinned (OpenSpec.upto chanceOrderSpec)

/-- 'joustlaw02.ChanceBack', WHERE WHAT IT READS IS OF BULK AT MOST 1048576: true; the input reads as it did. -/
def chanceBackUptoRow : OpenClaim := { program := "ytonlibdfakmgoaa", sum := "5264abdd3b3a4603d917d8ae9ee112ab8ad19f9928553867554e637c0efa256b", func := "joust/joustlaw02.ChanceBack", spec := "chanceBack", apart := false, narrowed := true }
def ChanceBackUptoSaid : Prop := chanceBackUptoRow.holds Try.pinned (OpenSpec.upto chanceBackSpec)

/-- 'joustlaw02.ChanceTells', WHERE WHAT IT READS IS OF BULK AT MOST 1048576: true; the input reads as it did. -/
def chanceTellsUptoRow : OpenClaim := { program := "ytonlibdfakmgoaa", sum := "5264abdd3b3a4603d917d8ae9ee112ab8ad19f9928553867554e637c0efa256b", func := "joust/joustlaw02.ChanceTells", spec := "chanceTells", unfollowed := true, recurses := true, apart := false, narrowed := true }
def ChanceTellsUptoSaid : Prop := chanceTellsUptoRow.holds Try.pinned (OpenSpec.upto chanceTellsSpec)

/-- 'joustlaw02.ChanceBelow', WHERE WHAT IT READS IS OF BULK AT MOST 1048576: true; the input reads as it did. -/
def chanceBelowUptoRow : OpenClaim := { program := "ytonlibdfakmgoaa", sum := "5264abdd3b3a4603d917d8ae9ee112ab8ad19f9928553867554e637c0efa256b", func := "joust/joustlaw02.ChanceBelow", spec := "chanceBelow", apart := false, narrowed := true }
def ChanceBelowUptoSaid : Prop := chanceBelowUptoRow.holds Try.pinned (OpenSpec.upto chanceBelowSpec)

end Rows
end Go.Proofs.Ytonlibdfakmgoaa
