/- A map of slices in memory, as a function from numbers; the outbox's store. -/
import Derived.Test.YtnenhlgpkfelcaaPOutboxPlaysx0
import Derived.Maps.Own
import Derived.Maps.OwnSet
import Derived.WalkSpells
import Derived.WalkLawsBesides
import Derived.Outline
namespace Go.Proofs.Ytnenhlgpkfelcaa.Box
open Go Go.RowKit Go.Maps Go.Proofs.Ytnenhlgpkfelcaa.POutboxPlays Go.Proofs.YtnenhlgpkfelcaaW.PrintWords Go.Proofs.YtnenhlgpkfelcaaW.PrintLast Go.Proofs.YtnenhlgpkfelcaaW.PrintMore
set_option linter.unusedVariables false

def nilS : Value := .slice none 0 0
def sliceElem (v : Value) : Option (DataW Value × List MemPlace) :=
  match v with
  | .slice a n c => some (.held (.slice a n c), [])
  | _ => none
theorem sliceElem_inv {v : Value} {z : DataW Value × List MemPlace} (h : sliceElem v = some z) : z = (.held v, []) := by
  unfold sliceElem at h
  split at h
  · cases h; rfl
  · cases h
theorem law3 : Keyed Try.prog 3 := int_keyed Try.underlying3
theorem zero28 (w : World) : (zeroValue 28).run Try.prog w = .ok nilS w := by kernel_rfl

/-- block b is a map of at most n entries, and says F -/
def MapOf (w : World) (b n : Nat) (F : Int → Option Value) : Prop :=
  ∃ D : DataW Value, w.ownsMap Try.prog 3 sliceElem b n D ∧ ∀ key : Int, (Lit.int .i64 key).wf = true → Maps.has D (.int .i64 key) = (F key).isSome ∧ D.atKey (.int .i64 key) (.held nilS) = .held ((F key).getD nilS)

theorem MapOf.made (w : World) : MapOf (w.alloc (.map #[] 0)) w.heap.size 0 (fun _ => none) :=
  ⟨.map [], World.ownsMap_made _ _ _ _, fun _ _ => ⟨rfl, rfl⟩⟩
theorem MapOf.lt {w : World} {b n : Nat} {F : Int → Option Value} (h : MapOf w b n F) : b < w.heap.size := by obtain ⟨D, ho, _⟩ := h; exact ho.lt
theorem MapOf.other {w w' : World} {b n : Nat} {F : Int → Option Value} {row : Option Nat} (h : MapOf w b n F) (hg : w.grownBy w' row) (hne : some b ≠ row) : MapOf w' b n F := by
  obtain ⟨D, ho, hF⟩ := h
  exact ⟨D, ho.kept hg hne, hF⟩
theorem MapOf.mono {w : World} {b n n' : Nat} {F : Int → Option Value} (h : MapOf w b n F) (hn : n ≤ n') : MapOf w b n' F := by
  obtain ⟨D, ho, hF⟩ := h
  exact ⟨D, ho.mono hn, hF⟩
theorem MapOf.move {w w' : World} {b n : Nat} {F : Int → Option Value} (h : MapOf w b n F) (hm : w'.heap[b]? = w.heap[b]?) : MapOf w' b n F := by
  obtain ⟨D, ⟨es, clock, hb, r⟩, hF⟩ := h
  exact ⟨D, ⟨es, clock, hm.trans hb, r⟩, hF⟩
theorem MapOf.below {w w' : World} {b n : Nat} {F : Int → Option Value} (h : MapOf w b n F) (hb : Below w.heap.size w w') : MapOf w' b n F := h.move (hb.block b h.lt)

/-- v, ok := m[key] -/
theorem MapOf.look {w : World} {b n : Nat} {F : Int → Option Value} (h : MapOf w b n F) {key : Int} (hk : (Lit.int .i64 key).wf = true) :
    (Instr.lookup 54 (.map (some b)) (.int .i64 key) true).run Try.prog w = .ok (.tuple #[(F key).getD nilS, .bool (F key).isSome]) w := by
  obtain ⟨D, ho, hF⟩ := h
  obtain ⟨h1, h2⟩ := hF key hk
  obtain ⟨v, ps, hrun, hv⟩ := ho.look_ok (t := 54) (e := 28) law3 Try.underlying54 (zero28 w) (zd := .held nilS) (zp := []) rfl (keyOf_int_mk Try.underlying3 hk)
  have hz := sliceElem_inv hv
  rw [h2] at hz
  injection hz with h3 _
  injection h3 with h4
  rw [hrun, ← h4, h1]
/-- m[key] = v -/
theorem MapOf.put {w : World} {b n : Nat} {F : Int → Option Value} (h : MapOf w b n F) {key : Int} (hk : (Lit.int .i64 key).wf = true) (hn : n < maxLen) (a : Option Addr) (l c : Nat) :
    ∃ w', (Instr.mapUpdate 54 (.map (some b)) (.int .i64 key) (.slice a l c)).run Try.prog w = .ok () w' ∧ MapOf w' b (n + 1) (fun x => if x = key then some (.slice a l c) else F x) ∧ w.grownBy w' (some b) := by
  obtain ⟨D, ho, hF⟩ := h
  obtain ⟨w', hrun, ho', hg⟩ := ho.update (t := 54) (e := 28) law3 Try.underlying54 hn (keyOf_int_mk Try.underlying3 hk) (val := .slice a l c) (d := .held (.slice a l c)) (ps := []) rfl
  refine ⟨w', hrun, ⟨_, ho', fun x hx => ?_⟩, hg⟩
  have hM : Maps.IsMap D := ho.isMap
  by_cases hxk : x = key
  · subst hxk
    have hkl : WideAt.IsKeyLit (.int .i64 x) := ⟨⟩
    rw [Maps.has_put_same hM hkl, Maps.atKey_put_same hM hkl]
    simp
  · have hne : (Lit.int .i64 x) ≠ (Lit.int .i64 key) := fun h => hxk (by injection h)
    rw [Maps.has_put_other hne, Maps.atKey_put_other hne]
    simp only [if_neg hxk]
    exact hF x hx
end Go.Proofs.Ytnenhlgpkfelcaa.Box
