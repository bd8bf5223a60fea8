/- The reference: NewRing. The reference's row: a slice somewhere behind the beginning of a row of its own. The reference's row: a region put in its place, the first one let go; copyOf. The reference: First, Last, Get. The reference: Cut. The reference: Put. The reference: Put refuses. The reference: Put behind all others (E). The reference: Put behind all others (K). The reference: Put behind all others (T). -/
import Derived.Test.YtompkbganljbkaaAgain
import Derived.ArgAppend
import Derived.Maps.AppendAt
namespace Go.Proofs.Ytompkbganljbkaa.Rin
open Go Go.RowKit Go.Proofs.Ytompkbganljbkaa.PRingPlays Go.Proofs.YtompkbganljbkaaW.PrintWords Go.Proofs.YtompkbganljbkaaW.PrintLast Go.Proofs.YtompkbganljbkaaW.PrintMore
set_option linter.unusedVariables false
set_option linter.unusedSimpArgs false
set_option maxRecDepth 100000
set_option maxHeartbeats 8000000
theorem newRef_c (s : Int) (m : Nat) (hm : (m : Int) = max 1 (min s 32)) (w : World) : Calls Try.prog 15 #[.int .i64 s] w fun e w' => e = .returned (.pointer (some ⟨w.heap.size, 0, none⟩)) ∧ w' = w.alloc (.cells #[.int .i64 (m : Int), .slice none 0 0] 62) := by
  rcases (by omega : (s ≤ 1 ∧ m = 1) ∨ (1 < s ∧ s ≤ 32 ∧ s = (m : Int)) ∨ (32 < s ∧ m = 32)) with ⟨h1, h2⟩ | ⟨h1, h2, h3⟩ | ⟨h1, h2⟩
  · subst h2
    have z1 : min s 32 = s := by omega
    have z2 : max 1 s = 1 := by omega
    go_enter Try.func15, Try.ntmps15
    go_wp2_with fail
    all_goals go_ret
    all_goals first | exact ⟨rfl, rfl⟩ | (refine ⟨rfl, ?_⟩; congr 5; omega) | (exfalso; omega)
  · have z1 : min s 32 = s := by omega
    have z2 : max 1 s = s := by omega
    rw [← h3]
    clear hm h3
    go_enter Try.func15, Try.ntmps15
    go_wp2_with fail
    all_goals go_ret
    all_goals first | exact ⟨rfl, rfl⟩ | (exfalso; omega) | (refine ⟨rfl, ?_⟩; congr 5; omega)
  · subst h2
    have z1 : min s 32 = 32 := by omega
    have z2 : max 1 (32 : Int) = 32 := by omega
    go_enter Try.func15, Try.ntmps15
    go_wp2_with fail
    all_goals go_ret
    all_goals first | exact ⟨rfl, rfl⟩ | (refine ⟨rfl, ?_⟩; congr 5; omega) | (exfalso; omega)
end Go.Proofs.Ytompkbganljbkaa.Rin
namespace Go.Proofs.Ytompkbganljbkaa.Rin
open Go Go.RowKit Go.Proofs.Ytompkbganljbkaa.PRingPlays Go.Proofs.YtompkbganljbkaaW.PrintWords Go.Proofs.YtompkbganljbkaaW.PrintLast Go.Proofs.YtompkbganljbkaaW.PrintMore
set_option linter.unusedVariables false
set_option linter.unusedSimpArgs false
def Ro (m : Nat) (w : World) (base : Nat) (v : Value) (F : List S29) : Prop :=
  (v = .slice none 0 0 ∧ F = []) ∨ ∃ (g o c : Nat) (dead : List S29), dead.length = o ∧ o ≤ m ∧ v = .slice (some ⟨g, o * 2, none⟩) F.length c ∧ Kd.R k29 29 w base (fun _ => True) (.slice (some ⟨g, 0, none⟩) (o + F.length) (o + c)) (dead ++ F)
structure Rf (m : Nat) (w : World) (B base : Nat) (v : Value) (size : Nat) (F : List S29) : Prop where
  box : w.heap[B]? = some (.cells #[.int .i64 (size : Int), v] 62 (0, 0))
  row : Ro m w base v F
  hb : base ≤ B
theorem R_types36 {w : World} {base : Nat} {ok : Nat → Prop} {v : Value} {L : List S29} (h : Kd.R k29 29 w base ok v L) : Kd.R k29 29 w base (fun k => ok k ∧ base ≤ k ∧ k < w.heap.size ∧ (v.ownBlock = some k ∨ ∃ cells, w.heap[k]? = some (.cells cells 36 (0, 0)))) v L := by
  have hb := (Kd.R_bound h).1
  obtain ⟨h0, inner, ho, hr⟩ := h
  refine ⟨fun k hk => ⟨h0 k hk, (hb k hk).2.1, (hb k hk).2.2.1, .inl hk⟩, inner, ho, hr.imp_ (fun p c hp => k29.M_mono (fun k hk => ?_) (k29.M_bound hp))⟩
  obtain ⟨⟨h1, h2⟩, h3, h4, q, hq, cells, hc⟩ := hk
  have hq5 : q = 36 := by
    simpa [k29, k36, Kd.slice, Kd.iso, Kd.pair, Kd.int, Kd.scalar] using hq
  subst hq5
  exact ⟨⟨h1, h3, h4, .inr ⟨cells, hc⟩⟩, h2⟩
theorem R_typed29 {w : World} {base : Nat} {ok : Nat → Prop} {v : Value} {L : List S29} (h : Kd.R k29 29 w base ok v L) : ∀ k, v.ownBlock = some k → ∃ cells, w.heap[k]? = some (.cells cells 29 (0, 0)) := fun k hk => by
  obtain ⟨_, inner, ho, _⟩ := h
  exact own_typed ho k hk
section
variable {w w' w1 : World} {B S base size m : Nat} {v v' : Value} {F F' : List S29}
theorem Ro.of_R (h : Kd.R k29 29 w base (fun _ => True) v F) : Ro m w base v F := by
  have h' := h
  obtain ⟨_, inner, hown, hr⟩ := h
  rcases hown.2 with ⟨hv, hn⟩ | ⟨g, cap, cur, hv, _⟩
  · exact .inl ⟨hv, List.eq_nil_of_length_eq_zero hn⟩
  · subst hv
    exact .inr ⟨g, 0, cap, [], rfl, Nat.zero_le _, by rw [Nat.zero_mul], by rw [List.nil_append, Nat.zero_add, Nat.zero_add]; exact h'⟩
theorem Ro.bound (h : Ro m w base v F) : ∀ k, v.ownBlock = some k → base ≤ k ∧ k < w.heap.size ∧ ∃ cells, w.heap[k]? = some (.cells cells 29 (0, 0)) := fun k hk => by
  rcases h with ⟨rfl, _⟩ | ⟨g, o, c, dead, ho, hm0, rfl, hR⟩
  · simp [Value.ownBlock] at hk
  · have h1 := (Kd.R_bound hR).1 k hk
    exact ⟨h1.2.1, h1.2.2.1, R_typed29 hR k hk⟩
theorem Ro.keep (h : Ro m w base v F) (hm : ∀ k, base ≤ k → k < w.heap.size → (v.ownBlock = some k ∨ ∃ cells, w.heap[k]? = some (.cells cells 36 (0, 0))) → w1.heap[k]? = w.heap[k]?) : Ro m w1 base v F := by
  rcases h with h | ⟨g, o, c, dead, ho, hm0, rfl, hR⟩
  · exact .inl h
  · exact .inr ⟨g, o, c, dead, ho, hm0, rfl, Kd.R_mono (Kd.R_step (R_types36 hR) (fun k hk hlt => hm k hk.2.1 hk.2.2.1 hk.2.2.2)) (fun _ _ => trivial)⟩
theorem Ro.below (h : Ro m w base v F) (hb : Below w.heap.size w w1) : Ro m w1 base v F := h.keep (fun k _ hk _ => hb.block k hk)
theorem Ro.slice (h : Ro m w base v F) : ∃ A c, v = .slice A F.length c ∧ F.length ≤ c := by
  rcases h with ⟨rfl, rfl⟩ | ⟨g, o, c, dead, ho, hm0, rfl, hR⟩
  · exact ⟨none, 0, rfl, Nat.le_refl _⟩
  · refine ⟨_, c, rfl, ?_⟩
    obtain ⟨h1, h2, _⟩ := Kd.R_reads' hR
    omega
/-- a region in the row -/
theorem Ro.elem (h : Ro m w base v F) (i : Nat) (hi : i < F.length) :
    ∃ g o c A1 c1, v = .slice (some ⟨g, o * 2, none⟩) F.length c ∧ F.length ≤ c ∧ w.cell? ⟨g, o * 2 + i * 2, none⟩ = some (.int .i64 F[i].f0) ∧ w.cell? ⟨g, o * 2 + i * 2 + 1, none⟩ = some (.slice A1 F[i].f1.length c1) ∧ F[i].f1.length ≤ c1 ∧ Kd.R k36 36 w base (fun k => k < w.heap.size ∧ some k ≠ v.ownBlock) (.slice A1 F[i].f1.length c1) F[i].f1 := by
  rcases h with ⟨rfl, rfl⟩ | ⟨g, o, c, dead, ho, hm0, rfl, hR⟩
  · simp at hi
  · obtain ⟨hl, hc, _⟩ := Kd.R_reads' hR
    have hr2 : Kd.R k29 29 w base (fun k => k < w.heap.size) (.slice (some ⟨g, 0, none⟩) (o + F.length) (o + c)) (dead ++ F) := Kd.R_mono (Kd.R_bound hR) (fun k hk => hk.2.2.1)
    obtain ⟨A2, c2, e2, _, hrd⟩ := OwnRow.reads hr2.2
    injection e2 with ea en ec
    subst ea
    obtain ⟨ad, cs, e1, hlen, hM, hcell⟩ := hrd.get_ z29 ((o + i : Nat) : Int) (by omega) (by rw [List.length_append]; omega)
    injection e1 with e1
    subst e1
    rw [Int.toNat_natCast] at hM hcell
    have hgd : (dead ++ F).getD (o + i) z29 = F[i] := by
      rw [List.getD_eq_getElem?_getD, List.getElem?_append_right (by omega), show o + i - dead.length = i by omega, List.getElem?_eq_getElem hi]; rfl
    rw [hgd] at hM
    obtain ⟨vi, rfl, hRi⟩ := k29_openM hM
    obtain ⟨A1, c1, rfl, hl1, _⟩ := Kd.R_reads hRi
    have hsz : k29.sz = 2 := rfl
    have h0 := hcell 0 _ rfl
    have h1 := hcell 1 _ rfl
    rw [hsz, Addr.add_lit, Nat.zero_add] at h0 h1
    refine ⟨g, o, c, A1, c1, rfl, by omega, ?_, ?_, hl1, hRi⟩
    · rw [show o * 2 + i * 2 = (o + i) * 2 + 0 by omega]; exact h0
    · rw [show o * 2 + i * 2 + 1 = (o + i) * 2 + 1 by omega]; exact h1
/-- what is appended -/
theorem Ro.append (h : Ro m w base v F) (hbase : base ≤ w.heap.size) (hF : F.length ≤ 1000) (p : S29) (cs : List Value) (okp : Nat → Prop) (hp : k29.M w base okp p cs) (hokp : ∀ k, okp k → some k ≠ v.ownBlock) (ty : TypeId) (hm : m ≤ 1000) :
    ∃ v1 w1, (Builtin.append_ #[48, 48] ty #[v, .slice (some ⟨w.heap.size, 0, none⟩) 1 1]).run Try.prog (w.alloc (.cells cs.toArray 29)) = .ok v1 w1 ∧ Ro m w1 base v1 (F ++ [p]) ∧ w.grownBy w1 v.ownBlock ∧ (v1.ownBlock = v.ownBlock ∨ ∃ b, v1.ownBlock = some b ∧ w.heap.size ≤ b) := by
  have hlen := k29.K_len (k29.K_of_M hp)
  have hone := k29.K_one (k29.K_of_M hp)
  have hsz : k29.sz = 2 := rfl
  obtain ⟨i0, hi, hzz⟩ := Option.map_eq_some_iff.1 info29
  simp only [Prod.mk.injEq] at hzz
  obtain ⟨hz0, hz1, hz2⟩ := hzz
  have hnews : ∀ j u, cs[j]? = some u → (w.alloc (.cells cs.toArray 29)).cell? ((⟨w.heap.size, 0, none⟩ : Addr).add j) = some u := by
    simpa using World.news_of_block (cs := cs.toArray) (t := 29) (fr := (0, 0)) (heap_alloc_new w (.cells cs.toArray 29))
  have hb0 : (w.alloc (.cells cs.toArray 29)).heap.size = w.heap.size + 1 := by simp
  have fin : ∀ {v0 : Value} {xs : List S29} {inner : List Value} {v1 : Value} {w1 : World}, (∀ k, okp k → some k ≠ v0.ownBlock) → Reps (k29.M w base (fun k => True ∧ some k ≠ v0.ownBlock)) 2 xs inner → w1.ownsRow base 29 2 v1 (xs.length + 1) (inner ++ cs) → (w.alloc (.cells cs.toArray 29)).grownBy w1 v0.ownBlock → (v1.ownBlock = v0.ownBlock ∨ ∃ b, v1.ownBlock = some b ∧ (w.alloc (.cells cs.toArray 29)).heap.size ≤ b) → Kd.R k29 29 w1 base (fun _ => True) v1 (xs ++ [p]) ∧ w.grownBy w1 v0.ownBlock ∧ (v1.ownBlock = v0.ownBlock ∨ ∃ b, v1.ownBlock = some b ∧ w.heap.size ≤ b) := by
    intro v0 xs inner v1 w1 hv hr hown hg hat
    have hg2 := World.grownBy.trans (World.grownBy_alloc w _ _) hg
    have hat2 : v1.ownBlock = v0.ownBlock ∨ ∃ b, v1.ownBlock = some b ∧ w.heap.size ≤ b := by
      rcases hat with h | ⟨b, h1, h2⟩
      · exact .inl h
      · exact .inr ⟨b, h1, by rw [hb0] at h2; omega⟩
    exact ⟨Kd.R_appended (fun _ _ => trivial) hr hp (fun k hk => ⟨trivial, hv k hk⟩) (fun _ _ => trivial) hown hg2 hat2, hg2, hat2⟩
  have one : ∀ {a b c : Prop} {x : Option Nat}, (a ∨ x = some (w.alloc (.cells cs.toArray 29)).heap.size) → (a ∨ ∃ b, x = some b ∧ (w.alloc (.cells cs.toArray 29)).heap.size ≤ b) := fun h => h.imp id (fun h => ⟨_, h, Nat.le_refl _⟩)
  rcases h with ⟨rfl, rfl⟩ | ⟨g, o, c, dead, ho, hm0, rfl, hR⟩
  · obtain ⟨v1, w1, hrun, hown, hg, _, hat⟩ := run_append_own_at (P := Try.prog) (w.alloc (.cells cs.toArray 29)) base 48 ty 29 i0 _ 2 32 Try.underlying48 hi hz0 hz1 hz2 rfl (by decide) (.slice none 0 0) 0 [] (World.ownsRow_nil _ _ _ _) ⟨w.heap.size, 0, none⟩ 1 1 cs (by rw [hlen, hsz]) hnews hone (by simp only [maxLen]; omega) (by omega) (by rw [hb0]; omega)
    obtain ⟨k1, k2, k3⟩ := fin (v0 := .slice none 0 0) (xs := []) (inner := []) hokp (Reps.none _ _) (by simpa using hown) hg (one (a := _) (b := True) (c := True) hat)
    exact ⟨v1, w1, hrun, Ro.of_R k1, k2, k3⟩
  · obtain ⟨hl, hc, hC⟩ := Kd.R_reads' hR
    obtain ⟨_, inner, hown, hr⟩ := hR
    have hown' := hown
    have hxl : (dead ++ F).length = o + F.length := by rw [List.length_append, ho]
    rcases hown.2 with ⟨hv, _⟩ | ⟨g', cap', cur, hv, hb, hh, hnc, hcm, hcs, htake⟩
    · cases hv
    injection hv with ha hn hcc
    injection ha with ha
    injection ha with hg'
    subst hg'
    subst hcc
    have hgl := blk_lt' hh
    have hh1 : (w.alloc (.cells cs.toArray 29)).heap[g]? = some (.cells cur 29 (0, 0)) := (Below.heap_alloc _ _ _ hgl).trans hh
    have hcs2 : cur.size = (o + c) * 2 := hcs
    by_cases hroom : F.length + 1 ≤ c
    · obtain ⟨v1, w1, hrun, hown1, hg1, _, hat1⟩ := run_append_own_at (P := Try.prog) (w.alloc (.cells cs.toArray 29)) base 48 ty 29 i0 _ 2 32 Try.underlying48 hi hz0 hz1 hz2 rfl (by decide) (.slice (some ⟨g, 0, none⟩) (o + F.length) (o + c)) (dead ++ F).length inner (hown'.alloc _) ⟨w.heap.size, 0, none⟩ 1 1 cs (by rw [hlen, hsz]) hnews hone (by simp only [maxLen]; omega) (by omega) (by rw [hb0]; omega)
      have hrA := run_append_room_cells (P := Try.prog) (w.alloc (.cells cs.toArray 29)) 48 ty 29 i0 Try.underlying48 hi g 0 (o + F.length) (o + c) ⟨w.heap.size, 0, none⟩ 1 1 cs (by rw [hlen, hsz, hz1]) hnews hone (by omega) (fun j hj => by rw [blk_cell' hh1, hz1, Array.getElem?_eq_getElem (by rw [hlen, hsz] at hj; omega)]; rfl) (fun j hj => by simp [World.frozen?, hh1])
      have hrB := run_append_room_cells (P := Try.prog) (w.alloc (.cells cs.toArray 29)) 48 ty 29 i0 Try.underlying48 hi g (o * 2) F.length c ⟨w.heap.size, 0, none⟩ 1 1 cs (by rw [hlen, hsz, hz1]) hnews hone (by omega) (fun j hj => by rw [blk_cell' hh1, hz1, Array.getElem?_eq_getElem (by rw [hlen, hsz] at hj; omega)]; rfl) (fun j hj => by simp [World.frozen?, hh1])
      rw [hrA] at hrun
      injection hrun with e1 e2
      subst e1
      rw [hz1] at e2 hrB
      rw [show o * 2 + F.length * 2 = 0 + (o + F.length) * 2 by omega, e2] at hrB
      obtain ⟨k1, k2, k3⟩ := fin (v0 := .slice (some ⟨g, 0, none⟩) (o + F.length) (o + c)) (v1 := .slice (some ⟨g, 0, none⟩) (o + F.length + 1) (o + c)) hokp hr (by rw [hxl] at hown1 ⊢; exact hown1) hg1 (.inl rfl)
      refine ⟨_, _, hrB, .inr ⟨g, o, c, dead, ho, hm0, by rw [List.length_append, List.length_singleton], ?_⟩, k2, .inl rfl⟩
      rw [List.length_append, List.length_singleton, ← List.append_assoc]
      exact k1
    · have hio : inner.length = (o + F.length) * 2 := by rw [hr.1, hxl, hsz]
      have holds0 : ∀ j u, inner[j]? = some u → (w.alloc (.cells cs.toArray 29)).cell? ((⟨g, 0, none⟩ : Addr).add j) = some u := (hown'.alloc _).cells (g := g) rfl
      obtain ⟨v1, w1, hrun, hown1, hg1⟩ := run_append_arg_grows (P := Try.prog) (w.alloc (.cells cs.toArray 29)) 48 ty 29 i0 _ 2 32 Try.underlying48 hi hz0 hz1 hz2 rfl (by decide) ⟨g, o * 2, none⟩ F.length c (inner.drop (o * 2)) (by rw [List.length_drop, hio]; omega) (fun j u hj => by
        rw [List.getElem?_drop] at hj
        have h1 := holds0 _ _ hj
        rw [Addr.add_lit, Nat.zero_add] at h1
        rw [Addr.add_lit]
        exact h1) ⟨w.heap.size, 0, none⟩ 1 1 cs (by rw [hlen, hsz]) hnews (by omega) (by simp only [maxLen]; omega) (by omega)
      have hdr : Reps (k29.M w base (fun k => True ∧ some k ≠ (Value.slice none 0 0).ownBlock)) 2 F (inner.drop (o * 2)) := by
        have h1 := Kd.reps_drop (m := o) hr
        rw [hsz, ← ho, List.drop_left] at h1
        rw [← ho]
        exact h1.imp_ (fun q cc hq => k29.M_mono (fun k hk => ⟨trivial, by simp [Value.ownBlock]⟩) hq)
      have hat : ∃ b, v1.ownBlock = some b ∧ (w.alloc (.cells cs.toArray 29)).heap.size ≤ b := by
        rcases hown1.2 with ⟨_, h1⟩ | ⟨g', cap', cur', h1, h2, _⟩
        · omega
        · exact ⟨g', by rw [h1]; rfl, h2⟩
      obtain ⟨k1, k2, k3⟩ := fin (v0 := .slice none 0 0) (fun k _ => by simp [Value.ownBlock]) hdr ⟨hown1.1, hown1.2.imp id (fun ⟨g', cap', cur', h1, h2, h3⟩ => ⟨g', cap', cur', h1, by rw [hb0] at h2; omega, h3⟩)⟩ hg1 (.inr hat)
      refine ⟨v1, w1, hrun, Ro.of_R k1, ⟨k2.os, k2.tape, k2.output, k2.size, fun k hk _ => k2.block k hk (by simp [Value.ownBlock])⟩, .inr ?_⟩
      obtain ⟨b, h1, h2⟩ := hat
      exact ⟨b, h1, by rw [hb0] at h2; omega⟩
end
end Go.Proofs.Ytompkbganljbkaa.Rin
namespace Go.Proofs.Ytompkbganljbkaa.Rin
open Go Go.RowKit Go.Proofs.Ytompkbganljbkaa.PRingPlays Go.Proofs.YtompkbganljbkaaW.PrintWords Go.Proofs.YtompkbganljbkaaW.PrintLast Go.Proofs.YtompkbganljbkaaW.PrintMore
set_option linter.unusedVariables false
set_option linter.unusedSimpArgs false
section
variable {w w' w1 : World} {B S base size m : Nat} {v v' : Value} {F F' : List S29}
theorem Ro.set (h : Ro m w base v F) (i : Nat) (hi : i < F.length) (f : Int) (es : List S36) (A' : Option Addr) (c' : Nat) (okp : Nat → Prop) (hM : Kd.R k36 36 w base okp (.slice A' es.length c') es) (hokp : ∀ k, okp k → some k ≠ v.ownBlock) :
    ∃ g o c, v = .slice (some ⟨g, o * 2, none⟩) F.length c ∧ (Instr.storeAt 29 (.pointer (some ⟨g, o * 2 + i * 2, none⟩)) (.agg #[.int .i64 f, .slice A' es.length c'])).run Try.prog w = .ok () (w.setCells g (o * 2 + i * 2) [.int .i64 f, .slice A' es.length c']) ∧ Ro m (w.setCells g (o * 2 + i * 2) [.int .i64 f, .slice A' es.length c']) base v (F.set i ⟨f, es⟩) ∧ w.grownBy (w.setCells g (o * 2 + i * 2) [.int .i64 f, .slice A' es.length c']) (some g) := by
  have h' := h
  rcases h with ⟨rfl, rfl⟩ | ⟨g, o, c, dead, ho, hm0, rfl, hR⟩
  · simp at hi
  · obtain ⟨g', o', c2, A1, c1, e, hlc, x0, x1, hl1, hRi⟩ := h'.elem i hi
    injection e with e1 e2 e3
    injection e1 with e1
    injection e1 with e1 e4
    obtain rfl := e1
    obtain rfl : o = o' := by omega
    have hxl : (dead ++ F).length = o + F.length := by rw [List.length_append, ho]
    obtain ⟨hR5, hg5⟩ := Kd.R_seg hR ((o + i : Nat) : Int) (by omega) (by omega) (j := 0) (seg := [.int .i64 f, .slice A' es.length c']) (c := [.int .i64 F[i].f0, .slice A1 F[i].f1.length c1]) rfl
      (fun k u hu => by
        have hz : k29.sz = 2 := rfl
        match k, hu with
        | 0, hu => simp at hu; subst hu; rw [Int.toNat_natCast, hz, show (o + i) * 2 + 0 = o * 2 + i * 2 by omega]; exact x0
        | 1, hu => simp at hu; subst hu; rw [Int.toNat_natCast, hz, show (o + i) * 2 + 1 = o * 2 + i * 2 + 1 by omega]; exact x1
        | k + 2, hu => simp at hu)
      (Nat.le_refl _) (x' := ⟨f, es⟩) (by simpa using k29_mkM w base okp ⟨f, es⟩ hM) (fun k hk => ⟨trivial, fun e => hokp k hk (by rw [e]; rfl)⟩)
    have hz : k29.sz = 2 := rfl
    rw [Int.toNat_natCast, hz, show (o + i) * 2 + 0 = o * 2 + i * 2 by omega] at hR5 hg5
    refine ⟨g, o, c, rfl, store29 hR (o * 2 + i * 2) (by omega), .inr ⟨g, o, c, dead, ho, hm0, by rw [List.length_set], ?_⟩, hg5⟩
    rw [List.set_append_right _ _ (by omega), show o + i - dead.length = i by omega] at hR5
    rw [List.length_set]
    exact hR5
theorem Ro.tail (h : Ro m w base v F) (hF : 0 < F.length) :
    ∃ g o c, v = .slice (some ⟨g, o * 2, none⟩) F.length c ∧ F.length ≤ c ∧ Ro (m + 1) w base (.slice (some ⟨g, o * 2 + 2, none⟩) (F.length - 1) (c - 1)) (F.drop 1) := by
  rcases h with ⟨rfl, rfl⟩ | ⟨g, o, c, dead, ho, hm0, rfl, hR⟩
  · simp at hF
  · obtain ⟨hl, hc, _⟩ := Kd.R_reads' hR
    cases F with
    | nil => simp at hF
    | cons x F' =>
      refine ⟨g, o, c, rfl, by omega, .inr ⟨g, o + 1, c - 1, dead ++ [x], by simp [ho], by omega, by simp [Nat.add_mul], ?_⟩⟩
      rw [List.append_assoc]
      simp only [List.drop_succ_cons, List.drop_zero, List.singleton_append]
      simp only [List.length_cons] at hR hc hl hF ⊢
      rw [show o + 1 + F'.length = o + (F'.length + 1) by omega, show o + 1 + (c - 1) = o + c by omega]
      exact hR
end
set_option maxRecDepth 100000 in
set_option maxHeartbeats 4000000 in
/-- copyOf -/
theorem copyOf_c (f : Int) (A : Option Addr) (n c : Nat) (l : List S36) (w : World) (HC : Kd.C k36 w A n l) (hn : n ≤ 100000) :
    Calls Try.prog 34 #[.agg #[.int .i64 f, .slice A n c]] w fun e w' => (∃ A' c', e = .returned (.agg #[.int .i64 f, .slice A' l.length c']) ∧ Kd.R k36 36 w' w.heap.size (fun _ => True) (.slice A' l.length c') l) ∧ Below w.heap.size w w' := by
  have hl : l.length = n := HC.1
  have e0 : ((w.alloc (.cells #[.int .i64 f, .slice A n c] 29)).alloc (.cells #[.int .i64 0, .slice none 0 0] 29)).heap[w.heap.size]? = some (.cells #[.int .i64 f, .slice A n c] 29 (0, 0)) := (Below.heap_alloc _ _ _ (by simp)).trans (heap_alloc_new _ _)
  have e1 : ((w.alloc (.cells #[.int .i64 f, .slice A n c] 29)).alloc (.cells #[.int .i64 0, .slice none 0 0] 29)).heap[w.heap.size + 1]? = some (.cells #[.int .i64 0, .slice none 0 0] 29 (0, 0)) := by
    have h := heap_alloc_new (w.alloc (.cells #[.int .i64 f, .slice A n c] 29)) (.cells #[.int .i64 0, .slice none 0 0] 29)
    rw [show (w.alloc (.cells #[.int .i64 f, .slice A n c] 29)).heap.size = w.heap.size + 1 by simp] at h
    exact h
  replace e0 := Aside0.mk e0
  replace e1 := Aside0.mk e1
  have hB2 := Aside0.mk (((Below.refl w.heap.size w).alloc (Nat.le_refl _) (.cells #[.int .i64 f, .slice A n c] 29)).alloc (by simp) (.cells #[.int .i64 0, .slice none 0 0] 29))
  have hC2 := Aside0.mk (Kd.C_below HC hB2.out)
  have hz2 : ((w.alloc (.cells #[.int .i64 f, .slice A n c] 29)).alloc (.cells #[.int .i64 0, .slice none 0 0] 29)).heap.size = w.heap.size + 1 + 1 := by simp
  replace HC := Aside0.mk HC
  replace hl := Aside0.mk hl
  replace hz2 := Aside0.mk hz2
  go_enter Try.func34, Try.ntmps34
  go_wp2_with (first
    | ((with_reducible refine gate_dst (N := 5) rfl ?_); go_loud (refine Kd.R_append_rows k36 (w0 := (w.alloc (.cells #[.int .i64 f, .slice A n c] 29)).alloc (.cells #[.int .i64 0, .slice none 0 0] 29)) ((w.alloc (.cells #[.int .i64 f, .slice A n c] 29)).alloc (.cells #[.int .i64 0, .slice none 0 0] 29)).heap.size rfl (.const (.slice none 0 0)) (.tmp 4) 27 36 _ 72 rfl Try.underlying27 info36 rfl (by decide) (by omega) (.slice none 0 0) [] l A n c (fun _ => True) (fun _ => False) rfl rfl (Kd.R_nil _ _ _ _ _) hC2.out (fun _ _ h => K_M36 h) (fun _ h => h.elim) (fun _ _ => trivial) (Below.refl _ _) (Nat.le_refl _) (by simp; omega) ?_); intro v1 w1 ho1 hb hg1 hat1; rw [List.nil_append] at ho1; obtain ⟨A', c', e9⟩ := Kd.R_slice ho1; subst e9; have x0 := (hb.block _ (blk_lt' e0.out)).trans e0.out; have x1 := (hb.block _ (blk_lt' e1.out)).trans e1.out; have q0 := blk_cell' x0 0; have q1 := blk_cell' x0 1; have q2 := blk_cell' x1 0; have q3 := blk_cell' x1 1; have f0 : ∀ j, w1.frozen? ⟨w.heap.size, j, none⟩ = false := (fun j => by simp [World.frozen?, x0]); have f1 : ∀ j, w1.frozen? ⟨w.heap.size + 1, j, none⟩ = false := (fun j => by simp [World.frozen?, x1]); simp at q0 q1 q2 q3; replace hR := Aside0.mk ho1; replace hb := Aside0.mk hb; replace x0 := Aside0.mk x0; replace x1 := Aside0.mk x1; clear hg1 hat1 ho1)
    | fail)
  have x2 : (((w1.setCell ⟨w.heap.size, 1, none⟩ (.slice A' l.length c')).setCell ⟨w.heap.size + 1, 0, none⟩ (.int .i64 f)).setCell ⟨w.heap.size + 1, 1, none⟩ (.slice A' l.length c')).heap[w.heap.size + 1]? = some (.cells #[.int .i64 f, .slice A' l.length c'] 29 (0, 0)) := by
    have h := blk_set (blk_set (blk_far x1.out (p := ⟨w.heap.size, 1, none⟩) (by show w.heap.size + 1 ≠ w.heap.size; omega) (.slice A' l.length c')) 0 (.int .i64 f)) 1 (.slice A' l.length c')
    simpa using h
  refine bodyPost_ret (results_single (r := .cell 2 29) rfl (.cell (w.heap.size + 1) 29 #[.int .i64 f, .slice A' l.length c'] (0, 0) _ rfl x2 Try.underlying29 rfl (by kernel_rfl) .nil)) rfl ?_
  refine ⟨⟨A', c', rfl, ?_⟩, ((below_then hB2.out hB2.out.size hb.out).setCell (p := ⟨w.heap.size, 1, none⟩) (Nat.le_refl _) _ |>.setCell (p := ⟨w.heap.size + 1, 0, none⟩) (Nat.le_succ _) _).setCell (p := ⟨w.heap.size + 1, 1, none⟩) (Nat.le_succ _) _⟩
  have far : ∀ (W : World) (p : Addr) (u : Value), p.block < w.heap.size + 1 + 1 → Kd.R k36 36 W (w.heap.size + 1 + 1) (fun _ => True) (.slice A' l.length c') l → Kd.R k36 36 (W.setCell p u) (w.heap.size + 1 + 1) (fun _ => True) (.slice A' l.length c') l := fun W p u hp h => Kd.R_mono (Kd.R_far (Kd.R_bound h) (fun k hk => by have := hk.2.1; omega) u) (fun _ _ => trivial)
  have hR0 := hR.out
  rw [hz2.out] at hR0
  exact Kd.R_lower (far _ _ _ (by show w.heap.size + 1 < _; omega) (far _ _ _ (by show w.heap.size + 1 < _; omega) (far _ _ _ (by show w.heap.size < _; omega) hR0))) (by omega)
end Go.Proofs.Ytompkbganljbkaa.Rin
namespace Go.Proofs.Ytompkbganljbkaa.Rin
open Go Go.RowKit Go.Proofs.Ytompkbganljbkaa.PRingPlays Go.Proofs.YtompkbganljbkaaW.PrintWords Go.Proofs.YtompkbganljbkaaW.PrintLast Go.Proofs.YtompkbganljbkaaW.PrintMore
set_option linter.unusedVariables false
set_option linter.unusedSimpArgs false
def Con (f0 : Int) (F : List S29) : Prop := ∀ (j : Nat) (x : S29), F[j]? = some x → x.f0 = f0 + (j : Int)
theorem Rf.below {w w' : World} {B base size m : Nat} {v : Value} {F : List S29} (h : Rf m w B base v size F) (hb : Below w.heap.size w w') : Rf m w' B base v size F := ⟨(hb.block B (blk_lt' h.box)).trans h.box, h.row.below hb, h.hb⟩
theorem Rf.cells {w : World} {B base size m : Nat} {v : Value} {F : List S29} (h : Rf m w B base v size F) : w.cell? ⟨B, 0, none⟩ = some (.int .i64 (size : Int)) ∧ w.cell? ⟨B, 1, none⟩ = some v := ⟨blk_cell' h.box 0, blk_cell' h.box 1⟩
theorem refFirst_c (B base size m : Nat) (v : Value) (f0 : Int) (F : List S29) (w : World) (h : Rf m w B base v size F) (hc : Con f0 F) :
    Calls Try.prog 19 #[.pointer (some ⟨B, 0, none⟩)] w fun e w' => e = .returned (.int .i64 (fst f0 F)) ∧ w' = w := by
  obtain ⟨q0, q1⟩ := h.cells
  unfold fst
  by_cases h0 : F.length = 0
  · rw [if_pos h0]
    obtain ⟨A, c, rfl, _⟩ := h.row.slice
    rw [h0] at q1
    replace h := Aside0.mk h
    go_enter Try.func19, Try.ntmps19
    go_wp2_with fail
    go_ret
    exact ⟨rfl, rfl⟩
  · rw [if_neg h0]
    obtain ⟨g, o, c, A1, c1, rfl, hl, x0, x1, hl1, hR⟩ := h.row.elem 0 (by omega)
    have hcc := hc 0 F[0] (List.getElem?_eq_getElem _)
    rw [hcc] at x0
    simp at x0
    have z1 : ((F.length : Int) == 0) = false := beq_eq_false_iff_ne.2 (by omega)
    have z2 : (0 : Int) < (F.length : Int) := by omega
    replace h := Aside0.mk h
    replace hc := Aside0.mk hc
    clear x1 hl1 hR hcc
    go_enter Try.func19, Try.ntmps19
    go_wp2_with fail
    go_ret
    exact ⟨rfl, rfl⟩
set_option maxHeartbeats 1000000 in
theorem refLast_c (B base size m : Nat) (v : Value) (f0 : Int) (F : List S29) (w : World) (h : Rf m w B base v size F) (hc : Con f0 F) (hn : F.length ≤ 100000) :
    Calls Try.prog 20 #[.pointer (some ⟨B, 0, none⟩)] w fun e w' => e = .returned (.int .i64 (lst f0 F)) ∧ Drawn0 w w' := by
  obtain ⟨q0, q1⟩ := h.cells
  unfold lst
  by_cases h0 : F.length = 0
  · rw [if_pos h0]
    obtain ⟨A, c, rfl, _⟩ := h.row.slice
    rw [h0] at q1
    replace h := Aside0.mk h
    go_enter Try.func20, Try.ntmps20
    go_wp2_with fail
    go_ret
    exact ⟨rfl, Drawn0.refl _⟩
  · rw [if_neg h0]
    obtain ⟨t, ht⟩ : ∃ t, F.length = t + 1 := ⟨F.length - 1, by omega⟩
    obtain ⟨g, o, c, A1, c1, rfl, hl, x0, x1, hl1, hR⟩ := h.row.elem t (by omega)
    have hcc := hc t F[t] (List.getElem?_eq_getElem (by omega))
    rw [hcc] at x0
    have z1 : ((F.length : Int) == 0) = false := beq_eq_false_iff_ne.2 (by omega)
    have z0 : (0 : Int) ≤ (t : Int) := by omega
    have z2 : (t : Int) < (F.length : Int) := by omega
    have z3 : wrap64 ((F.length : Int) - 1) = (t : Int) := by unfold wrap64; omega
    have z4 : f0 + (F.length : Int) - 1 = f0 + (t : Int) := by omega
    rw [z4]
    replace h := Aside0.mk h
    replace hc := Aside0.mk hc
    replace ht := Aside0.mk ht
    clear x1 hl1 hR hcc z4
    go_enter Try.func20, Try.ntmps20
    go_wp2_with fail
    go_quiet (fail)
    go_wp2_with fail
    go_ret
    exact ⟨rfl, ⟨_, rfl⟩⟩
set_option maxRecDepth 100000 in
set_option maxHeartbeats 4000000 in
theorem refGetOut_c (f : Int) (B base size m : Nat) (v : Value) (F : List S29) (w : World) (h : Rf m w B base v size F) (hn : F.length ≤ 100000) (hno : ∀ (j : Nat) (hj : j < F.length), F[j].f0 ≠ f) :
    Calls Try.prog 21 #[.pointer (some ⟨B, 0, none⟩), .int .i64 f] w fun e w' => e = .returned (.tuple #[.agg #[.int .i64 0, .slice none 0 0], .bool false]) ∧ Below w.heap.size w w' := by
  have hB1 := Aside0.mk ((Below.refl w.heap.size w).alloc (Nat.le_refl _) (.cells #[.int .i64 0, .slice none 0 0] 29))
  have e0 := Aside0.mk (heap_alloc_new w (.cells #[.int .i64 0, .slice none 0 0] 29))
  replace h := Aside0.mk h
  replace hno := Aside0.mk hno
  go_enter Try.func21, Try.ntmps21
  go_wp2_with fail
  go_loopw [6] (fun i wr => ∃ k : Nat, k ≤ F.length ∧ i = .int .i64 k ∧ Aside0 (Below w.heap.size w wr) ∧ Aside0 (wr.heap[w.heap.size]? = some (.cells #[.int .i64 0, .slice none 0 0] 29 (0, 0)))) (fun i _ => F.length - (intOf i).toNat)
  case atStart => exact ⟨0, Nat.zero_le _, rfl, hB1, e0⟩
  case round =>
    clear hB1 e0
    obtain ⟨k, hk, rfl, hb, hx⟩ := hrel
    have hh := h.out.below hb.out
    obtain ⟨q0, q1⟩ := hh.cells
    by_cases hkn : k < F.length
    · obtain ⟨g, o, c, A1, c1, rfl, hl, x0, x1, hl1, hR⟩ := hh.row.elem k hkn
      have hne := hno.out k hkn
      have z0 : (0 : Int) ≤ (k : Int) := by omega
      have z1 : (k : Int) < (F.length : Int) := by omega
      have z2 : (F[k].f0 == f) = false := beq_eq_false_iff_ne.2 hne
      have z3 : ¬ (F[k].f0 = f) := hne
      generalize F[k].f0 = y at *
      clear x1 hl1 hR hne
      replace hh := Aside0.mk hh
      go_wp2_with fail
      go_roundw
      case rel => exact ⟨k + 1, by omega, by go_num, hb, hx⟩
      case measure => simp [intOf]; omega
    · have hkk : k = F.length := by omega
      subst hkk
      obtain ⟨A, c, rfl, _⟩ := hh.row.slice
      have p0 := blk_cell' hx.out 0
      have p1 := blk_cell' hx.out 1
      have ff : ∀ j, wr.frozen? ⟨w.heap.size, j, none⟩ = false := (fun j => by simp [World.frozen?, hx.out])
      simp at p0 p1
      replace hh := Aside0.mk hh
      go_wp2_with fail
      have x2 : ((wr.setCell ⟨w.heap.size, 0, none⟩ (.int .i64 0)).setCell ⟨w.heap.size, 1, none⟩ (.slice none 0 0)).heap[w.heap.size]? = some (.cells #[.int .i64 0, .slice none 0 0] 29 (0, 0)) := by
        have h := blk_set (blk_set hx.out 0 (.int .i64 0)) 1 (.slice none 0 0)
        simpa using h
      refine bodyPost_ret (results_ct (p := 4) (u := 5) (ty := 29) rfl _ _ w.heap.size 29 #[.int .i64 0, .slice none 0 0] (0, 0) _ rfl x2 Try.underlying29 rfl (by kernel_rfl)) rfl ?_
      exact ⟨rfl, (hb.out.setCell (p := ⟨w.heap.size, 0, none⟩) (Nat.le_refl _) _).setCell (p := ⟨w.heap.size, 1, none⟩) (Nat.le_refl _) _⟩
set_option maxRecDepth 100000 in
set_option maxHeartbeats 4000000 in
theorem refGetIn_c (f : Int) (B base size m : Nat) (v : Value) (F : List S29) (w : World) (h : Rf m w B base v size F) (hn : F.length ≤ 100000) (j : Nat) (hj : j < F.length) (hf : F[j].f0 = f) (hno : ∀ (k : Nat) (hk : k < F.length), k < j → F[k].f0 ≠ f) (hl36 : F[j].f1.length ≤ 100000) :
    Calls Try.prog 21 #[.pointer (some ⟨B, 0, none⟩), .int .i64 f] w fun e w' => (∃ A' c', e = .returned (.tuple #[.agg #[.int .i64 f, .slice A' F[j].f1.length c'], .bool true]) ∧ Kd.R k36 36 w' w.heap.size (fun _ => True) (.slice A' F[j].f1.length c') F[j].f1) ∧ Below w.heap.size w w' := by
  obtain ⟨xs, hxs⟩ : ∃ xs, F[j].f1 = xs := ⟨_, rfl⟩
  rw [hxs] at hl36 ⊢
  replace hxs := Aside0.mk hxs
  have hB1 := Aside0.mk ((Below.refl w.heap.size w).alloc (Nat.le_refl _) (.cells #[.int .i64 0, .slice none 0 0] 29))
  have e0 := Aside0.mk (heap_alloc_new w (.cells #[.int .i64 0, .slice none 0 0] 29))
  replace h := Aside0.mk h
  replace hno := Aside0.mk hno
  replace hf := Aside0.mk hf
  replace hl36 := Aside0.mk hl36
  go_enter Try.func21, Try.ntmps21
  go_wp2_with fail
  go_loopw [6] (fun i wr => ∃ k : Nat, k ≤ j ∧ i = .int .i64 k ∧ Aside0 (Below w.heap.size w wr) ∧ Aside0 (wr.heap[w.heap.size]? = some (.cells #[.int .i64 0, .slice none 0 0] 29 (0, 0)))) (fun i _ => F.length - (intOf i).toNat)
  case atStart => exact ⟨0, Nat.zero_le _, rfl, hB1, e0⟩
  case round =>
    clear hB1 e0
    obtain ⟨k, hk, rfl, hb, hx⟩ := hrel
    have hh := h.out.below hb.out
    obtain ⟨q0, q1⟩ := hh.cells
    have hkn : k < F.length := by omega
    obtain ⟨g, o, c, A1, c1, rfl, hl, x0, x1, hl1, hR⟩ := hh.row.elem k hkn
    have z0 : (0 : Int) ≤ (k : Int) := by omega
    have z1 : (k : Int) < (F.length : Int) := by omega
    by_cases hkj : k < j
    · have hne := hno.out k hkn hkj
      have z2 : (F[k].f0 == f) = false := beq_eq_false_iff_ne.2 hne
      have z3 : ¬ (F[k].f0 = f) := hne
      generalize F[k].f0 = y at *
      clear x1 hl1 hR hne
      replace hh := Aside0.mk hh
      go_wp2_with fail
      go_roundw
      case rel => exact ⟨k + 1, by omega, by go_num, hb, hx⟩
      case measure => simp [intOf]; omega
    · obtain rfl : k = j := by omega
      rw [hf.out] at x0
      rw [hxs.out] at x1 hl1 hR
      have ko := Aside0.mk (copyOf_c f A1 xs.length c1 xs wr (Kd.R_reads' hR).2.2 hl36.out)
      replace hR := Aside0.mk hR
      replace hl1 := Aside0.mk hl1
      replace hh := Aside0.mk hh
      clear hR hl1
      go_wp2_with (first
        | (go_at_call 34; (with_reducible refine ko.out.mono ?_); rintro e w2 ⟨⟨A2, c2, rfl, hR2⟩, hb2⟩; have x2 := (hb2.block _ (blk_lt' hx.out)).trans hx.out; have p0 := blk_cell' x2 0; have p1 := blk_cell' x2 1; have ff : ∀ j, w2.frozen? ⟨w.heap.size, j, none⟩ = false := (fun j => by simp [World.frozen?, x2]); simp at p0 p1; replace x2 := Aside0.mk x2; replace hR2 := Aside0.mk hR2; replace hb2 := Aside0.mk hb2)
        | fail)
      have x3 : ((w2.setCell ⟨w.heap.size, 0, none⟩ (.int .i64 f)).setCell ⟨w.heap.size, 1, none⟩ (.slice A2 xs.length c2)).heap[w.heap.size]? = some (.cells #[.int .i64 f, .slice A2 xs.length c2] 29 (0, 0)) := by
        have h := blk_set (blk_set x2.out 0 (.int .i64 f)) 1 (.slice A2 xs.length c2)
        simpa using h
      refine bodyPost_ret (results_ct (p := 4) (u := 5) (ty := 29) rfl _ _ w.heap.size 29 #[.int .i64 f, .slice A2 xs.length c2] (0, 0) _ rfl x3 Try.underlying29 rfl (by kernel_rfl)) rfl ?_
      have hw1 : w.heap.size < wr.heap.size := blk_lt' hx.out
      have far : ∀ (W : World) (p : Addr) (u : Value), p.block < wr.heap.size → Kd.R k36 36 W wr.heap.size (fun _ => True) (.slice A2 xs.length c2) xs → Kd.R k36 36 (W.setCell p u) wr.heap.size (fun _ => True) (.slice A2 xs.length c2) xs := fun W p u hp h => Kd.R_mono (Kd.R_far (Kd.R_bound h) (fun k hk => by have := hk.2.1; omega) u) (fun _ _ => trivial)
      exact ⟨⟨A2, c2, rfl, Kd.R_lower (far _ _ _ hw1 (far _ _ _ hw1 hR2.out)) hb.out.size⟩, ((below_then hb.out hb.out.size hb2.out).setCell (p := ⟨w.heap.size, 0, none⟩) (Nat.le_refl _) _).setCell (p := ⟨w.heap.size, 1, none⟩) (Nat.le_refl _) _⟩
end Go.Proofs.Ytompkbganljbkaa.Rin
namespace Go.Proofs.Ytompkbganljbkaa.Rin
open Go Go.RowKit Go.Proofs.Ytompkbganljbkaa.PRingPlays Go.Proofs.YtompkbganljbkaaW.PrintWords Go.Proofs.YtompkbganljbkaaW.PrintLast Go.Proofs.YtompkbganljbkaaW.PrintMore
set_option linter.unusedVariables false
set_option linter.unusedSimpArgs false
theorem types62 : ∀ q, q ∈ 29 :: k29.E → q ≠ 62 := by
  intro q hq
  simp [k29, k36, Kd.slice, Kd.iso, Kd.pair, Kd.int, Kd.scalar] at hq
  rcases hq with rfl | rfl <;> decide
def FrR (w w' : World) (B : Nat) (v : Value) : Prop := ∀ b, b < w.heap.size → b ≠ B → some b ≠ v.ownBlock → w'.heap[b]? = w.heap[b]?
set_option maxRecDepth 100000 in
set_option maxHeartbeats 4000000 in
theorem refCut_c (f : Int) (B base size m : Nat) (v : Value) (F : List S29) (w0 w : World) (h : Rf m w B base v size F) (HB : Below base w0 w) (hbase : base ≤ w.heap.size) (hn : F.length ≤ 1000) (i0 : Nat) (hi : i0 ≤ F.length) (hlo : ∀ (k : Nat) (hk : k < F.length), k < i0 → F[k].f0 ≤ f) (hhi : ∀ (k : Nat) (hk : k < F.length), i0 ≤ k → f < F[k].f0) :
    Calls Try.prog 16 #[.pointer (some ⟨B, 0, none⟩), .int .i64 f] w fun e w' => e = .returned (.tuple #[]) ∧ (∃ v', Rf m w' B base v' size (F.take i0) ∧ ∀ b, v'.ownBlock = some b → w.heap.size ≤ b) ∧ Below base w0 w' ∧ FrR w w' B v ∧ w.heap.size ≤ w'.heap.size := by
  have hrefl := Aside0.mk (Below.refl w.heap.size w)
  have hnil := Aside0.mk (Kd.R_nil k29 29 w base (fun _ => True))
  replace h := Aside0.mk h
  replace hlo := Aside0.mk hlo
  replace hhi := Aside0.mk hhi
  replace HB := Aside0.mk HB
  go_enter Try.func16, Try.ntmps16
  go_wp2_with fail
  go_loopw [4, 5] (fun l i wr => ∃ k : Nat, k ≤ F.length ∧ i = .int .i64 k ∧ Aside0 (Below w.heap.size w wr) ∧ Aside0 (Kd.R k29 29 wr base (fun _ => True) l (F.take (min k i0))) ∧ Aside0 (∀ b, l.ownBlock = some b → w.heap.size ≤ b)) (fun _ i _ => F.length - (intOf i).toNat)
  case atStart => exact ⟨0, Nat.zero_le _, rfl, hrefl, ⟨by rw [Nat.zero_min, List.take_zero]; exact hnil.out⟩, ⟨fun b hb => by simp [Value.ownBlock] at hb⟩⟩
  case round =>
    clear hrefl hnil
    obtain ⟨k, hk, rfl, hb, hR, ho⟩ := hrel
    have hh := h.out.below hb.out
    obtain ⟨q0, q1⟩ := hh.cells
    by_cases hkn : k < F.length
    · obtain ⟨g, o, c, A1, c1, hv, hl, x0, x1, hl1, hR1⟩ := h.out.row.elem k hkn
      subst hv
      replace x0 := (World.cell?_of_block (hb.out.block g ((h.out.row.bound g rfl).2.1))).trans x0
      replace x1 := (World.cell?_of_block (hb.out.block g ((h.out.row.bound g rfl).2.1))).trans x1
      have hR2 : Aside0 (Kd.R k36 36 wr base (fun q => q < w.heap.size) (.slice A1 F[k].f1.length c1) F[k].f1) := ⟨Kd.R_mono (Kd.R_below hR1 hb.out) (fun q hq => hq.1)⟩
      have z0 : (0 : Int) ≤ (k : Int) := by omega
      have z1 : (k : Int) < (F.length : Int) := by omega
      replace hh := Aside0.mk hh
      replace hl1 := Aside0.mk hl1
      clear hR1
      by_cases hki : k < i0
      · have hle := hlo.out k hkn hki
        have hmin : min k i0 = k := by omega
        have hmin2 : min (k + 1) i0 = k + 1 := by omega
        have hnext : Aside0 (F.take (min (k + 1) i0) = F.take (min k i0) ++ [F[k]]) := ⟨by rw [hmin, hmin2]; exact List.take_succ_eq_append_getElem hkn⟩
        have hlen : Aside0 ((F.take (min k i0)).length ≤ 1000) := ⟨by rw [List.length_take]; omega⟩
        clear hmin hmin2
        generalize F.take (min k i0) = T at *
        obtain ⟨x, hx⟩ : ∃ x, x = F[k] := ⟨_, rfl⟩
        rw [← hx] at x0 x1 hR2 hl1 hle hnext
        replace hx := Aside0.mk hx
        have z2 : decide (x.f0 ≤ f) = true := decide_eq_true hle
        go_wp2_with (first
          | ((with_reducible refine gate_dst (N := 34) rfl ?_); go_loud (refine Kd.R_append k29 (w0 := w0) (W := wr) base rfl (.tmp 25) (.tmp 33) 48 29 _ 32 rfl Try.underlying48 info29 rfl (by decide) (by omega) _ T x [.int .i64 x.f0, .slice A1 x.f1.length c1] (fun _ => True) (fun q => q < w.heap.size) rfl rfl (k29_mkM wr base _ x hR2.out) (fun q hq => ⟨trivial, fun e => by have := ho.out q e.symm; omega⟩) (fun _ _ => trivial) hR.out (below_then HB.out hbase hb.out) (Nat.le_trans hbase hb.out.size) (by have := hlen.out; omega) ?_); intro v4 w4 hR4 hB4 hg4 hat4; have hb4 := Aside0.mk (hb.out.grown hg4 hb.out.size ho.out); have ho4 : Aside0 (∀ b, v4.ownBlock = some b → w.heap.size ≤ b) := ⟨fun b hbb => by rcases hat4 with h | ⟨b', h1, h2⟩; (exact ho.out b (h.symm.trans hbb)); (rw [hbb] at h1; injection h1 with h1; have := hb.out.size; omega)⟩; replace hR4 := Aside0.mk hR4; clear hB4 hg4 hat4)
          | fail)
        go_roundw
        case rel => exact ⟨k + 1, by omega, by go_num, hb4, ⟨by rw [hnext.out]; exact hR4.out⟩, ho4⟩
        case measure => simp [intOf]; omega
      · have hgt := hhi.out k hkn (by omega)
        have hmin : min (k + 1) i0 = min k i0 := by omega
        have z2 : decide (F[k].f0 ≤ f) = false := decide_eq_false (by omega)
        have z3 : ¬ (F[k].f0 ≤ f) := by omega
        generalize F[k] = x at *
        go_wp2_with fail
        go_roundw
        case rel => exact ⟨k + 1, by omega, by go_num, hb, ⟨by rw [hmin]; exact hR.out⟩, ho⟩
        case measure => simp [intOf]; omega
    · obtain rfl : k = F.length := by omega
      have hmin : min F.length i0 = i0 := by omega
      rw [hmin] at hR
      obtain ⟨A, c, rfl, _⟩ := hh.row.slice
      have ff : ∀ j, wr.frozen? ⟨B, j, none⟩ = false := (fun j => by simp [World.frozen?, hh.box])
      obtain ⟨T, hT⟩ : ∃ T, T = F.take i0 := ⟨_, rfl⟩
      rw [← hT] at hR
      replace hT := Aside0.mk hT
      obtain ⟨Al, cl, rfl⟩ := Kd.R_slice hR.out
      replace hh := Aside0.mk hh
      go_wp2_with fail
      go_end0
      have hbx := blk_set hh.out.box 1 (.slice Al T.length cl)
      refine ⟨rfl, ⟨.slice Al T.length cl, ⟨by simpa using hbx, by rw [← hT.out]; exact Ro.of_R (Kd.R_set hR.out hh.out.box types62 1 (.slice Al T.length cl)), hh.out.hb⟩, ho.out⟩, (below_then HB.out hbase hb.out).setCell (p := ⟨B, 1, none⟩) hh.out.hb _, fun b h1 h2 h3 => ?_, ?_⟩
      · rw [Below.heap_setCell wr ⟨B, 1, none⟩ _ b h2]
        exact hb.out.block b h1
      · simp [World.setCell]
        exact hb.out.size
end Go.Proofs.Ytompkbganljbkaa.Rin
namespace Go.Proofs.Ytompkbganljbkaa.Rin
open Go Go.RowKit Go.Proofs.Ytompkbganljbkaa.PRingPlays Go.Proofs.YtompkbganljbkaaW.PrintWords Go.Proofs.YtompkbganljbkaaW.PrintLast Go.Proofs.YtompkbganljbkaaW.PrintMore
set_option linter.unusedVariables false
set_option linter.unusedSimpArgs false
set_option maxRecDepth 100000 in
set_option maxHeartbeats 8000000 in
theorem refPutIn_c (f : Int) (A : Option Addr) (n c : Nat) (es : List S36) (B base size m : Nat) (v : Value) (F : List S29) (w0 w : World) (h : Rf m w B base v size F) (HB : Below base w0 w) (hbase : base ≤ w.heap.size) (hF : F.length ≤ 1000) (hm : m ≤ 500) (j : Nat) (hj : j < F.length) (hf : F[j].f0 = f) (hno : ∀ (k : Nat) (hk : k < F.length), k < j → F[k].f0 ≠ f) (HC : ∀ W, Below base w0 W → Kd.C k36 W A n es) (hn : n ≤ 100000) :
    Calls Try.prog 18 #[.pointer (some ⟨B, 0, none⟩), .agg #[.int .i64 f, .slice A n c]] w fun e w' => e = .returned (.bool true) ∧ Rf m w' B base v size (F.set j ⟨f, es⟩) ∧ Below base w0 w' ∧ FrR w w' B v ∧ w.heap.size ≤ w'.heap.size := by
  have hB1 := Aside0.mk ((Below.refl w.heap.size w).alloc (Nat.le_refl _) (.cells #[.int .i64 f, .slice A n c] 29))
  have e0 := Aside0.mk (heap_alloc_new w (.cells #[.int .i64 f, .slice A n c] 29))
  have h00 := (h.below hB1.out)
  obtain ⟨q0, q1⟩ := h00.cells
  obtain ⟨Av, cv, rfl, hlv⟩ := h00.row.slice
  replace h00 := Aside0.mk h00
  replace h := Aside0.mk h
  replace HB := Aside0.mk HB
  replace HC := Aside0.mk HC
  replace hno := Aside0.mk hno
  replace hf := Aside0.mk hf
  go_enter Try.func18, Try.ntmps18
  go_wp2_with fail
  go_loopw [6] (fun i wr => ∃ k : Nat, k ≤ j ∧ i = .int .i64 k ∧ Aside0 (Below w.heap.size w wr) ∧ Aside0 (wr.heap[w.heap.size]? = some (.cells #[.int .i64 f, .slice A n c] 29 (0, 0)))) (fun i _ => F.length - (intOf i).toNat)
  case atStart => exact ⟨0, Nat.zero_le _, rfl, hB1, e0⟩
  case round =>
    clear q0 q1 h00 hB1 e0
    obtain ⟨k, hk, rfl, hb, hx⟩ := hrel
    have hh := h.out.below hb.out
    obtain ⟨q0, q1⟩ := hh.cells
    have p0 := blk_cell' hx.out 0
    have p1 := blk_cell' hx.out 1
    simp at p0 p1
    have hkn : k < F.length := by omega
    obtain ⟨g, o, c2, A1, c1, hv, hl, x0, x1, hl1, hR⟩ := hh.row.elem k hkn
    injection hv with hv1 hv2 hv3
    subst hv1; subst hv3
    have z0 : (0 : Int) ≤ (k : Int) := by omega
    have z1 : (k : Int) < (F.length : Int) := by omega
    clear x1 hl1 hR
    replace hh := Aside0.mk hh
    by_cases hkj : k < j
    · have hne := hno.out k hkn hkj
      have z2 : (F[k].f0 == f) = false := beq_eq_false_iff_ne.2 hne
      have z3 : ¬ (F[k].f0 = f) := hne
      generalize F[k].f0 = y at *
      clear hne
      go_wp2_with fail
      go_quiet (fail)
      have hb2 := Aside0.mk (pw_below_drewN hb.out nq)
      have hx2 : Aside0 ((wr.drewN nq).heap[w.heap.size]? = some (.cells #[.int .i64 f, .slice A n c] 29 (0, 0))) := ⟨hx.out⟩
      go_wp2_with fail
      go_roundw
      case rel => exact ⟨k + 1, by omega, by go_num, hb2, hx2⟩
      case measure => simp [intOf]; omega
    · obtain rfl : k = j := by omega
      rw [hf.out] at x0
      go_wp2_with fail
      go_quiet (fail)
      have hb2 := Aside0.mk (pw_below_drewN hb.out nq)
      have hx2 : Aside0 ((wr.drewN nq).heap[w.heap.size]? = some (.cells #[.int .i64 f, .slice A n c] 29 (0, 0))) := ⟨hx.out⟩
      have hh2 := Aside0.mk (hh.out.below (pw_below_drewN (Below.refl _ _) nq))
      generalize wr.drewN nq = W1 at *
      clear q0 q1 p0 p1 x0 hb hx hh
      go_wp2_with fail
      have kS : Aside0 (∀ w', Below W1.heap.size W1 w' → w'.cell? ⟨B, 1, none⟩ = some (.slice (some ⟨g, o * 2, none⟩) F.length cv) ∧ w'.cell? ⟨w.heap.size, 0, none⟩ = some (.int .i64 f) ∧ w'.cell? ⟨w.heap.size, 1, none⟩ = some (.slice A n c)) := ⟨fun w' hb => by
        have hy := (hb.block w.heap.size (blk_lt' hx2.out)).trans hx2.out
        exact ⟨(hh2.out.below hb).cells.2, blk_cell' hy 0, blk_cell' hy 1⟩⟩
      have HB2 := Aside0.mk (below_then HB.out hbase hb2.out)
      have hbase2 := Aside0.mk (Nat.le_trans hbase hb2.out.size)
      refine start_ (n := 9) (S := fun w' => w'.cell? ⟨B, 1, none⟩ = some (.slice (some ⟨g, o * 2, none⟩) F.length cv) ∧ w'.cell? ⟨w.heap.size, 0, none⟩ = some (.int .i64 f) ∧ w'.cell? ⟨w.heap.size, 1, none⟩ = some (.slice A n c)) (ds := [8]) #[false, false, false, false, false, false, false, false, false] (by kernel_rfl) rfl rfl ⟨(kS.out _ (below_drew (Below.refl _ _))).1, (kS.out _ (below_drew (Below.refl _ _))).2.1, (kS.out _ (below_drew (Below.refl _ _))).2.2⟩ (fun hHeld => ?_)
      refine pure_ (i := 0) (N := some 28) (v := ?_) (a' := ?_) #[true, false, false, false, false, false, false, false, false] rfl rfl (by kernel_rfl) (fun _ _ _ h => h) (Or.inl ⟨by rfl, ?_⟩) ?_ ?_
      rotate_left
      · intro w'
        go_simp
        with_reducible rfl
      rotate_left
      · simp only [Act.put, List.setIfInBounds_toArray, List.set_cons_zero, List.set_cons_succ, i64_w, i32_w]
        rfl
      refine pure_ (i := 1) (N := some 29) (v := ?_) (a' := ?_) #[true, true, false, false, false, false, false, false, false] rfl rfl (by kernel_rfl) (fun _ _ _ h => h) (Or.inl ⟨by rfl, ?_⟩) ?_ ?_
      rotate_left
      · intro w'
        go_simp
        with_reducible rfl
      rotate_left
      · simp only [Act.put, List.setIfInBounds_toArray, List.set_cons_zero, List.set_cons_succ, i64_w, i32_w]
        rfl
      refine pure_ (i := 2) (N := some 30) (v := ?_) (a' := ?_) #[true, true, true, false, false, false, false, false, false] rfl rfl (by kernel_rfl) (fun _ _ _ h => h) (Or.inl ⟨by rfl, ?_⟩) ?_ ?_
      rotate_left
      · intro w'
        go_simp
        with_reducible rfl
      rotate_left
      · simp only [Act.put, List.setIfInBounds_toArray, List.set_cons_zero, List.set_cons_succ, i64_w, i32_w]
        rfl
      refine pure_ (i := 4) (N := some 32) (v := ?_) (a' := ?_) #[true, true, true, false, true, false, false, false, false] rfl rfl (by kernel_rfl) (fun _ _ _ h => h) (Or.inl ⟨by rfl, ?_⟩) ?_ ?_
      rotate_left
      · intro w'
        go_simp
        with_reducible rfl
      rotate_left
      · simp only [Act.put, List.setIfInBounds_toArray, List.set_cons_zero, List.set_cons_succ, i64_w, i32_w]
        rfl
      refine take_ (i := 3) (N := some 31) (v := ?_) (a' := ?_) #[true, true, true, true, true, false, false, false, false] rfl rfl (by kernel_rfl) (fun _ _ _ h => h) (Or.inl ⟨by rfl, ?_⟩) hHeld ?_ ?_
      rotate_left
      · rintro w' ⟨s0, s1, s2⟩
        go_simp
        with_reducible rfl
      rotate_left
      · simp only [Act.put, List.setIfInBounds_toArray, List.set_cons_zero, List.set_cons_succ, i64_w, i32_w]
        rfl
      refine take_ (i := 5) (N := some 33) (v := ?_) (a' := ?_) #[true, true, true, true, true, true, false, false, false] rfl rfl (by kernel_rfl) (fun _ _ _ h => h) (Or.inl ⟨by rfl, ?_⟩) hHeld ?_ ?_
      rotate_left
      · rintro w' ⟨s0, s1, s2⟩
        go_simp
        with_reducible rfl
      rotate_left
      · simp only [Act.put, List.setIfInBounds_toArray, List.set_cons_zero, List.set_cons_succ, i64_w, i32_w]
        rfl
      refine one_ (i := 6) (N := some 34) #[true, true, true, true, true, true, true, false, false] rfl rfl (by kernel_rfl) (by decide) (fun K hK => ?_)
      have HB_ := below_drew (Below.refl W1.heap.size W1)
      refine goes_ Try.func34 (by kernel_rfl) rfl #[.agg #[.int .i64 f, .slice A n c]] (by rfl) rfl rfl (by simp only [List.map_toArray, List.map_cons, List.map_nil]; rfl) ?_
      with_reducible refine (copyOf_c f A n c es _ (HC.out _ (below_then HB2.out hbase2.out HB_)) hn).mono ?_
      rintro e w3 ⟨⟨A', c', rfl, hR⟩, hbb⟩
      refine ⟨_, rfl, ?_⟩
      have hR3 : Aside0 (Kd.R k36 36 w3 base (fun q => W1.heap.size ≤ q) (.slice A' es.length c') es) := ⟨Kd.R_lower (Kd.R_mono (Kd.R_bound hR) (fun q hq => Nat.le_trans HB_.size hq.2.1)) (Nat.le_trans hbase2.out HB_.size)⟩
      have hB3 := Aside0.mk (below_then HB_ HB_.size hbb)
      refine hK.out _ _ ⟨(kS.out _ hB3.out).1, (kS.out _ hB3.out).2.1, (kS.out _ hB3.out).2.2⟩ (fun hHeld => ?_)
      clear hK K
      refine norm_ (a' := ?_) ?_ ?_
      rotate_left
      · show Act.put _ (some 34) _ = _
        simp only [Act.put, List.setIfInBounds_toArray, List.set_cons_zero, List.set_cons_succ, i64_w, i32_w]
        rfl
      refine pure_ (i := 7) (N := some 35) (v := ?_) (a' := ?_) #[true, true, true, true, true, true, true, true, false] rfl rfl (by kernel_rfl) (fun _ _ _ h => h) (Or.inl ⟨by rfl, ?_⟩) ?_ ?_
      rotate_left
      · intro w'
        go_simp
        with_reducible rfl
      rotate_left
      · simp only [Act.put, List.setIfInBounds_toArray, List.set_cons_zero, List.set_cons_succ, i64_w, i32_w]
        rfl
      refine last_ (i := 8) (N := none) #[true, true, true, true, true, true, true, true, true] rfl rfl (by kernel_rfl) (by decide) (fun K hK => ?_)
      have hh3 := Aside0.mk (hh2.out.below hB3.out)
      obtain ⟨g', o', c4, hv, hrun, hRo, hgr⟩ := hh3.out.row.set k hkn f es A' c' (fun q => W1.heap.size ≤ q) hR3.out (fun q hq e => by have := (hh2.out.row.bound q e.symm).2.1; omega)
      injection hv with hv1 hv2 hv3
      injection hv1 with hv1
      injection hv1 with hv1 hv4
      subst hv1
      subst hv3
      obtain rfl : o = o' := by omega
      replace hrun := Aside0.mk hrun
      replace hRo := Aside0.mk hRo
      replace hgr := Aside0.mk hgr
      refine skip_ (w1 := w3.setCells g (o * 2 + k * 2) [.int .i64 f, .slice A' es.length c']) (by rfl) rfl (exec_store (t := 29) (q := .pointer (some ⟨g, o * 2 + k * 2, none⟩)) (u := .agg #[.int .i64 f, .slice A' es.length c']) rfl ?_ (by rfl) hrun.out) ?_
      · show Value.pointer (some _) = _
        simp [Addr.add_lit]
      refine hK.out _ _ ?_
      clear hK K
      refine done_ (by kernel_rfl) ?_
      generalize w3.setCells g (o * 2 + k * 2) [.int .i64 f, .slice A' es.length c'] = w5 at *
      clear hHeld kS
      go_wp2_with fail
      go_ret
      have hBb := hgr.out.block B (Nat.lt_of_lt_of_le (blk_lt' hh2.out.box) hB3.out.size) (fun e => by
        obtain ⟨_, _, cells, hc⟩ := hh2.out.row.bound B e.symm
        have h2 := hh2.out.box
        rw [hc] at h2
        injection h2 with h2
        injection h2 with _ h2
        cases h2)
      refine ⟨rfl, ⟨hBb.trans hh3.out.box, hRo.out, hh3.out.hb⟩, (below_then HB2.out hbase2.out hB3.out).grown hgr.out (Nat.le_trans hbase2.out hB3.out.size) (fun q hq => by injection hq with hq; subst hq; exact (hh2.out.row.bound _ rfl).1), fun b h1 h2 h3 => ?_, Nat.le_trans hb2.out.size (Nat.le_trans hB3.out.size hgr.out.size)⟩
      rw [hgr.out.block b (by have := hb2.out.size; have := hB3.out.size; omega) (fun e => h3 e), hB3.out.block b (by have := hb2.out.size; omega), hb2.out.block b h1]
end Go.Proofs.Ytompkbganljbkaa.Rin
namespace Go.Proofs.Ytompkbganljbkaa.Rin
open Go Go.RowKit Go.Proofs.Ytompkbganljbkaa.PRingPlays Go.Proofs.YtompkbganljbkaaW.PrintWords Go.Proofs.YtompkbganljbkaaW.PrintLast Go.Proofs.YtompkbganljbkaaW.PrintMore
set_option linter.unusedVariables false
set_option linter.unusedSimpArgs false
set_option maxRecDepth 100000 in
set_option maxHeartbeats 8000000 in
theorem refPutNo_c (f : Int) (A : Option Addr) (n c : Nat) (es : List S36) (B base size m : Nat) (v : Value) (F : List S29) (w0 w : World) (h : Rf m w B base v size F) (HB : Below base w0 w) (hbase : base ≤ w.heap.size) (hF : F.length ≤ 1000) (hm : m ≤ 500) (h0 : 0 < F.length) (hno : ∀ (k : Nat) (hk : k < F.length), F[k].f0 ≠ f) (y : Int) (hy : ∀ (hk : F.length - 1 < F.length), F[F.length - 1].f0 = y) (hw : -9223372036854775808 ≤ y ∧ y ≤ 9223372036854775807) (hbad : y = 9223372036854775807 ∨ (y ≠ 9223372036854775807 ∧ f ≠ y + 1)) (HC : ∀ W, Below base w0 W → Kd.C k36 W A n es) (hn : n ≤ 100000) :
    Calls Try.prog 18 #[.pointer (some ⟨B, 0, none⟩), .agg #[.int .i64 f, .slice A n c]] w fun e w' => e = .returned (.bool false) ∧ Below w.heap.size w w' := by
  have hB1 := Aside0.mk ((Below.refl w.heap.size w).alloc (Nat.le_refl _) (.cells #[.int .i64 f, .slice A n c] 29))
  have e0 := Aside0.mk (heap_alloc_new w (.cells #[.int .i64 f, .slice A n c] 29))
  have h00 := (h.below hB1.out)
  obtain ⟨q0, q1⟩ := h00.cells
  obtain ⟨Av, cv, rfl, hlv⟩ := h00.row.slice
  replace h00 := Aside0.mk h00
  replace h := Aside0.mk h
  replace HB := Aside0.mk HB
  replace HC := Aside0.mk HC
  replace hno := Aside0.mk hno
  go_enter Try.func18, Try.ntmps18
  go_wp2_with fail
  go_loopw [6] (fun i wr => ∃ k : Nat, k ≤ F.length ∧ i = .int .i64 k ∧ Aside0 (Below w.heap.size w wr) ∧ Aside0 (wr.heap[w.heap.size]? = some (.cells #[.int .i64 f, .slice A n c] 29 (0, 0)))) (fun i _ => F.length - (intOf i).toNat)
  case atStart => exact ⟨0, Nat.zero_le _, rfl, hB1, e0⟩
  case round =>
    clear q0 q1 h00 hB1 e0
    obtain ⟨k, hk, rfl, hb, hx⟩ := hrel
    have hh := h.out.below hb.out
    obtain ⟨q0, q1⟩ := hh.cells
    have p0 := blk_cell' hx.out 0
    have p1 := blk_cell' hx.out 1
    simp at p0 p1
    by_cases hkn : k < F.length
    · clear hbad hy
      obtain ⟨g, o, c2, A1, c1, hv, hl, x0, x1, hl1, hR⟩ := hh.row.elem k hkn
      injection hv with hv1 hv2 hv3
      subst hv1; subst hv3
      have z0 : (0 : Int) ≤ (k : Int) := by omega
      have z1 : (k : Int) < (F.length : Int) := by omega
      clear x1 hl1 hR
      replace hh := Aside0.mk hh
      have hne := hno.out k hkn
      have z2 : (F[k].f0 == f) = false := beq_eq_false_iff_ne.2 hne
      have z3 : ¬ (F[k].f0 = f) := hne
      generalize F[k].f0 = y at *
      clear hne
      go_wp2_with fail
      go_quiet (fail)
      have hb2 := Aside0.mk (pw_below_drewN hb.out nq)
      have hx2 : Aside0 ((wr.drewN nq).heap[w.heap.size]? = some (.cells #[.int .i64 f, .slice A n c] 29 (0, 0))) := ⟨hx.out⟩
      go_wp2_with fail
      go_roundw
      case rel => exact ⟨k + 1, by omega, by go_num, hb2, hx2⟩
      case measure => simp [intOf]; omega
    · obtain rfl : k = F.length := by omega
      obtain ⟨t, ht⟩ : ∃ t, F.length = t + 1 := ⟨F.length - 1, by omega⟩
      obtain ⟨g, o, c2, A1, c1, hv, hl, x0, x1, hl1, hR⟩ := hh.row.elem t (by omega)
      injection hv with hv1 hv2 hv3
      subst hv1; subst hv3
      have hyt : F[t].f0 = y := by
        have h5 := hy (by omega)
        have h6 : F.length - 1 = t := by omega
        simp only [h6] at h5
        exact h5
      rw [hyt] at x0
      clear hy hyt x1 hl1 hR
      have z0 : (0 : Int) ≤ (t : Int) := by omega
      have z1 : (t : Int) < (F.length : Int) := by omega
      have z2 : wrap64 ((F.length : Int) - 1) = (t : Int) := by unfold wrap64; omega
      have z3 : IntKind.i64.wrap ((F.length : Int) - 1) = (t : Int) := by rw [i64_w]; exact z2
      have z4 : (0 : Int) < (F.length : Int) := by omega
      replace hh := Aside0.mk hh
      replace ht := Aside0.mk ht
      rcases hbad with rfl | ⟨hy1, hy2⟩
      · go_wp2_with fail
        go_quiet (fail)
        go_wp2_with fail
        go_ret
        exact ⟨rfl, pw_below_drewN hb.out nq⟩
      · have z5 : (y == 9223372036854775807) = false := beq_eq_false_iff_ne.2 hy1
        have z6 : wrap64 (y + 1) = y + 1 := by unfold wrap64; omega
        have z9 : IntKind.i64.wrap (y + 1) = y + 1 := by rw [i64_w]; exact z6
        have z7 : (f != y + 1) = true := bne_iff_ne.2 hy2
        have z8 : ¬ (f = y + 1) := hy2
        go_wp2_with fail
        go_quiet (fail)
        go_wp2_with fail
        go_ret
        exact ⟨rfl, pw_below_drewN hb.out nq⟩
end Go.Proofs.Ytompkbganljbkaa.Rin
namespace Go.Proofs.Ytompkbganljbkaa.Rin
open Go Go.RowKit Go.Proofs.Ytompkbganljbkaa.PRingPlays Go.Proofs.YtompkbganljbkaaW.PrintWords Go.Proofs.YtompkbganljbkaaW.PrintLast Go.Proofs.YtompkbganljbkaaW.PrintMore
set_option linter.unusedVariables false
set_option linter.unusedSimpArgs false
theorem exec_append {P : Program} {oi : Oper} {a : Act} {w w1 : World} {ty : TypeId} {s x : Operand} {v u v1 : Value} (ho : oi.op = .call { callee := .builtin .append, args := #[s, x], argTypes := #[48, 48] }) (hty : oi.type = ty) (hs : a.eval s = v) (hx : a.eval x = u) (hr : (Builtin.append_ #[48, 48] ty #[v, u]).run P w = .ok v1 w1) : (execOp a.eval oi).run P w = .ok (.value v1) w1 := by
  subst hty
  unfold execOp
  simp only [ho, resolve, invoke, builtin, Sem.run_bind, Sem.run_pure, Result.andThen_ok, List.map_toArray, List.map_cons, List.map_nil, hs, hx, hr]
set_option maxRecDepth 100000 in
set_option maxHeartbeats 8000000 in
theorem refPutE_c (f : Int) (A : Option Addr) (n c : Nat) (es : List S36) (B base size m : Nat) (v : Value) (F : List S29) (w0 w : World) (h : Rf m w B base v size F) (HB : Below base w0 w) (hbase : base ≤ w.heap.size) (hF : F.length ≤ 1000) (hm : m ≤ 500) (hsz : 1 ≤ size) (h0 : F.length = 0) (HC : ∀ W, Below base w0 W → Kd.C k36 W A n es) (hn : n ≤ 100000) :
    Calls Try.prog 18 #[.pointer (some ⟨B, 0, none⟩), .agg #[.int .i64 f, .slice A n c]] w fun e w' => e = .returned (.bool true) ∧ (∃ v', Rf m w' B base v' size (F ++ [⟨f, es⟩]) ∧ (v'.ownBlock = v.ownBlock ∨ ∃ b, v'.ownBlock = some b ∧ w.heap.size ≤ b)) ∧ Below base w0 w' ∧ FrR w w' B v ∧ w.heap.size ≤ w'.heap.size := by
  have hB1 := Aside0.mk ((Below.refl w.heap.size w).alloc (Nat.le_refl _) (.cells #[.int .i64 f, .slice A n c] 29))
  have e0 := Aside0.mk (heap_alloc_new w (.cells #[.int .i64 f, .slice A n c] 29))
  have h00 := (h.below hB1.out)
  obtain ⟨q0, q1⟩ := h00.cells
  obtain ⟨Av, cv, rfl, hlv⟩ := h00.row.slice
  replace h00 := Aside0.mk h00
  replace h := Aside0.mk h
  replace HB := Aside0.mk HB
  replace HC := Aside0.mk HC
  go_enter Try.func18, Try.ntmps18
  rw [h0] at q1
  go_wp2_with fail
  go_loopw [6] (fun i wr => i = .int .i64 0 ∧ Aside0 (Below w.heap.size w wr) ∧ Aside0 (wr.heap[w.heap.size]? = some (.cells #[.int .i64 f, .slice A n c] 29 (0, 0)))) (fun i _ => 0)
  case atStart => exact ⟨rfl, hB1, e0⟩
  case round =>
    clear q0 q1 h00 hB1 e0
    obtain ⟨rfl, hb, hx⟩ := hrel
    have hh := h.out.below hb.out
    obtain ⟨q0, q1⟩ := hh.cells
    have p0 := blk_cell' hx.out 0
    have p1 := blk_cell' hx.out 1
    simp at p0 p1
    rw [h0] at q1
    replace hh := Aside0.mk hh
    replace h0 := Aside0.mk h0
    go_wp2_with fail
    go_quiet (fail)
    have hb2 := Aside0.mk (pw_below_drewN hb.out nq)
    have hx2 : Aside0 ((wr.drewN nq).heap[w.heap.size]? = some (.cells #[.int .i64 f, .slice A n c] 29 (0, 0))) := ⟨hx.out⟩
    have hh2 := Aside0.mk (hh.out.below (pw_below_drewN (Below.refl _ _) nq))
    generalize wr.drewN nq = W1 at *
    clear q0 q1 p0 p1 hb hx hh
    go_wp2_with fail
    have kS : Aside0 (∀ w', Below W1.heap.size W1 w' → w'.cell? ⟨B, 1, none⟩ = some (.slice Av 0 cv) ∧ w'.cell? ⟨w.heap.size, 0, none⟩ = some (.int .i64 f) ∧ w'.cell? ⟨w.heap.size, 1, none⟩ = some (.slice A n c)) := ⟨fun w' hb => by
      have hy := (hb.block w.heap.size (blk_lt' hx2.out)).trans hx2.out
      exact ⟨(by have h5 := (hh2.out.below hb).cells.2; rw [h0.out] at h5; exact h5), blk_cell' hy 0, blk_cell' hy 1⟩⟩
    have HB2 := Aside0.mk (below_then HB.out hbase hb2.out)
    have hbase2 := Aside0.mk (Nat.le_trans hbase hb2.out.size)
    refine start_ (n := 12) (S := fun w' => w'.cell? ⟨B, 1, none⟩ = some (.slice Av 0 cv) ∧ w'.cell? ⟨w.heap.size, 0, none⟩ = some (.int .i64 f) ∧ w'.cell? ⟨w.heap.size, 1, none⟩ = some (.slice A n c)) (ds := [8, 11]) #[false, false, false, false, false, false, false, false, false, false, false, false] (by kernel_rfl) rfl rfl ⟨(kS.out _ (below_drew (Below.refl _ _))).1, (kS.out _ (below_drew (Below.refl _ _))).2.1, (kS.out _ (below_drew (Below.refl _ _))).2.2⟩ (fun hHeld => ?_)
    refine pure_ (i := 0) (N := some 65) (v := ?_) (a' := ?_) #[true, false, false, false, false, false, false, false, false, false, false, false] rfl rfl (by kernel_rfl) (fun _ _ _ h => h) (Or.inl ⟨by rfl, ?_⟩) ?_ ?_
    rotate_left
    · intro w'
      go_simp
      with_reducible rfl
    rotate_left
    · simp only [Act.put, List.setIfInBounds_toArray, List.set_cons_zero, List.set_cons_succ, i64_w, i32_w]
      rfl
    refine pure_ (i := 1) (N := some 66) (v := ?_) (a' := ?_) #[true, true, false, false, false, false, false, false, false, false, false, false] rfl rfl (by kernel_rfl) (fun _ _ _ h => h) (Or.inl ⟨by rfl, ?_⟩) ?_ ?_
    rotate_left
    · intro w'
      go_simp
      with_reducible rfl
    rotate_left
    · simp only [Act.put, List.setIfInBounds_toArray, List.set_cons_zero, List.set_cons_succ, i64_w, i32_w]
      rfl
    refine pure_ (i := 2) (N := some 67) (v := ?_) (a' := ?_) #[true, true, true, false, false, false, false, false, false, false, false, false] rfl rfl (by kernel_rfl) (fun _ _ _ h => h) (Or.inl ⟨by rfl, ?_⟩) ?_ ?_
    rotate_left
    · intro w'
      go_simp
      with_reducible rfl
    rotate_left
    · simp only [Act.put, List.setIfInBounds_toArray, List.set_cons_zero, List.set_cons_succ, i64_w, i32_w]
      rfl
    refine pure_ (i := 3) (N := some 68) (v := ?_) (a' := ?_) #[true, true, true, true, false, false, false, false, false, false, false, false] rfl rfl (by kernel_rfl) (fun _ _ _ h => h) (Or.inl ⟨by rfl, ?_⟩) ?_ ?_
    rotate_left
    · intro w'
      go_simp
      with_reducible rfl
    rotate_left
    · simp only [Act.put, List.setIfInBounds_toArray, List.set_cons_zero, List.set_cons_succ, i64_w, i32_w]
      rfl
    refine take_ (i := 4) (N := some 69) (v := ?_) (a' := ?_) #[true, true, true, true, true, false, false, false, false, false, false, false] rfl rfl (by kernel_rfl) (fun _ _ _ h => h) (Or.inl ⟨by rfl, ?_⟩) hHeld ?_ ?_
    rotate_left
    · rintro w' ⟨s0, s1, s2⟩
      go_simp
      with_reducible rfl
    rotate_left
    · simp only [Act.put, List.setIfInBounds_toArray, List.set_cons_zero, List.set_cons_succ, i64_w, i32_w]
      rfl
    refine take_ (i := 5) (N := some 70) (v := ?_) (a' := ?_) #[true, true, true, true, true, true, false, false, false, false, false, false] rfl rfl (by kernel_rfl) (fun _ _ _ h => h) (Or.inl ⟨by rfl, ?_⟩) hHeld ?_ ?_
    rotate_left
    · rintro w' ⟨s0, s1, s2⟩
      go_simp
      with_reducible rfl
    rotate_left
    · simp only [Act.put, List.setIfInBounds_toArray, List.set_cons_zero, List.set_cons_succ, i64_w, i32_w]
      rfl
    refine one_ (i := 6) (N := some 71) #[true, true, true, true, true, true, true, false, false, false, false, false] rfl rfl (by kernel_rfl) (by decide) (fun K hK => ?_)
    have HB_ := below_drew (Below.refl W1.heap.size W1)
    refine goes_ Try.func34 (by kernel_rfl) rfl #[.agg #[.int .i64 f, .slice A n c]] (by rfl) rfl rfl (by simp only [List.map_toArray, List.map_cons, List.map_nil]; rfl) ?_
    with_reducible refine (copyOf_c f A n c es _ (HC.out _ (below_then HB2.out hbase2.out HB_)) hn).mono ?_
    rintro e w3 ⟨⟨A', c', rfl, hR⟩, hbb⟩
    refine ⟨_, rfl, ?_⟩
    have hR3 : Aside0 (Kd.R k36 36 w3 base (fun q => W1.heap.size ≤ q) (.slice A' es.length c') es) := ⟨Kd.R_lower (Kd.R_mono (Kd.R_bound hR) (fun q hq => Nat.le_trans HB_.size hq.2.1)) (Nat.le_trans hbase2.out HB_.size)⟩
    have hB3 := Aside0.mk (below_then HB_ HB_.size hbb)
    refine hK.out _ _ ⟨(kS.out _ hB3.out).1, (kS.out _ hB3.out).2.1, (kS.out _ hB3.out).2.2⟩ (fun hHeld => ?_)
    clear hK K
    refine norm_ (a' := ?_) ?_ ?_
    rotate_left
    · show Act.put _ (some 71) _ = _
      simp only [Act.put, List.setIfInBounds_toArray, List.set_cons_zero, List.set_cons_succ, i64_w, i32_w]
      rfl
    refine one_ (i := 7) (N := some 72) #[true, true, true, true, true, true, true, true, false, false, false, false] rfl rfl (by kernel_rfl) (by decide) (fun K hK => ?_)
    refine value_ (w1 := ?_) (v := ?_) (by rfl) rfl ?_ ?_
    rotate_left 2
    · go_simp
      constructor
      · rfl
      · rfl
    refine hK.out _ _ ⟨(kS.out _ (hB3.out.alloc hB3.out.size _)).1, (kS.out _ (hB3.out.alloc hB3.out.size _)).2.1, (kS.out _ (hB3.out.alloc hB3.out.size _)).2.2⟩ (fun hHeld => ?_)
    clear hK K
    refine norm_ (a' := ?_) ?_ ?_
    rotate_left
    · show Act.put _ (some 72) _ = _
      simp only [Act.put, List.setIfInBounds_toArray, List.set_cons_zero, List.set_cons_succ, i64_w, i32_w]
      rfl
    refine last_ (i := 8) (N := some 73) #[true, true, true, true, true, true, true, true, true, false, false, false] rfl rfl (by kernel_rfl) (by decide) (fun K hK => ?_)
    have hh3 := Aside0.mk (hh2.out.below hB3.out)
    obtain ⟨v4, w4, hrun, hRo, hgr, hat⟩ := hh3.out.row.append (Nat.le_trans hbase2.out hB3.out.size) hF ⟨f, es⟩ [.int .i64 f, .slice A' es.length c'] (fun q => W1.heap.size ≤ q) (k29_mkM w3 base _ ⟨f, es⟩ hR3.out) (fun q hq e => by have := (hh2.out.row.bound q e.symm).2.1; omega) 48 (by omega)
    rw [h0.out] at hrun
    obtain ⟨A4, c4, e4, hl4⟩ := hRo.slice
    rw [List.length_append, List.length_singleton] at e4
    rw [h0.out] at e4
    subst e4
    replace hrun := Aside0.mk hrun
    replace hRo := Aside0.mk hRo
    replace hgr := Aside0.mk hgr
    replace hat := Aside0.mk hat
    have hx4 := Aside0.mk ((hgr.out.block B (blk_lt' hh3.out.box) (fun e => by
          obtain ⟨_, _, cells, hc⟩ := hh3.out.row.bound B e.symm
          have h2 := hh3.out.box
          rw [hc] at h2
          injection h2 with h2
          injection h2 with _ h2
          cases h2)).trans hh3.out.box)
    refine value_ (w1 := w4) (v := .slice A4 (0 + 1) c4) (by rfl) rfl (exec_append (ty := 48) (v := (.slice Av 0 cv)) (u := .slice (some ⟨w3.heap.size, 0, none⟩) 1 1) rfl rfl (by rfl) (by rfl) hrun.out) ?_
    refine hK.out _ _ ?_
    clear hK K
    refine norm_ (a' := ?_) ?_ ?_
    rotate_left
    · show Act.put _ (some 73) _ = _
      simp only [Act.put, List.setIfInBounds_toArray, List.set_cons_zero, List.set_cons_succ, i64_w, i32_w]
      rfl
    refine pure_ (i := 9) (N := some 74) (v := ?_) (a' := ?_) #[true, true, true, true, true, true, true, true, true, true, false, false] rfl rfl (by kernel_rfl) (fun _ _ _ h => h) (Or.inl ⟨by rfl, ?_⟩) ?_ ?_
    rotate_left
    · intro w'
      go_simp
      with_reducible rfl
    rotate_left
    · simp only [Act.put, List.setIfInBounds_toArray, List.set_cons_zero, List.set_cons_succ, i64_w, i32_w]
      rfl
    refine pure_ (i := 10) (N := some 75) (v := ?_) (a' := ?_) #[true, true, true, true, true, true, true, true, true, true, true, false] rfl rfl (by kernel_rfl) (fun _ _ _ h => h) (Or.inl ⟨by rfl, ?_⟩) ?_ ?_
    rotate_left
    · intro w'
      go_simp
      with_reducible rfl
    rotate_left
    · simp only [Act.put, List.setIfInBounds_toArray, List.set_cons_zero, List.set_cons_succ, i64_w, i32_w]
      rfl
    refine last_ (i := 11) (N := none) #[true, true, true, true, true, true, true, true, true, true, true, true] rfl rfl (by kernel_rfl) (by decide) (fun K hK => ?_)
    have q4 := blk_cell' hx4.out 1
    have f4 : w4.frozen? ⟨B, 1, none⟩ = false := by simp [World.frozen?, hx4.out]
    simp at q4
    refine skip_ (w1 := ?_) (by rfl) rfl ?_ ?_
    rotate_left
    · go_simp
      rfl
    refine hK.out _ _ ?_
    clear hK K
    refine done_ (by kernel_rfl) ?_
    have hR5 : Aside0 (Rf m (w4.setCell ⟨B, 1, none⟩ (.slice A4 (0 + 1) c4)) B base (.slice A4 (0 + 1) c4) size (F ++ [⟨f, es⟩])) := ⟨⟨by have h5 := blk_set hx4.out 1 (.slice A4 (0 + 1) c4); simpa using h5, hRo.out.keep (fun k _ hk hq => Below.heap_setCell w4 ⟨B, 1, none⟩ _ k (fun e => by
      have e2 : k = B := e
      have hx5 := hx4.out
      rw [e2] at hq
      rcases hq with hq | ⟨cells, hc⟩
      · obtain ⟨_, _, cells, hc⟩ := hRo.out.bound B hq
        rw [hx5] at hc
        injection hc with hc
        injection hc with _ hc
        cases hc
      · rw [hx5] at hc
        injection hc with hc
        injection hc with _ hc
        cases hc)), hh2.out.hb⟩⟩
    have hB5 := Aside0.mk (((below_then HB2.out hbase2.out hB3.out).grown hgr.out (Nat.le_trans hbase2.out hB3.out.size) (fun q hq => (hh3.out.row.bound q hq).1)).setCell (p := ⟨B, 1, none⟩) hh2.out.hb (.slice A4 (0 + 1) c4))
    have hF5 : Aside0 (FrR w (w4.setCell ⟨B, 1, none⟩ (.slice A4 (0 + 1) c4)) B (.slice Av F.length cv)) := ⟨fun b h1 h2 h3 => by
      rw [Below.heap_setCell w4 ⟨B, 1, none⟩ _ b h2, hgr.out.block b (by have := hb2.out.size; have := hB3.out.size; omega) (fun e => h3 e), hB3.out.block b (by have := hb2.out.size; omega), hb2.out.block b h1]⟩
    have hs5 : Aside0 (w.heap.size ≤ (w4.setCell ⟨B, 1, none⟩ (.slice A4 (0 + 1) c4)).heap.size) := ⟨by
      have h1 := hb2.out.size
      have h2 := hB3.out.size
      have h3 := hgr.out.size
      simp [World.setCell]
      omega⟩
    have ho5 : Aside0 (Value.ownBlock (.slice A4 (0 + 1) c4) = Value.ownBlock (.slice Av F.length cv) ∨ ∃ b, Value.ownBlock (.slice A4 (0 + 1) c4) = some b ∧ w.heap.size ≤ b) := ⟨by
      rcases hat.out with h | ⟨b, h1, h2⟩
      · exact .inl h
      · exact .inr ⟨b, h1, by have := hb2.out.size; have := hB3.out.size; omega⟩⟩
    generalize w4.setCell ⟨B, 1, none⟩ (.slice A4 (0 + 1) c4) = w5 at *
    clear hHeld kS hrun hRo hgr hx4 q4 f4
    obtain ⟨p0, p1⟩ := hR5.out.cells
    rw [Nat.zero_add] at p1
    have z20 : ¬ ((size : Int) < 1) := by omega
    have z21 : decide ((size : Int) < 1) = false := decide_eq_false z20
    go_wp2_with fail
    go_quiet (fail)
    go_wp2_with fail
    go_ret
    exact ⟨rfl, ⟨_, hR5.out.below (pw_below_drewN (Below.refl _ _) nq), ho5.out⟩, pw_below_drewN hB5.out nq, hF5.out, hs5.out⟩
end Go.Proofs.Ytompkbganljbkaa.Rin
namespace Go.Proofs.Ytompkbganljbkaa.Rin
open Go Go.RowKit Go.Proofs.Ytompkbganljbkaa.PRingPlays Go.Proofs.YtompkbganljbkaaW.PrintWords Go.Proofs.YtompkbganljbkaaW.PrintLast Go.Proofs.YtompkbganljbkaaW.PrintMore
set_option linter.unusedVariables false
set_option linter.unusedSimpArgs false
set_option maxRecDepth 100000 in
set_option maxHeartbeats 8000000 in
theorem refPutK_c (f : Int) (A : Option Addr) (n c : Nat) (es : List S36) (B base size m : Nat) (v : Value) (F : List S29) (w0 w : World) (h : Rf m w B base v size F) (HB : Below base w0 w) (hbase : base ≤ w.heap.size) (hF : F.length ≤ 1000) (hm : m ≤ 500) (hsz : 1 ≤ size) (h0 : 0 < F.length) (hno : ∀ (k : Nat) (hk : k < F.length), F[k].f0 ≠ f) (y : Int) (hy : ∀ (hk : F.length - 1 < F.length), F[F.length - 1].f0 = y) (hw : -9223372036854775808 ≤ y ∧ y < 9223372036854775807) (hgood : f = y + 1) (hsize : F.length + 1 ≤ size) (HC : ∀ W, Below base w0 W → Kd.C k36 W A n es) (hn : n ≤ 100000) :
    Calls Try.prog 18 #[.pointer (some ⟨B, 0, none⟩), .agg #[.int .i64 f, .slice A n c]] w fun e w' => e = .returned (.bool true) ∧ (∃ v', Rf m w' B base v' size (F ++ [⟨f, es⟩]) ∧ (v'.ownBlock = v.ownBlock ∨ ∃ b, v'.ownBlock = some b ∧ w.heap.size ≤ b)) ∧ Below base w0 w' ∧ FrR w w' B v ∧ w.heap.size ≤ w'.heap.size := by
  have hB1 := Aside0.mk ((Below.refl w.heap.size w).alloc (Nat.le_refl _) (.cells #[.int .i64 f, .slice A n c] 29))
  have e0 := Aside0.mk (heap_alloc_new w (.cells #[.int .i64 f, .slice A n c] 29))
  have h00 := (h.below hB1.out)
  obtain ⟨q0, q1⟩ := h00.cells
  obtain ⟨Av, cv, rfl, hlv⟩ := h00.row.slice
  replace h00 := Aside0.mk h00
  replace h := Aside0.mk h
  replace HB := Aside0.mk HB
  replace HC := Aside0.mk HC
  replace hno := Aside0.mk hno
  replace hgood := Aside0.mk hgood
  go_enter Try.func18, Try.ntmps18
  go_wp2_with fail
  go_loopw [6] (fun i wr => ∃ k : Nat, k ≤ F.length ∧ i = .int .i64 k ∧ Aside0 (Below w.heap.size w wr) ∧ Aside0 (wr.heap[w.heap.size]? = some (.cells #[.int .i64 f, .slice A n c] 29 (0, 0)))) (fun i _ => F.length - (intOf i).toNat)
  case atStart => exact ⟨0, Nat.zero_le _, rfl, hB1, e0⟩
  case round =>
    clear q0 q1 h00 hB1 e0
    obtain ⟨k, hk, rfl, hb, hx⟩ := hrel
    have hh := h.out.below hb.out
    obtain ⟨q0, q1⟩ := hh.cells
    have p0 := blk_cell' hx.out 0
    have p1 := blk_cell' hx.out 1
    simp at p0 p1
    by_cases hkn : k < F.length
    · clear hgood hy
      obtain ⟨g, o, c2, A1, c1, hv, hl, x0, x1, hl1, hR⟩ := hh.row.elem k hkn
      injection hv with hv1 hv2 hv3
      subst hv1; subst hv3
      have z0 : (0 : Int) ≤ (k : Int) := by omega
      have z1 : (k : Int) < (F.length : Int) := by omega
      clear x1 hl1 hR
      replace hh := Aside0.mk hh
      have hne := hno.out k hkn
      have z2 : (F[k].f0 == f) = false := beq_eq_false_iff_ne.2 hne
      have z3 : ¬ (F[k].f0 = f) := hne
      generalize F[k].f0 = y at *
      clear hne
      go_wp2_with fail
      go_quiet (fail)
      have hb2 := Aside0.mk (pw_below_drewN hb.out nq)
      have hx2 : Aside0 ((wr.drewN nq).heap[w.heap.size]? = some (.cells #[.int .i64 f, .slice A n c] 29 (0, 0))) := ⟨hx.out⟩
      go_wp2_with fail
      go_roundw
      case rel => exact ⟨k + 1, by omega, by go_num, hb2, hx2⟩
      case measure => simp [intOf]; omega
    · obtain rfl : k = F.length := by omega
      obtain ⟨t, ht⟩ : ∃ t, F.length = t + 1 := ⟨F.length - 1, by omega⟩
      obtain ⟨g, o, c2, A1, c1, hv, hl, x0, x1, hl1, hR⟩ := hh.row.elem t (by omega)
      injection hv with hv1 hv2 hv3
      subst hv1; subst hv3
      have hyt : F[t].f0 = y := by
        have h5 := hy (by omega)
        have h6 : F.length - 1 = t := by omega
        simp only [h6] at h5
        exact h5
      rw [hyt] at x0
      clear hy hyt x1 hl1 hR
      have z0 : (0 : Int) ≤ (t : Int) := by omega
      have z1 : (t : Int) < (F.length : Int) := by omega
      have z2 : wrap64 ((F.length : Int) - 1) = (t : Int) := by unfold wrap64; omega
      have z3 : IntKind.i64.wrap ((F.length : Int) - 1) = (t : Int) := by rw [i64_w]; exact z2
      have z4 : (0 : Int) < (F.length : Int) := by omega
      replace hh := Aside0.mk hh
      replace ht := Aside0.mk ht
      have z5 : (y == 9223372036854775807) = false := beq_eq_false_iff_ne.2 (by omega)
      have z5b : ¬ (y = 9223372036854775807) := by omega
      have z6 : wrap64 (y + 1) = y + 1 := by unfold wrap64; omega
      have z9 : IntKind.i64.wrap (y + 1) = y + 1 := by rw [i64_w]; exact z6
      have z7 : (f != y + 1) = false := by rw [hgood.out]; simp
      go_wp2_with fail
      go_quiet (fail)
      have hb2 := Aside0.mk (pw_below_drewN hb.out nq)
      have hx2 : Aside0 ((wr.drewN nq).heap[w.heap.size]? = some (.cells #[.int .i64 f, .slice A n c] 29 (0, 0))) := ⟨hx.out⟩
      have hh2 := Aside0.mk (hh.out.below (pw_below_drewN (Below.refl _ _) nq))
      generalize wr.drewN nq = W1 at *
      clear q0 q1 p0 p1 x0 hb hx hh
      go_wp2_with fail
      have kS : Aside0 (∀ w', Below W1.heap.size W1 w' → w'.cell? ⟨B, 1, none⟩ = some (.slice (some ⟨g, o * 2, none⟩) F.length cv) ∧ w'.cell? ⟨w.heap.size, 0, none⟩ = some (.int .i64 f) ∧ w'.cell? ⟨w.heap.size, 1, none⟩ = some (.slice A n c)) := ⟨fun w' hb => by
        have hy := (hb.block w.heap.size (blk_lt' hx2.out)).trans hx2.out
        exact ⟨(hh2.out.below hb).cells.2, blk_cell' hy 0, blk_cell' hy 1⟩⟩
      have HB2 := Aside0.mk (below_then HB.out hbase hb2.out)
      have hbase2 := Aside0.mk (Nat.le_trans hbase hb2.out.size)
      refine start_ (n := 12) (S := fun w' => w'.cell? ⟨B, 1, none⟩ = some (.slice (some ⟨g, o * 2, none⟩) F.length cv) ∧ w'.cell? ⟨w.heap.size, 0, none⟩ = some (.int .i64 f) ∧ w'.cell? ⟨w.heap.size, 1, none⟩ = some (.slice A n c)) (ds := [8, 11]) #[false, false, false, false, false, false, false, false, false, false, false, false] (by kernel_rfl) rfl rfl ⟨(kS.out _ (below_drew (Below.refl _ _))).1, (kS.out _ (below_drew (Below.refl _ _))).2.1, (kS.out _ (below_drew (Below.refl _ _))).2.2⟩ (fun hHeld => ?_)
      refine pure_ (i := 0) (N := some 65) (v := ?_) (a' := ?_) #[true, false, false, false, false, false, false, false, false, false, false, false] rfl rfl (by kernel_rfl) (fun _ _ _ h => h) (Or.inl ⟨by rfl, ?_⟩) ?_ ?_
      rotate_left
      · intro w'
        go_simp
        with_reducible rfl
      rotate_left
      · simp only [Act.put, List.setIfInBounds_toArray, List.set_cons_zero, List.set_cons_succ, i64_w, i32_w]
        rfl
      refine pure_ (i := 1) (N := some 66) (v := ?_) (a' := ?_) #[true, true, false, false, false, false, false, false, false, false, false, false] rfl rfl (by kernel_rfl) (fun _ _ _ h => h) (Or.inl ⟨by rfl, ?_⟩) ?_ ?_
      rotate_left
      · intro w'
        go_simp
        with_reducible rfl
      rotate_left
      · simp only [Act.put, List.setIfInBounds_toArray, List.set_cons_zero, List.set_cons_succ, i64_w, i32_w]
        rfl
      refine pure_ (i := 2) (N := some 67) (v := ?_) (a' := ?_) #[true, true, true, false, false, false, false, false, false, false, false, false] rfl rfl (by kernel_rfl) (fun _ _ _ h => h) (Or.inl ⟨by rfl, ?_⟩) ?_ ?_
      rotate_left
      · intro w'
        go_simp
        with_reducible rfl
      rotate_left
      · simp only [Act.put, List.setIfInBounds_toArray, List.set_cons_zero, List.set_cons_succ, i64_w, i32_w]
        rfl
      refine pure_ (i := 3) (N := some 68) (v := ?_) (a' := ?_) #[true, true, true, true, false, false, false, false, false, false, false, false] rfl rfl (by kernel_rfl) (fun _ _ _ h => h) (Or.inl ⟨by rfl, ?_⟩) ?_ ?_
      rotate_left
      · intro w'
        go_simp
        with_reducible rfl
      rotate_left
      · simp only [Act.put, List.setIfInBounds_toArray, List.set_cons_zero, List.set_cons_succ, i64_w, i32_w]
        rfl
      refine take_ (i := 4) (N := some 69) (v := ?_) (a' := ?_) #[true, true, true, true, true, false, false, false, false, false, false, false] rfl rfl (by kernel_rfl) (fun _ _ _ h => h) (Or.inl ⟨by rfl, ?_⟩) hHeld ?_ ?_
      rotate_left
      · rintro w' ⟨s0, s1, s2⟩
        go_simp
        with_reducible rfl
      rotate_left
      · simp only [Act.put, List.setIfInBounds_toArray, List.set_cons_zero, List.set_cons_succ, i64_w, i32_w]
        rfl
      refine take_ (i := 5) (N := some 70) (v := ?_) (a' := ?_) #[true, true, true, true, true, true, false, false, false, false, false, false] rfl rfl (by kernel_rfl) (fun _ _ _ h => h) (Or.inl ⟨by rfl, ?_⟩) hHeld ?_ ?_
      rotate_left
      · rintro w' ⟨s0, s1, s2⟩
        go_simp
        with_reducible rfl
      rotate_left
      · simp only [Act.put, List.setIfInBounds_toArray, List.set_cons_zero, List.set_cons_succ, i64_w, i32_w]
        rfl
      refine one_ (i := 6) (N := some 71) #[true, true, true, true, true, true, true, false, false, false, false, false] rfl rfl (by kernel_rfl) (by decide) (fun K hK => ?_)
      have HB_ := below_drew (Below.refl W1.heap.size W1)
      refine goes_ Try.func34 (by kernel_rfl) rfl #[.agg #[.int .i64 f, .slice A n c]] (by rfl) rfl rfl (by simp only [List.map_toArray, List.map_cons, List.map_nil]; rfl) ?_
      with_reducible refine (copyOf_c f A n c es _ (HC.out _ (below_then HB2.out hbase2.out HB_)) hn).mono ?_
      rintro e w3 ⟨⟨A', c', rfl, hR⟩, hbb⟩
      refine ⟨_, rfl, ?_⟩
      have hR3 : Aside0 (Kd.R k36 36 w3 base (fun q => W1.heap.size ≤ q) (.slice A' es.length c') es) := ⟨Kd.R_lower (Kd.R_mono (Kd.R_bound hR) (fun q hq => Nat.le_trans HB_.size hq.2.1)) (Nat.le_trans hbase2.out HB_.size)⟩
      have hB3 := Aside0.mk (below_then HB_ HB_.size hbb)
      refine hK.out _ _ ⟨(kS.out _ hB3.out).1, (kS.out _ hB3.out).2.1, (kS.out _ hB3.out).2.2⟩ (fun hHeld => ?_)
      clear hK K
      refine norm_ (a' := ?_) ?_ ?_
      rotate_left
      · show Act.put _ (some 71) _ = _
        simp only [Act.put, List.setIfInBounds_toArray, List.set_cons_zero, List.set_cons_succ, i64_w, i32_w]
        rfl
      refine one_ (i := 7) (N := some 72) #[true, true, true, true, true, true, true, true, false, false, false, false] rfl rfl (by kernel_rfl) (by decide) (fun K hK => ?_)
      refine value_ (w1 := ?_) (v := ?_) (by rfl) rfl ?_ ?_
      rotate_left 2
      · go_simp
        constructor
        · rfl
        · rfl
      refine hK.out _ _ ⟨(kS.out _ (hB3.out.alloc hB3.out.size _)).1, (kS.out _ (hB3.out.alloc hB3.out.size _)).2.1, (kS.out _ (hB3.out.alloc hB3.out.size _)).2.2⟩ (fun hHeld => ?_)
      clear hK K
      refine norm_ (a' := ?_) ?_ ?_
      rotate_left
      · show Act.put _ (some 72) _ = _
        simp only [Act.put, List.setIfInBounds_toArray, List.set_cons_zero, List.set_cons_succ, i64_w, i32_w]
        rfl
      refine last_ (i := 8) (N := some 73) #[true, true, true, true, true, true, true, true, true, false, false, false] rfl rfl (by kernel_rfl) (by decide) (fun K hK => ?_)
      have hh3 := Aside0.mk (hh2.out.below hB3.out)
      obtain ⟨v4, w4, hrun, hRo, hgr, hat⟩ := hh3.out.row.append (Nat.le_trans hbase2.out hB3.out.size) hF ⟨f, es⟩ [.int .i64 f, .slice A' es.length c'] (fun q => W1.heap.size ≤ q) (k29_mkM w3 base _ ⟨f, es⟩ hR3.out) (fun q hq e => by have := (hh2.out.row.bound q e.symm).2.1; omega) 48 (by omega)
      obtain ⟨A4, c4, e4, hl4⟩ := hRo.slice
      rw [List.length_append, List.length_singleton] at e4
      subst e4
      replace hrun := Aside0.mk hrun
      replace hRo := Aside0.mk hRo
      replace hgr := Aside0.mk hgr
      replace hat := Aside0.mk hat
      have hx4 := Aside0.mk ((hgr.out.block B (blk_lt' hh3.out.box) (fun e => by
          obtain ⟨_, _, cells, hc⟩ := hh3.out.row.bound B e.symm
          have h2 := hh3.out.box
          rw [hc] at h2
          injection h2 with h2
          injection h2 with _ h2
          cases h2)).trans hh3.out.box)
      refine value_ (w1 := w4) (v := .slice A4 (F.length + 1) c4) (by rfl) rfl (exec_append (ty := 48) (v := (.slice (some ⟨g, o * 2, none⟩) F.length cv)) (u := .slice (some ⟨w3.heap.size, 0, none⟩) 1 1) rfl rfl (by rfl) (by rfl) hrun.out) ?_
      refine hK.out _ _ ?_
      clear hK K
      refine norm_ (a' := ?_) ?_ ?_
      rotate_left
      · show Act.put _ (some 73) _ = _
        simp only [Act.put, List.setIfInBounds_toArray, List.set_cons_zero, List.set_cons_succ, i64_w, i32_w]
        rfl
      refine pure_ (i := 9) (N := some 74) (v := ?_) (a' := ?_) #[true, true, true, true, true, true, true, true, true, true, false, false] rfl rfl (by kernel_rfl) (fun _ _ _ h => h) (Or.inl ⟨by rfl, ?_⟩) ?_ ?_
      rotate_left
      · intro w'
        go_simp
        with_reducible rfl
      rotate_left
      · simp only [Act.put, List.setIfInBounds_toArray, List.set_cons_zero, List.set_cons_succ, i64_w, i32_w]
        rfl
      refine pure_ (i := 10) (N := some 75) (v := ?_) (a' := ?_) #[true, true, true, true, true, true, true, true, true, true, true, false] rfl rfl (by kernel_rfl) (fun _ _ _ h => h) (Or.inl ⟨by rfl, ?_⟩) ?_ ?_
      rotate_left
      · intro w'
        go_simp
        with_reducible rfl
      rotate_left
      · simp only [Act.put, List.setIfInBounds_toArray, List.set_cons_zero, List.set_cons_succ, i64_w, i32_w]
        rfl
      refine last_ (i := 11) (N := none) #[true, true, true, true, true, true, true, true, true, true, true, true] rfl rfl (by kernel_rfl) (by decide) (fun K hK => ?_)
      have q4 := blk_cell' hx4.out 1
      have f4 : w4.frozen? ⟨B, 1, none⟩ = false := by simp [World.frozen?, hx4.out]
      simp at q4
      refine skip_ (w1 := ?_) (by rfl) rfl ?_ ?_
      rotate_left
      · go_simp
        rfl
      refine hK.out _ _ ?_
      clear hK K
      refine done_ (by kernel_rfl) ?_
      have hR5 : Aside0 (Rf m (w4.setCell ⟨B, 1, none⟩ (.slice A4 (F.length + 1) c4)) B base (.slice A4 (F.length + 1) c4) size (F ++ [⟨f, es⟩])) := ⟨⟨by have h5 := blk_set hx4.out 1 (.slice A4 (F.length + 1) c4); simpa using h5, hRo.out.keep (fun k _ hk hq => Below.heap_setCell w4 ⟨B, 1, none⟩ _ k (fun e => by
        have e2 : k = B := e
        have hx5 := hx4.out
        rw [e2] at hq
        rcases hq with hq | ⟨cells, hc⟩
        · obtain ⟨_, _, cells, hc⟩ := hRo.out.bound B hq
          rw [hx5] at hc
          injection hc with hc
          injection hc with _ hc
          cases hc
        · rw [hx5] at hc
          injection hc with hc
          injection hc with _ hc
          cases hc)), hh2.out.hb⟩⟩
      have hB5 := Aside0.mk (((below_then HB2.out hbase2.out hB3.out).grown hgr.out (Nat.le_trans hbase2.out hB3.out.size) (fun q hq => (hh3.out.row.bound q hq).1)).setCell (p := ⟨B, 1, none⟩) hh2.out.hb (.slice A4 (F.length + 1) c4))
      have hF5 : Aside0 (FrR w (w4.setCell ⟨B, 1, none⟩ (.slice A4 (F.length + 1) c4)) B (.slice (some ⟨g, o * 2, none⟩) F.length cv)) := ⟨fun b h1 h2 h3 => by
        rw [Below.heap_setCell w4 ⟨B, 1, none⟩ _ b h2, hgr.out.block b (by have := hb2.out.size; have := hB3.out.size; omega) (fun e => h3 e), hB3.out.block b (by have := hb2.out.size; omega), hb2.out.block b h1]⟩
      have hs5 : Aside0 (w.heap.size ≤ (w4.setCell ⟨B, 1, none⟩ (.slice A4 (F.length + 1) c4)).heap.size) := ⟨by
        have h1 := hb2.out.size
        have h2 := hB3.out.size
        have h3 := hgr.out.size
        simp [World.setCell]
        omega⟩
      have ho5 : Aside0 (Value.ownBlock (.slice A4 (F.length + 1) c4) = Value.ownBlock (.slice (some ⟨g, o * 2, none⟩) F.length cv) ∨ ∃ b, Value.ownBlock (.slice A4 (F.length + 1) c4) = some b ∧ w.heap.size ≤ b) := ⟨by
        rcases hat.out with h | ⟨b, h1, h2⟩
        · exact .inl h
        · exact .inr ⟨b, h1, by have := hb2.out.size; have := hB3.out.size; omega⟩⟩
      generalize w4.setCell ⟨B, 1, none⟩ (.slice A4 (F.length + 1) c4) = w5 at *
      clear hHeld kS hrun hRo hgr hx4 q4 f4
      obtain ⟨p0, p1⟩ := hR5.out.cells
      have z20 : ¬ ((size : Int) < (F.length : Int) + 1) := by omega
      have z21 : decide ((size : Int) < (F.length : Int) + 1) = false := decide_eq_false z20
      go_wp2_with fail
      go_quiet (fail)
      go_wp2_with fail
      go_ret
      exact ⟨rfl, ⟨_, hR5.out.below (pw_below_drewN (Below.refl _ _) nq), ho5.out⟩, pw_below_drewN hB5.out nq, hF5.out, hs5.out⟩
end Go.Proofs.Ytompkbganljbkaa.Rin
namespace Go.Proofs.Ytompkbganljbkaa.Rin
open Go Go.RowKit Go.Proofs.Ytompkbganljbkaa.PRingPlays Go.Proofs.YtompkbganljbkaaW.PrintWords Go.Proofs.YtompkbganljbkaaW.PrintLast Go.Proofs.YtompkbganljbkaaW.PrintMore
set_option linter.unusedVariables false
set_option linter.unusedSimpArgs false
set_option maxRecDepth 100000 in
set_option maxHeartbeats 8000000 in
theorem refPutT_c (f : Int) (A : Option Addr) (n c : Nat) (es : List S36) (B base size m : Nat) (v : Value) (F : List S29) (w0 w : World) (h : Rf m w B base v size F) (HB : Below base w0 w) (hbase : base ≤ w.heap.size) (hF : F.length ≤ 1000) (hm : m ≤ 500) (hsz : 1 ≤ size) (h0 : 0 < F.length) (hno : ∀ (k : Nat) (hk : k < F.length), F[k].f0 ≠ f) (y : Int) (hy : ∀ (hk : F.length - 1 < F.length), F[F.length - 1].f0 = y) (hw : -9223372036854775808 ≤ y ∧ y < 9223372036854775807) (hgood : f = y + 1) (hsize : size < F.length + 1) (HC : ∀ W, Below base w0 W → Kd.C k36 W A n es) (hn : n ≤ 100000) :
    Calls Try.prog 18 #[.pointer (some ⟨B, 0, none⟩), .agg #[.int .i64 f, .slice A n c]] w fun e w' => e = .returned (.bool true) ∧ (∃ v', Rf (m + 1) w' B base v' size ((F ++ [(⟨f, es⟩ : S29)]).tail) ∧ (v'.ownBlock = v.ownBlock ∨ ∃ b, v'.ownBlock = some b ∧ w.heap.size ≤ b)) ∧ Below base w0 w' ∧ FrR w w' B v ∧ w.heap.size ≤ w'.heap.size := by
  have hB1 := Aside0.mk ((Below.refl w.heap.size w).alloc (Nat.le_refl _) (.cells #[.int .i64 f, .slice A n c] 29))
  have e0 := Aside0.mk (heap_alloc_new w (.cells #[.int .i64 f, .slice A n c] 29))
  have h00 := (h.below hB1.out)
  obtain ⟨q0, q1⟩ := h00.cells
  obtain ⟨Av, cv, rfl, hlv⟩ := h00.row.slice
  replace h00 := Aside0.mk h00
  replace h := Aside0.mk h
  replace HB := Aside0.mk HB
  replace HC := Aside0.mk HC
  replace hno := Aside0.mk hno
  replace hgood := Aside0.mk hgood
  go_enter Try.func18, Try.ntmps18
  go_wp2_with fail
  go_loopw [6] (fun i wr => ∃ k : Nat, k ≤ F.length ∧ i = .int .i64 k ∧ Aside0 (Below w.heap.size w wr) ∧ Aside0 (wr.heap[w.heap.size]? = some (.cells #[.int .i64 f, .slice A n c] 29 (0, 0)))) (fun i _ => F.length - (intOf i).toNat)
  case atStart => exact ⟨0, Nat.zero_le _, rfl, hB1, e0⟩
  case round =>
    clear q0 q1 h00 hB1 e0
    obtain ⟨k, hk, rfl, hb, hx⟩ := hrel
    have hh := h.out.below hb.out
    obtain ⟨q0, q1⟩ := hh.cells
    have p0 := blk_cell' hx.out 0
    have p1 := blk_cell' hx.out 1
    simp at p0 p1
    by_cases hkn : k < F.length
    · clear hgood hy
      obtain ⟨g, o, c2, A1, c1, hv, hl, x0, x1, hl1, hR⟩ := hh.row.elem k hkn
      injection hv with hv1 hv2 hv3
      subst hv1; subst hv3
      have z0 : (0 : Int) ≤ (k : Int) := by omega
      have z1 : (k : Int) < (F.length : Int) := by omega
      clear x1 hl1 hR
      replace hh := Aside0.mk hh
      have hne := hno.out k hkn
      have z2 : (F[k].f0 == f) = false := beq_eq_false_iff_ne.2 hne
      have z3 : ¬ (F[k].f0 = f) := hne
      generalize F[k].f0 = y at *
      clear hne
      go_wp2_with fail
      go_quiet (fail)
      have hb2 := Aside0.mk (pw_below_drewN hb.out nq)
      have hx2 : Aside0 ((wr.drewN nq).heap[w.heap.size]? = some (.cells #[.int .i64 f, .slice A n c] 29 (0, 0))) := ⟨hx.out⟩
      go_wp2_with fail
      go_roundw
      case rel => exact ⟨k + 1, by omega, by go_num, hb2, hx2⟩
      case measure => simp [intOf]; omega
    · obtain rfl : k = F.length := by omega
      obtain ⟨t, ht⟩ : ∃ t, F.length = t + 1 := ⟨F.length - 1, by omega⟩
      obtain ⟨g, o, c2, A1, c1, hv, hl, x0, x1, hl1, hR⟩ := hh.row.elem t (by omega)
      injection hv with hv1 hv2 hv3
      subst hv1; subst hv3
      have hyt : F[t].f0 = y := by
        have h5 := hy (by omega)
        have h6 : F.length - 1 = t := by omega
        simp only [h6] at h5
        exact h5
      rw [hyt] at x0
      clear hy hyt x1 hl1 hR
      have z0 : (0 : Int) ≤ (t : Int) := by omega
      have z1 : (t : Int) < (F.length : Int) := by omega
      have z2 : wrap64 ((F.length : Int) - 1) = (t : Int) := by unfold wrap64; omega
      have z3 : IntKind.i64.wrap ((F.length : Int) - 1) = (t : Int) := by rw [i64_w]; exact z2
      have z4 : (0 : Int) < (F.length : Int) := by omega
      replace hh := Aside0.mk hh
      replace ht := Aside0.mk ht
      have z5 : (y == 9223372036854775807) = false := beq_eq_false_iff_ne.2 (by omega)
      have z5b : ¬ (y = 9223372036854775807) := by omega
      have z6 : wrap64 (y + 1) = y + 1 := by unfold wrap64; omega
      have z9 : IntKind.i64.wrap (y + 1) = y + 1 := by rw [i64_w]; exact z6
      have z7 : (f != y + 1) = false := by rw [hgood.out]; simp
      go_wp2_with fail
      go_quiet (fail)
      have hb2 := Aside0.mk (pw_below_drewN hb.out nq)
      have hx2 : Aside0 ((wr.drewN nq).heap[w.heap.size]? = some (.cells #[.int .i64 f, .slice A n c] 29 (0, 0))) := ⟨hx.out⟩
      have hh2 := Aside0.mk (hh.out.below (pw_below_drewN (Below.refl _ _) nq))
      generalize wr.drewN nq = W1 at *
      clear q0 q1 p0 p1 x0 hb hx hh
      go_wp2_with fail
      have kS : Aside0 (∀ w', Below W1.heap.size W1 w' → w'.cell? ⟨B, 1, none⟩ = some (.slice (some ⟨g, o * 2, none⟩) F.length cv) ∧ w'.cell? ⟨w.heap.size, 0, none⟩ = some (.int .i64 f) ∧ w'.cell? ⟨w.heap.size, 1, none⟩ = some (.slice A n c)) := ⟨fun w' hb => by
        have hy := (hb.block w.heap.size (blk_lt' hx2.out)).trans hx2.out
        exact ⟨(hh2.out.below hb).cells.2, blk_cell' hy 0, blk_cell' hy 1⟩⟩
      have HB2 := Aside0.mk (below_then HB.out hbase hb2.out)
      have hbase2 := Aside0.mk (Nat.le_trans hbase hb2.out.size)
      refine start_ (n := 12) (S := fun w' => w'.cell? ⟨B, 1, none⟩ = some (.slice (some ⟨g, o * 2, none⟩) F.length cv) ∧ w'.cell? ⟨w.heap.size, 0, none⟩ = some (.int .i64 f) ∧ w'.cell? ⟨w.heap.size, 1, none⟩ = some (.slice A n c)) (ds := [8, 11]) #[false, false, false, false, false, false, false, false, false, false, false, false] (by kernel_rfl) rfl rfl ⟨(kS.out _ (below_drew (Below.refl _ _))).1, (kS.out _ (below_drew (Below.refl _ _))).2.1, (kS.out _ (below_drew (Below.refl _ _))).2.2⟩ (fun hHeld => ?_)
      refine pure_ (i := 0) (N := some 65) (v := ?_) (a' := ?_) #[true, false, false, false, false, false, false, false, false, false, false, false] rfl rfl (by kernel_rfl) (fun _ _ _ h => h) (Or.inl ⟨by rfl, ?_⟩) ?_ ?_
      rotate_left
      · intro w'
        go_simp
        with_reducible rfl
      rotate_left
      · simp only [Act.put, List.setIfInBounds_toArray, List.set_cons_zero, List.set_cons_succ, i64_w, i32_w]
        rfl
      refine pure_ (i := 1) (N := some 66) (v := ?_) (a' := ?_) #[true, true, false, false, false, false, false, false, false, false, false, false] rfl rfl (by kernel_rfl) (fun _ _ _ h => h) (Or.inl ⟨by rfl, ?_⟩) ?_ ?_
      rotate_left
      · intro w'
        go_simp
        with_reducible rfl
      rotate_left
      · simp only [Act.put, List.setIfInBounds_toArray, List.set_cons_zero, List.set_cons_succ, i64_w, i32_w]
        rfl
      refine pure_ (i := 2) (N := some 67) (v := ?_) (a' := ?_) #[true, true, true, false, false, false, false, false, false, false, false, false] rfl rfl (by kernel_rfl) (fun _ _ _ h => h) (Or.inl ⟨by rfl, ?_⟩) ?_ ?_
      rotate_left
      · intro w'
        go_simp
        with_reducible rfl
      rotate_left
      · simp only [Act.put, List.setIfInBounds_toArray, List.set_cons_zero, List.set_cons_succ, i64_w, i32_w]
        rfl
      refine pure_ (i := 3) (N := some 68) (v := ?_) (a' := ?_) #[true, true, true, true, false, false, false, false, false, false, false, false] rfl rfl (by kernel_rfl) (fun _ _ _ h => h) (Or.inl ⟨by rfl, ?_⟩) ?_ ?_
      rotate_left
      · intro w'
        go_simp
        with_reducible rfl
      rotate_left
      · simp only [Act.put, List.setIfInBounds_toArray, List.set_cons_zero, List.set_cons_succ, i64_w, i32_w]
        rfl
      refine take_ (i := 4) (N := some 69) (v := ?_) (a' := ?_) #[true, true, true, true, true, false, false, false, false, false, false, false] rfl rfl (by kernel_rfl) (fun _ _ _ h => h) (Or.inl ⟨by rfl, ?_⟩) hHeld ?_ ?_
      rotate_left
      · rintro w' ⟨s0, s1, s2⟩
        go_simp
        with_reducible rfl
      rotate_left
      · simp only [Act.put, List.setIfInBounds_toArray, List.set_cons_zero, List.set_cons_succ, i64_w, i32_w]
        rfl
      refine take_ (i := 5) (N := some 70) (v := ?_) (a' := ?_) #[true, true, true, true, true, true, false, false, false, false, false, false] rfl rfl (by kernel_rfl) (fun _ _ _ h => h) (Or.inl ⟨by rfl, ?_⟩) hHeld ?_ ?_
      rotate_left
      · rintro w' ⟨s0, s1, s2⟩
        go_simp
        with_reducible rfl
      rotate_left
      · simp only [Act.put, List.setIfInBounds_toArray, List.set_cons_zero, List.set_cons_succ, i64_w, i32_w]
        rfl
      refine one_ (i := 6) (N := some 71) #[true, true, true, true, true, true, true, false, false, false, false, false] rfl rfl (by kernel_rfl) (by decide) (fun K hK => ?_)
      have HB_ := below_drew (Below.refl W1.heap.size W1)
      refine goes_ Try.func34 (by kernel_rfl) rfl #[.agg #[.int .i64 f, .slice A n c]] (by rfl) rfl rfl (by simp only [List.map_toArray, List.map_cons, List.map_nil]; rfl) ?_
      with_reducible refine (copyOf_c f A n c es _ (HC.out _ (below_then HB2.out hbase2.out HB_)) hn).mono ?_
      rintro e w3 ⟨⟨A', c', rfl, hR⟩, hbb⟩
      refine ⟨_, rfl, ?_⟩
      have hR3 : Aside0 (Kd.R k36 36 w3 base (fun q => W1.heap.size ≤ q) (.slice A' es.length c') es) := ⟨Kd.R_lower (Kd.R_mono (Kd.R_bound hR) (fun q hq => Nat.le_trans HB_.size hq.2.1)) (Nat.le_trans hbase2.out HB_.size)⟩
      have hB3 := Aside0.mk (below_then HB_ HB_.size hbb)
      refine hK.out _ _ ⟨(kS.out _ hB3.out).1, (kS.out _ hB3.out).2.1, (kS.out _ hB3.out).2.2⟩ (fun hHeld => ?_)
      clear hK K
      refine norm_ (a' := ?_) ?_ ?_
      rotate_left
      · show Act.put _ (some 71) _ = _
        simp only [Act.put, List.setIfInBounds_toArray, List.set_cons_zero, List.set_cons_succ, i64_w, i32_w]
        rfl
      refine one_ (i := 7) (N := some 72) #[true, true, true, true, true, true, true, true, false, false, false, false] rfl rfl (by kernel_rfl) (by decide) (fun K hK => ?_)
      refine value_ (w1 := ?_) (v := ?_) (by rfl) rfl ?_ ?_
      rotate_left 2
      · go_simp
        constructor
        · rfl
        · rfl
      refine hK.out _ _ ⟨(kS.out _ (hB3.out.alloc hB3.out.size _)).1, (kS.out _ (hB3.out.alloc hB3.out.size _)).2.1, (kS.out _ (hB3.out.alloc hB3.out.size _)).2.2⟩ (fun hHeld => ?_)
      clear hK K
      refine norm_ (a' := ?_) ?_ ?_
      rotate_left
      · show Act.put _ (some 72) _ = _
        simp only [Act.put, List.setIfInBounds_toArray, List.set_cons_zero, List.set_cons_succ, i64_w, i32_w]
        rfl
      refine last_ (i := 8) (N := some 73) #[true, true, true, true, true, true, true, true, true, false, false, false] rfl rfl (by kernel_rfl) (by decide) (fun K hK => ?_)
      have hh3 := Aside0.mk (hh2.out.below hB3.out)
      obtain ⟨v4, w4, hrun, hRo, hgr, hat⟩ := hh3.out.row.append (Nat.le_trans hbase2.out hB3.out.size) hF ⟨f, es⟩ [.int .i64 f, .slice A' es.length c'] (fun q => W1.heap.size ≤ q) (k29_mkM w3 base _ ⟨f, es⟩ hR3.out) (fun q hq e => by have := (hh2.out.row.bound q e.symm).2.1; omega) 48 (by omega)
      obtain ⟨A4, c4, e4, hl4⟩ := hRo.slice
      rw [List.length_append, List.length_singleton] at e4
      subst e4
      replace hrun := Aside0.mk hrun
      replace hRo := Aside0.mk hRo
      replace hgr := Aside0.mk hgr
      replace hat := Aside0.mk hat
      have hx4 := Aside0.mk ((hgr.out.block B (blk_lt' hh3.out.box) (fun e => by
          obtain ⟨_, _, cells, hc⟩ := hh3.out.row.bound B e.symm
          have h2 := hh3.out.box
          rw [hc] at h2
          injection h2 with h2
          injection h2 with _ h2
          cases h2)).trans hh3.out.box)
      refine value_ (w1 := w4) (v := .slice A4 (F.length + 1) c4) (by rfl) rfl (exec_append (ty := 48) (v := (.slice (some ⟨g, o * 2, none⟩) F.length cv)) (u := .slice (some ⟨w3.heap.size, 0, none⟩) 1 1) rfl rfl (by rfl) (by rfl) hrun.out) ?_
      refine hK.out _ _ ?_
      clear hK K
      refine norm_ (a' := ?_) ?_ ?_
      rotate_left
      · show Act.put _ (some 73) _ = _
        simp only [Act.put, List.setIfInBounds_toArray, List.set_cons_zero, List.set_cons_succ, i64_w, i32_w]
        rfl
      refine pure_ (i := 9) (N := some 74) (v := ?_) (a' := ?_) #[true, true, true, true, true, true, true, true, true, true, false, false] rfl rfl (by kernel_rfl) (fun _ _ _ h => h) (Or.inl ⟨by rfl, ?_⟩) ?_ ?_
      rotate_left
      · intro w'
        go_simp
        with_reducible rfl
      rotate_left
      · simp only [Act.put, List.setIfInBounds_toArray, List.set_cons_zero, List.set_cons_succ, i64_w, i32_w]
        rfl
      refine pure_ (i := 10) (N := some 75) (v := ?_) (a' := ?_) #[true, true, true, true, true, true, true, true, true, true, true, false] rfl rfl (by kernel_rfl) (fun _ _ _ h => h) (Or.inl ⟨by rfl, ?_⟩) ?_ ?_
      rotate_left
      · intro w'
        go_simp
        with_reducible rfl
      rotate_left
      · simp only [Act.put, List.setIfInBounds_toArray, List.set_cons_zero, List.set_cons_succ, i64_w, i32_w]
        rfl
      refine last_ (i := 11) (N := none) #[true, true, true, true, true, true, true, true, true, true, true, true] rfl rfl (by kernel_rfl) (by decide) (fun K hK => ?_)
      have q4 := blk_cell' hx4.out 1
      have f4 : w4.frozen? ⟨B, 1, none⟩ = false := by simp [World.frozen?, hx4.out]
      simp at q4
      refine skip_ (w1 := ?_) (by rfl) rfl ?_ ?_
      rotate_left
      · go_simp
        rfl
      refine hK.out _ _ ?_
      clear hK K
      refine done_ (by kernel_rfl) ?_
      have hR5 : Aside0 (Rf m (w4.setCell ⟨B, 1, none⟩ (.slice A4 (F.length + 1) c4)) B base (.slice A4 (F.length + 1) c4) size (F ++ [⟨f, es⟩])) := ⟨⟨by have h5 := blk_set hx4.out 1 (.slice A4 (F.length + 1) c4); simpa using h5, hRo.out.keep (fun k _ hk hq => Below.heap_setCell w4 ⟨B, 1, none⟩ _ k (fun e => by
        have e2 : k = B := e
        have hx5 := hx4.out
        rw [e2] at hq
        rcases hq with hq | ⟨cells, hc⟩
        · obtain ⟨_, _, cells, hc⟩ := hRo.out.bound B hq
          rw [hx5] at hc
          injection hc with hc
          injection hc with _ hc
          cases hc
        · rw [hx5] at hc
          injection hc with hc
          injection hc with _ hc
          cases hc)), hh2.out.hb⟩⟩
      have hB5 := Aside0.mk (((below_then HB2.out hbase2.out hB3.out).grown hgr.out (Nat.le_trans hbase2.out hB3.out.size) (fun q hq => (hh3.out.row.bound q hq).1)).setCell (p := ⟨B, 1, none⟩) hh2.out.hb (.slice A4 (F.length + 1) c4))
      have hF5 : Aside0 (FrR w (w4.setCell ⟨B, 1, none⟩ (.slice A4 (F.length + 1) c4)) B (.slice (some ⟨g, o * 2, none⟩) F.length cv)) := ⟨fun b h1 h2 h3 => by
        rw [Below.heap_setCell w4 ⟨B, 1, none⟩ _ b h2, hgr.out.block b (by have := hb2.out.size; have := hB3.out.size; omega) (fun e => h3 e), hB3.out.block b (by have := hb2.out.size; omega), hb2.out.block b h1]⟩
      have hs5 : Aside0 (w.heap.size ≤ (w4.setCell ⟨B, 1, none⟩ (.slice A4 (F.length + 1) c4)).heap.size) := ⟨by
        have h1 := hb2.out.size
        have h2 := hB3.out.size
        have h3 := hgr.out.size
        simp [World.setCell]
        omega⟩
      have ho5 : Aside0 (Value.ownBlock (.slice A4 (F.length + 1) c4) = Value.ownBlock (.slice (some ⟨g, o * 2, none⟩) F.length cv) ∨ ∃ b, Value.ownBlock (.slice A4 (F.length + 1) c4) = some b ∧ w.heap.size ≤ b) := ⟨by
        rcases hat.out with h | ⟨b, h1, h2⟩
        · exact .inl h
        · exact .inr ⟨b, h1, by have := hb2.out.size; have := hB3.out.size; omega⟩⟩
      generalize w4.setCell ⟨B, 1, none⟩ (.slice A4 (F.length + 1) c4) = w5 at *
      clear hHeld kS hrun hRo hgr hx4 q4 f4
      obtain ⟨p0, p1⟩ := hR5.out.cells
      have z20 : (size : Int) < (F.length : Int) + 1 := by omega
      have z21 : decide ((size : Int) < (F.length : Int) + 1) = true := decide_eq_true z20
      go_wp2_with fail
      go_quiet (fail)
      have hR6 := Aside0.mk (hR5.out.below (pw_below_drewN (Below.refl _ _) nq))
      have hB6 := Aside0.mk (pw_below_drewN hB5.out nq)
      have hF6 : Aside0 (FrR w (w5.drewN nq) B (.slice (some ⟨g, o * 2, none⟩) F.length cv)) := ⟨hF5.out⟩
      have hs6 : Aside0 (w.heap.size ≤ (w5.drewN nq).heap.size) := ⟨hs5.out⟩
      clear p0 p1 hR5 hB5 hF5 hs5
      generalize w5.drewN nq = w6 at *
      obtain ⟨p0, p1⟩ := hR6.out.cells
      obtain ⟨g4, o4, c5, hv4, hlc, hT⟩ := hR6.out.row.tail (by rw [List.length_append, List.length_singleton]; omega)
      rw [List.length_append, List.length_singleton] at hv4 hlc hT
      rw [List.drop_one] at hT
      injection hv4 with hv4 hv5 hv6
      subst hv4
      subst hv6
      have f6 : ∀ j, w6.frozen? ⟨B, j, none⟩ = false := fun j => by simp [World.frozen?, hR6.out.box]
      have z30 : (1 : Int) ≤ (F.length : Int) + 1 := by omega
      have z31 : (F.length : Int) + 1 ≤ (c4 : Int) := by omega
      have z32 : ¬ (c4 = 1) := by omega
      have z33 : (1 : Int) ≤ (c4 : Int) := by omega
      replace hT := Aside0.mk hT
      replace hlc := Aside0.mk hlc
      go_wp2_with fail
      go_ret
      rw [Nat.add_sub_cancel] at hT
      have hbx := blk_set hR6.out.box 1 (.slice (some ⟨g4, o4 * 2 + 2, none⟩) F.length (c4 - 1))
      refine ⟨rfl, ⟨.slice (some ⟨g4, o4 * 2 + 2, none⟩) F.length (c4 - 1), ⟨by simpa using hbx, hT.out.keep (fun k _ hk hq => Below.heap_setCell w6 ⟨B, 1, none⟩ _ k (fun e => by
        have e2 : k = B := e
        have hx5 := hR6.out.box
        rw [e2] at hq
        rcases hq with hq | ⟨cells, hc⟩
        · obtain ⟨_, _, cells, hc⟩ := hT.out.bound B hq
          rw [hx5] at hc
          injection hc with hc
          injection hc with _ hc
          cases hc
        · rw [hx5] at hc
          injection hc with hc
          injection hc with _ hc
          cases hc)), hR6.out.hb⟩, ho5.out⟩, hB6.out.setCell (p := ⟨B, 1, none⟩) hR6.out.hb _, fun b h1 h2 h3 => ?_, ?_⟩
      · rw [Below.heap_setCell w6 ⟨B, 1, none⟩ _ b h2]
        exact hF6.out b h1 h2 h3
      · simp [World.setCell]
        exact hs6.out
end Go.Proofs.Ytompkbganljbkaa.Rin
