/- The ring beside its reference: neither is touched by what is done with the other. What is done with the ring and with its reference: the same answers, and both go on alike. A region put into the ring and into its reference: the same answer, and both go on alike; what is there is told alike. The walk through RingPlays: it returns true and what lay in memory stays; for every size, every list of ops that is read, and every frame that is asked. -/
import Derived.Test.YtompkbganljbkaaRefAll
import Derived.Test.YtompkbganljbkaaForkF
import Derived.Test.YtompkbganljbkaaWideLow
import Derived.Test.YtompkbganljbkaaWideFar
import Derived.Test.YtompkbganljbkaaWidePut
import Derived.Test.YtompkbganljbkaaOps
import Derived.Test.YtompkbganljbkaaWideIn
import Derived.Test.YtompkbganljbkaaAwake
namespace Go.Proofs.Ytompkbganljbkaa.Rin
open Go Go.RowKit Go.Proofs.Ytompkbganljbkaa.PRingPlays Go.Proofs.YtompkbganljbkaaW.PrintWords Go.Proofs.YtompkbganljbkaaW.PrintLast Go.Proofs.YtompkbganljbkaaW.PrintMore
set_option linter.unusedVariables false
set_option linter.unusedSimpArgs false
theorem ne_type {w : World} {a b : Nat} {ca cb : Array Value} {ta tb : TypeId} (ha : w.heap[a]? = some (.cells ca ta (0, 0))) (hb : w.heap[b]? = some (.cells cb tb (0, 0))) (h : ta ≠ tb) : a ≠ b := fun e => by
  subst e
  rw [ha] at hb
  injection hb with hb
  injection hb with _ hb
  exact h hb
structure Bo (m base : Nat) (w : World) (B S Br : Nat) (v rv : Value) (size : Nat) (f0 : Int) (F : List S29) : Prop where
  rg : Rg w B S base v size f0 F
  rf : Rf m w Br base rv size F
  apart : ∀ k, v.ownBlock = some k → some k ≠ rv.ownBlock
  wide : -9223372036854775808 ≤ f0 ∧ f0 + (F.length : Int) ≤ 9223372036854775808
  len : F.length ≤ size
  size32 : 1 ≤ size ∧ size ≤ 32
  ent : ∀ x ∈ F, x.f1.length ≤ 20
section
variable {m base B S Br B' S' size : Nat} {w w' : World} {v v' rv rv' : Value} {f0 f0' : Int} {F F' : List S29}
theorem Bo.below (h : Bo m base w B S Br v rv size f0 F) (hb : Below w.heap.size w w') : Bo m base w' B S Br v rv size f0 F := ⟨h.rg.below hb, h.rf.below hb, h.apart, h.wide, h.len, h.size32, h.ent⟩
theorem rf_keep (h : Rg w B S base v size f0 F) (hr : Rf m w Br base rv size F') (hF : Fr w w' B S v) (hap : ∀ k, v.ownBlock = some k → some k ≠ rv.ownBlock) : Rf m w' Br base rv size F' := by
  have h29 := R_typed29 h.row
  have hst : ∀ k, (rv.ownBlock = some k ∨ ∃ cells, w.heap[k]? = some (.cells cells 36 (0, 0))) → k < w.heap.size → w'.heap[k]? = w.heap[k]? := fun k hk hlt => by
    have hc : (∃ cells, w.heap[k]? = some (.cells cells 29 (0, 0))) ∨ ∃ cells, w.heap[k]? = some (.cells cells 36 (0, 0)) := hk.imp (fun e => (hr.row.bound k e).2.2) id
    refine hF k hlt (fun e => ?_) (fun e => ?_) (fun e => ?_)
    · rcases hc with ⟨_, hc⟩ | ⟨_, hc⟩
      · exact ne_type hc h.box (by decide) e
      · exact ne_type hc h.box (by decide) e
    · rcases hc with ⟨_, hc⟩ | ⟨_, hc⟩
      · exact ne_type hc h.st (by decide) e
      · exact ne_type hc h.st (by decide) e
    · rcases hk with hk | ⟨_, hc⟩
      · exact hap k e.symm hk.symm
      · obtain ⟨_, hc'⟩ := h29 k e.symm
        exact ne_type hc hc' (by decide) rfl
  refine ⟨(hF Br (blk_lt' hr.box) (fun e => ne_type hr.box h.box (by decide) e) (fun e => ne_type hr.box h.st (by decide) e) (fun e => ?_)).trans hr.box, hr.row.keep (fun k _ hlt hk => hst k hk hlt), hr.hb⟩
  obtain ⟨_, hc'⟩ := h29 Br e.symm
  exact ne_type hr.box hc' (by decide) rfl
theorem rg_keep (h : Rg w B S base v size f0 F) (hr : Rf m w Br base rv size F') (hF : FrR w w' Br rv) (hap : ∀ k, v.ownBlock = some k → some k ≠ rv.ownBlock) : Rg w' B S base v size f0 F := by
  have hne : ∀ (k : Nat) (cells : Array Value) (t : TypeId), w.heap[k]? = some (Obj.cells cells t (0, 0)) → t ≠ 62 → t ≠ 29 → w'.heap[k]? = w.heap[k]? := fun k cells t hc h1 h2 => hF k (blk_lt' hc) (fun e => ne_type hc hr.box h1 e) (fun e => by
    obtain ⟨_, _, _, hc'⟩ := hr.row.bound k e.symm
    exact ne_type hc hc' h2 rfl)
  refine ⟨(hne B _ _ h.box (by decide) (by decide)).trans h.box, (hne S _ _ h.st (by decide) (by decide)).trans h.st, Kd.R_mono (Kd.R_step (R_types36 h.row) (fun k hk hlt => ?_)) (fun _ _ => trivial), h.hb, h.hs, h.con⟩
  rcases hk.2.2.2 with h1 | ⟨cells, hc⟩
  · obtain ⟨_, hc⟩ := R_typed29 h.row k h1
    exact hF k hlt (fun e => ne_type hc hr.box (by decide) e) (hap k h1)
  · exact hne k cells 36 hc (by decide) (by decide)
theorem apart_ring (h : Rg w B S base v size f0 F) (hr : Rf m w Br base rv size F') (hap : ∀ k, v.ownBlock = some k → some k ≠ rv.ownBlock) (ho : v'.ownBlock = v.ownBlock ∨ ∃ b, v'.ownBlock = some b ∧ w.heap.size ≤ b) : ∀ k, v'.ownBlock = some k → some k ≠ rv.ownBlock := fun k hk e => by
  rcases ho with h1 | ⟨b, h1, h2⟩
  · exact hap k (h1.symm.trans hk) e
  · rw [hk] at h1
    injection h1 with h1
    have := (hr.row.bound k e.symm).2.1
    omega
theorem apart_ref (h : Rg w B S base v size f0 F) (hap : ∀ k, v.ownBlock = some k → some k ≠ rv.ownBlock) (ho : rv'.ownBlock = rv.ownBlock ∨ ∃ b, rv'.ownBlock = some b ∧ w.heap.size ≤ b) : ∀ k, v.ownBlock = some k → some k ≠ rv'.ownBlock := fun k hk e => by
  rcases ho with h1 | ⟨b, h1, h2⟩
  · exact hap k hk (e.trans h1)
  · have h3 := e.trans h1
    injection h3 with h3
    have := ((Kd.R_bound h.row).1 k hk).2.2.1
    omega
end
set_option maxRecDepth 100000 in
set_option maxHeartbeats 4000000 in
/-- none goes; nothing else is touched -/
theorem cut0F_c (f : Int) (B S base size : Nat) (v : Value) (f0 : Int) (F : List S29) (w0 w : World) (h : Rg w B S base v size f0 F) (HB : Below base w0 w) (hbase : base ≤ w.heap.size) (hF : F.length ≤ 100000) (hlo : ∀ k : Nat, k < F.length → f0 + (k : Int) ≤ f) :
    Calls Try.prog 14 #[.pointer (some ⟨B, 0, none⟩), .int .i64 f] w fun e w' => e = .returned (.tuple #[]) ∧ Rg w' B S base v size f0 F ∧ Below base w0 w' ∧ Fr w w' B S v ∧ w.heap.size ≤ w'.heap.size := by
  have hBw := Aside0.mk ((Below.refl w.heap.size w).alloc (Nat.le_refl _) (.cells #[.int .i64 f] 3))
  have e0 := heap_alloc_new w (.cells #[.int .i64 f] 3)
  have h1 : Rg (w.alloc (.cells #[.int .i64 f] 3)) B S base v size f0 F := h.below hBw.out
  have k1 := Aside0.mk (has_c B S base size v f0 F _ h1)
  have hne := Aside0.mk h.ne
  obtain ⟨A, c, rfl, hl, hC⟩ := h1.slice
  have kd := Aside0.mk (delf0_c f A F.length c w.heap.size F (w.alloc (.cells #[.int .i64 f] 3)) hF hC e0
    (fun k hk => by rw [rd29 F k (by omega), h.con k F[k] (List.getElem?_eq_getElem _)]; exact hlo k hk))
  obtain ⟨q0, q1, q2⟩ := h1.cells
  have hst := Aside0.mk h1.st
  have hR1 := Aside0.mk h1
  replace HB := Aside0.mk (HB.alloc hbase (.cells #[.int .i64 f] 3))
  replace h := Aside0.mk h
  have hbs : Aside0 (base ≤ (w.alloc (.cells #[.int .i64 f] 3)).heap.size) := ⟨Nat.le_trans hbase hBw.out.size⟩
  clear h1 hC e0 hl hlo
  go_enter Try.func14, Try.ntmps14
  go_wp2_with (first
    | (go_at_call 26; (with_reducible refine k1.out.mono ?_); rintro e w' ⟨rfl, hw⟩; subst w')
    | (go_at_call 31; (with_reducible refine kd.out.mono ?_); rintro e w1 ⟨rfl, hb1⟩; have hR2 := hR1.out.below hb1; have r0 := hR2.cells.2.2; have g0 : w1.frozen? ⟨S, 0, none⟩ = false := (by simp [World.frozen?, hR2.st]); replace hR2 := Aside0.mk hR2; replace hb1 := Aside0.mk hb1)
    | fail)
  go_end0
  have hbw := below_then hBw.out hBw.out.size hb1.out
  refine ⟨rfl, ⟨?_, ?_, Kd.R_set hR2.out.row hR2.out.st (fun q hq => (types52 q hq).2) 0 _, h.out.hb, h.out.hs, h.out.con⟩, (below_then HB.out hbs.out hb1.out).setCell (p := ⟨S, 0, none⟩) h.out.hs _, fun b h1 h2 h3 h4 => ?_, ?_⟩
  · exact blk_far hR2.out.box (p := ⟨S, 0, none⟩) hne.out.2.2 _
  · have := blk_set hR2.out.st 0 (.slice A F.length c)
    simpa using this
  · rw [Below.heap_setCell w1 ⟨S, 0, none⟩ _ b h3]
    exact hbw.block b h1
  · simp [World.setCell]
    exact hbw.size
/-- Cut, whatever the frame -/
theorem cutG_c (f : Int) (B S base size : Nat) (v : Value) (f0 : Int) (F : List S29) (w0 w : World) (h : Rg w B S base v size f0 F) (HB : Below base w0 w) (hbase : base ≤ w.heap.size) (hF : F.length ≤ 100000) (i0 : Nat) (hi : i0 ≤ F.length) (hlo : ∀ k : Nat, k < i0 → f0 + (k : Int) ≤ f) (hhi : i0 < F.length → f < f0 + (i0 : Int)) :
    Calls Try.prog 14 #[.pointer (some ⟨B, 0, none⟩), .int .i64 f] w fun e w' => e = .returned (.tuple #[]) ∧ (∃ v', Rg w' B S base v' size f0 (F.take i0) ∧ v'.ownBlock = v.ownBlock) ∧ Below base w0 w' ∧ Fr w w' B S v ∧ w.heap.size ≤ w'.heap.size := by
  by_cases h1 : i0 < F.length
  · exact cut_c f B S base size v f0 F w0 w h HB hbase hF i0 h1 hlo (hhi h1)
  · obtain rfl : i0 = F.length := by omega
    refine (cut0F_c f B S base size v f0 F w0 w h HB hbase hF hlo).mono ?_
    rintro e w' ⟨he, hR, hB, hFr, hs⟩
    exact ⟨he, ⟨v, by rw [List.take_length]; exact hR, rfl⟩, hB, hFr, hs⟩
/-- how many stay behind a cut -/
theorem cut_at (f f0 : Int) (n : Nat) : ∃ i0 : Nat, i0 ≤ n ∧ (∀ k : Nat, k < i0 → f0 + (k : Int) ≤ f) ∧ (∀ k : Nat, i0 ≤ k → f < f0 + (k : Int) ∨ n ≤ k) := by
  rcases (by omega : f < f0 ∨ (f0 ≤ f ∧ f < f0 + (n : Int)) ∨ f0 + (n : Int) ≤ f) with h | ⟨h1, h2⟩ | h
  · exact ⟨0, Nat.zero_le _, fun k hk => by omega, fun k hk => .inl (by omega)⟩
  · exact ⟨(f - f0 + 1).toNat, by omega, fun k hk => by omega, fun k hk => .inl (by omega)⟩
  · exact ⟨n, Nat.le_refl _, fun k hk => by omega, fun k hk => .inr hk⟩
end Go.Proofs.Ytompkbganljbkaa.Rin
namespace Go.Proofs.Ytompkbganljbkaa.Rin
open Go Go.RowKit Go.Proofs.Ytompkbganljbkaa.PRingPlays Go.Proofs.YtompkbganljbkaaW.PrintWords Go.Proofs.YtompkbganljbkaaW.PrintLast Go.Proofs.YtompkbganljbkaaW.PrintMore
set_option linter.unusedVariables false
set_option linter.unusedSimpArgs false
theorem Ro.up {m : Nat} {w : World} {base : Nat} {v : Value} {F : List S29} (h : Ro m w base v F) : Ro (m + 1) w base v F := by
  rcases h with h | ⟨g, o, c, dead, ho, hm0, hv, hR⟩
  · exact .inl h
  · exact .inr ⟨g, o, c, dead, ho, by omega, hv, hR⟩
theorem Rf.up {m : Nat} {w : World} {B base : Nat} {v : Value} {size : Nat} {F : List S29} (h : Rf m w B base v size F) : Rf (m + 1) w B base v size F := ⟨h.box, h.row.up, h.hb⟩
/-- what one op leaves -/
def Next (m : Nat) (w0 w : World) (B S Br size : Nat) : Prop := Below w0.heap.size w0 w ∧ ∃ v rv f0 F, Bo (m + 1) w0.heap.size w B S Br v rv size f0 F
theorem Bo.up {m base B S Br size : Nat} {w : World} {v rv : Value} {f0 : Int} {F : List S29} (h : Bo m base w B S Br v rv size f0 F) : Bo (m + 1) base w B S Br v rv size f0 F := ⟨h.rg, h.rf.up, h.apart, h.wide, h.len, h.size32, h.ent⟩
theorem bo_cut {m B S Br size : Nat} {w0 w : World} {v rv : Value} {f0 : Int} {F : List S29} (h : Bo m w0.heap.size w B S Br v rv size f0 F) (HB : Below w0.heap.size w0 w) (f : Int) :
    Calls Try.prog 14 #[.pointer (some ⟨B, 0, none⟩), .int .i64 f] w fun e w1 => e = .returned (.tuple #[]) ∧ Fr w w1 B S v ∧ w.heap.size ≤ w1.heap.size ∧
      Calls Try.prog 16 #[.pointer (some ⟨Br, 0, none⟩), .int .i64 f] w1 fun e w2 => e = .returned (.tuple #[]) ∧ Next m w0 w2 B S Br size := by
  obtain ⟨i0, hi, hlo, hhi⟩ := cut_at f f0 F.length
  have hl := h.len
  have hs := h.size32
  have hcon : ∀ (k : Nat) (hk : k < F.length), F[k].f0 = f0 + (k : Int) := fun k hk => h.rg.con k F[k] (List.getElem?_eq_getElem hk)
  refine (cutG_c f B S w0.heap.size size v f0 F w0 w h.rg HB HB.size (by omega) i0 hi hlo (fun hlt => (hhi i0 (Nat.le_refl _)).resolve_right (by omega))).mono ?_
  rintro e w1 ⟨he, ⟨v', hR, hv⟩, hB1, hF1, hs1⟩
  have hrf := rf_keep h.rg h.rf hF1 h.apart
  have hap := apart_ring (v' := v') h.rg h.rf h.apart (.inl hv)
  refine ⟨he, hF1, hs1, (refCut_c f Br w0.heap.size size m rv F w0 w1 hrf hB1 hB1.size (by omega) i0 hi (fun k hk hki => by rw [hcon k hk]; exact hlo k hki) (fun k hk hki => by rw [hcon k hk]; exact (hhi k hki).resolve_right (by omega))).mono ?_⟩
  rintro e w2 ⟨he2, ⟨rv', hrf2, hnew⟩, hB2, hF2, hs2⟩
  refine ⟨he2, hB2, v', rv', f0, F.take i0, ⟨rg_keep hR hrf hF2 hap, hrf2.up, fun k hk e => ?_, ?_, ?_, hs, fun x hx => h.ent x (List.mem_of_mem_take hx)⟩⟩
  · have h1 := hnew k e.symm
    have h2 := ((Kd.R_bound hR.row).1 k hk).2.2.1
    omega
  · have hw := h.wide
    rw [List.length_take]
    omega
  · rw [List.length_take]
    omega
theorem bo_first {m base B S Br size : Nat} {w : World} {v rv : Value} {f0 : Int} {F : List S29} (h : Bo m base w B S Br v rv size f0 F) :
    Calls Try.prog 12 #[.pointer (some ⟨B, 0, none⟩)] w fun e w' => e = .returned (.int .i64 (fst f0 F)) ∧ w' = w := first_c B S base size v f0 F w h.rg
theorem bo_rfirst {m base B S Br size : Nat} {w : World} {v rv : Value} {f0 : Int} {F : List S29} (h : Bo m base w B S Br v rv size f0 F) :
    Calls Try.prog 19 #[.pointer (some ⟨Br, 0, none⟩)] w fun e w' => e = .returned (.int .i64 (fst f0 F)) ∧ w' = w := refFirst_c Br base size m rv f0 F w h.rf h.rg.con
theorem bo_last {m base B S Br size : Nat} {w : World} {v rv : Value} {f0 : Int} {F : List S29} (h : Bo m base w B S Br v rv size f0 F) :
    Calls Try.prog 11 #[.pointer (some ⟨B, 0, none⟩)] w fun e w' => e = .returned (.int .i64 (lst f0 F)) ∧ Drawn0 w w' := lastW_c B S base size v f0 F w h.rg h.wide (by have := h.len; have := h.size32; omega)
theorem bo_rlast {m base B S Br size : Nat} {w : World} {v rv : Value} {f0 : Int} {F : List S29} (h : Bo m base w B S Br v rv size f0 F) :
    Calls Try.prog 20 #[.pointer (some ⟨Br, 0, none⟩)] w fun e w' => e = .returned (.int .i64 (lst f0 F)) ∧ Drawn0 w w' := refLast_c Br base size m rv f0 F w h.rf h.rg.con (by have := h.len; have := h.size32; omega)
theorem bo_fork {m B S Br size : Nat} {w0 w : World} {v rv : Value} {f0 : Int} {F : List S29} (h : Bo m w0.heap.size w B S Br v rv size f0 F) (HB : Below w0.heap.size w0 w) :
    Calls Try.prog 17 #[.pointer (some ⟨B, 0, none⟩)] w fun e w1 => ∃ B' S', e = .returned (.pointer (some ⟨B', 0, none⟩)) ∧ Below w.heap.size w w1 ∧
      Calls Try.prog 14 #[.pointer (some ⟨B, 0, none⟩), .int .i64 (-1)] w1 fun e w2 => e = .returned (.tuple #[]) ∧ Next m w0 w2 B' S' Br size := by
  have hl := h.len
  have hs := h.size32
  refine (fork_c B S w0.heap.size size v f0 F w h.rg HB.size (by omega)).mono ?_
  rintro e w1 ⟨⟨B', S', v', he, hR', hB', hS', hv'⟩, hb⟩
  refine ⟨B', S', he, hb, ?_⟩
  have h1 := h.below hb
  have HB1 := below_then HB HB.size hb
  obtain ⟨i0, hi, hlo, hhi⟩ := cut_at (-1) f0 F.length
  refine (cutG_c (-1) B S w0.heap.size size v f0 F w0 w1 h1.rg HB1 HB1.size (by omega) i0 hi hlo (fun hlt => (hhi i0 (Nat.le_refl _)).resolve_right (by omega))).mono ?_
  rintro e w2 ⟨he2, ⟨v2, hR2, hv2⟩, hB2, hF2, hs2⟩
  have hrf := rf_keep h1.rg h1.rf hF2 h1.apart
  have hltB := blk_lt' h.rg.box
  have hltS := blk_lt' h.rg.st
  have hvl : ∀ k, v.ownBlock = some k → k < w.heap.size := fun k hk => ((Kd.R_bound h.rg.row).1 k hk).2.2.1
  have h29 := R_typed29 h1.rg.row
  refine ⟨he2, hB2, v', rv, f0, F, ⟨⟨?_, ?_, ?_, hR'.hb, hR'.hs, hR'.con⟩, hrf.up, fun k hk e => ?_, h.wide, h.len, h.size32, h.ent⟩⟩
  · exact (hF2 B' (blk_lt' hR'.box) (by omega) (by omega) (fun e => by have := hvl B' e.symm; omega)).trans hR'.box
  · exact (hF2 S' (blk_lt' hR'.st) (by omega) (by omega) (fun e => by have := hvl S' e.symm; omega)).trans hR'.st
  · refine Kd.R_mono (Kd.R_step (R_types36 hR'.row) (fun k hk hlt => ?_)) (fun _ _ => trivial)
    rcases hk.2.2.2 with h3 | ⟨cells, hc⟩
    · have h4 := hv' k h3
      exact hF2 k hlt (by omega) (by omega) (fun e => by have := hvl k e.symm; omega)
    · exact hF2 k hlt (fun e => ne_type hc h1.rg.box (by decide) e) (fun e => ne_type hc h1.rg.st (by decide) e) (fun e => by
        obtain ⟨_, hc'⟩ := h29 k e.symm
        exact ne_type hc hc' (by decide) rfl)
  · have h3 := hv' k hk
    have h4 := (h.rf.row.bound k e.symm).2.1
    omega
end Go.Proofs.Ytompkbganljbkaa.Rin
namespace Go.Proofs.Ytompkbganljbkaa.Rin
open Go Go.RowKit Go.Proofs.Ytompkbganljbkaa.PRingPlays Go.Proofs.YtompkbganljbkaaW.PrintWords Go.Proofs.YtompkbganljbkaaW.PrintLast Go.Proofs.YtompkbganljbkaaW.PrintMore
set_option linter.unusedVariables false
set_option linter.unusedSimpArgs false
theorem bo_put {m B S Br size : Nat} {w0 w : World} {v rv : Value} {f0 : Int} {F : List S29} (h : Bo m w0.heap.size w B S Br v rv size f0 F) (HB : Below w0.heap.size w0 w) (hm : m ≤ 400) (f : Int) (hfb : -9223372036854775808 ≤ f ∧ f ≤ 9223372036854775807) (A : Option Addr) (n c : Nat) (es : List S36) (HC : Kd.C k36 w0 A n es) (hn : n ≤ 20) :
    ∃ r : Bool, Calls Try.prog 9 #[.pointer (some ⟨B, 0, none⟩), .agg #[.int .i64 f, .slice A n c]] w fun e w1 => e = .returned (.bool r) ∧ Fr w w1 B S v ∧ w.heap.size ≤ w1.heap.size ∧
      Calls Try.prog 18 #[.pointer (some ⟨Br, 0, none⟩), .agg #[.int .i64 f, .slice A n c]] w1 fun e w2 => e = .returned (.bool r) ∧ Next m w0 w2 B S Br size := by
  have hl := h.len
  have hs := h.size32
  have hes : es.length = n := HC.1
  have hcon : ∀ (k : Nat) (hk : k < F.length), F[k].f0 = f0 + (k : Int) := fun k hk => h.rg.con k F[k] (List.getElem?_eq_getElem hk)
  have HCF : ∀ W, w.heap.size ≤ W.heap.size → Fr w W B S v → Kd.C k36 W A n es := fun W hsz hF => C36_move HC (fun b hb => by
    have h1 := h.rg.hb
    have h2 := h.rg.hs
    have h3 := HB.size
    rw [hF b (by omega) (by omega) (by omega) (fun e => by have := ((Kd.R_bound h.rg.row).1 b e.symm).2.1; omega)]
    exact HB.block b hb)
  have HCB : ∀ W, Below w0.heap.size w0 W → Kd.C k36 W A n es := fun W hW => Kd.C_below HC hW
  rcases (by omega : F.length = 0 ∨ (0 < F.length ∧ f < f0) ∨ (0 < F.length ∧ f0 ≤ f ∧ f < f0 + (F.length : Int)) ∨ (0 < F.length ∧ f = f0 + (F.length : Int)) ∨ (0 < F.length ∧ f0 + (F.length : Int) < f)) with h0 | ⟨h0, h1⟩ | ⟨h0, h1, h2⟩ | ⟨h0, h1⟩ | ⟨h0, h1⟩
  · -- an empty ring
    obtain rfl : F = [] := List.eq_nil_of_length_eq_zero h0
    have hg : Rg w B S w0.heap.size v size f [] := ⟨h.rg.box, h.rg.st, h.rg.row, h.rg.hb, h.rg.hs, fun j x hx => by simp at hx⟩
    refine ⟨true, (putW_c f A n c es B S w0.heap.size size v f [] w0 w hg HB HB.size hs.1 (by simp; omega) (by simp; omega) (by simp) (by simp) HCF (by omega)).mono ?_⟩
    rintro e w1 ⟨he, ⟨v', hR, hv⟩, hB1, hF1, hs1⟩
    have e1 : nf0 size f [] = f := by unfold nf0; rw [if_neg (by simp; omega)]
    have e2 : nxt size [] (⟨f, es⟩ : S29) = [⟨f, es⟩] := by unfold nxt; rw [if_neg (by simp; omega)]; rfl
    rw [e1, e2] at hR
    have hrf := rf_keep hg h.rf hF1 h.apart
    have hap := apart_ring (v' := v') hg h.rf h.apart hv
    refine ⟨he, hF1, hs1, (refPutE_c f A n c es Br w0.heap.size size m rv [] w0 w1 hrf hB1 hB1.size (by simp) (by omega) hs.1 rfl HCB (by omega)).mono ?_⟩
    rintro e w2 ⟨he2, ⟨rv', hrf2, hrv⟩, hB2, hF2, hs2⟩
    refine ⟨he2, hB2, v', rv', f, [⟨f, es⟩], ⟨rg_keep hR hrf hF2 hap, hrf2.up, apart_ref hR hap hrv, by simp; omega, by simp; omega, hs, fun x hx => ?_⟩⟩
    rw [List.mem_singleton.1 hx]
    show es.length ≤ 20
    omega
  · -- before the first one
    have hy : ∀ (hk : F.length - 1 < F.length), F[F.length - 1].f0 = f0 + (F.length : Int) - 1 := fun hk => by rw [hcon _ hk]; omega
    refine ⟨false, (putLowW_c f A n c B S w0.heap.size size v f0 F w h.rg h.wide h0 (by omega) h1).mono ?_⟩
    rintro e w1 ⟨he, hb⟩
    have hB1 := below_then HB HB.size hb
    have hh := h.below hb
    have hw := h.wide
    refine ⟨he, fun b h1 _ _ _ => hb.block b h1, hb.size, (refPutNo_c f A n c es Br w0.heap.size size m rv F w0 w1 hh.rf hB1 hB1.size (by omega) (by omega) h0 (fun k hk => by rw [hcon k hk]; omega) (f0 + (F.length : Int) - 1) hy (by omega) (by omega) HCB (by omega)).mono ?_⟩
    rintro e w2 ⟨he2, hb2⟩
    exact ⟨he2, below_then hB1 hB1.size hb2, v, rv, f0, F, (hh.below hb2).up⟩
  · -- in its place
    obtain ⟨j, hj⟩ : ∃ j : Nat, f = f0 + (j : Int) := ⟨(f - f0).toNat, by omega⟩
    have hjl : j < F.length := by omega
    refine ⟨true, (putInW_c f A n c es B S w0.heap.size size v f0 F w0 w h.rg HB HB.size h.wide (by omega) j hjl hj HCF (by omega)).mono ?_⟩
    rintro e w1 ⟨he, ⟨v', hR, hv⟩, hB1, hF1, hs1⟩
    have hrf := rf_keep h.rg h.rf hF1 h.apart
    have hap := apart_ring (v' := v') h.rg h.rf h.apart (.inl hv)
    refine ⟨he, hF1, hs1, (refPutIn_c f A n c es Br w0.heap.size size m rv F w0 w1 hrf hB1 hB1.size (by omega) (by omega) j hjl (by rw [hcon j hjl]; omega) (fun k hk hkj => by rw [hcon k hk]; omega) HCB (by omega)).mono ?_⟩
    rintro e w2 ⟨he2, hrf2, hB2, hF2, hs2⟩
    refine ⟨he2, hB2, v', rv, f0, F.set j ⟨f, es⟩, ⟨rg_keep hR hrf hF2 hap, hrf2.up, hap, by rw [List.length_set]; exact h.wide, by rw [List.length_set]; exact hl, hs, fun x hx => ?_⟩⟩
    rcases List.mem_or_eq_of_mem_set hx with h5 | h5
    · exact h.ent x h5
    · rw [h5]; show es.length ≤ 20; omega
  · -- behind the last one
    have hw := h.wide
    have hy : ∀ (hk : F.length - 1 < F.length), F[F.length - 1].f0 = f - 1 := fun hk => by rw [hcon _ hk]; omega
    have hno : ∀ (k : Nat) (hk : k < F.length), F[k].f0 ≠ f := fun k hk => by rw [hcon k hk]; omega
    refine ⟨true, (putW_c f A n c es B S w0.heap.size size v f0 F w0 w h.rg HB HB.size hs.1 hw (by omega) (by omega) h1 HCF (by omega)).mono ?_⟩
    rintro e w1 ⟨he, ⟨v', hR, hv⟩, hB1, hF1, hs1⟩
    have hrf := rf_keep h.rg h.rf hF1 h.apart
    have hap := apart_ring (v' := v') h.rg h.rf h.apart hv
    have hent : ∀ x ∈ F ++ [(⟨f, es⟩ : S29)], x.f1.length ≤ 20 := fun x hx => by
      rcases List.mem_append.1 hx with h5 | h5
      · exact h.ent x h5
      · rw [List.mem_singleton.1 h5]; show es.length ≤ 20; omega
    by_cases hk : F.length + 1 ≤ size
    · have e1 : nf0 size f0 F = f0 := by unfold nf0; rw [if_neg (by omega)]
      have e2 : nxt size F (⟨f, es⟩ : S29) = F ++ [⟨f, es⟩] := by unfold nxt; rw [if_neg (by omega)]
      rw [e1, e2] at hR
      refine ⟨he, hF1, hs1, (refPutK_c f A n c es Br w0.heap.size size m rv F w0 w1 hrf hB1 hB1.size (by omega) (by omega) hs.1 h0 hno (f - 1) hy (by omega) (by omega) hk HCB (by omega)).mono ?_⟩
      rintro e w2 ⟨he2, ⟨rv', hrf2, hrv⟩, hB2, hF2, hs2⟩
      exact ⟨he2, hB2, v', rv', f0, F ++ [⟨f, es⟩], ⟨rg_keep hR hrf hF2 hap, hrf2.up, apart_ref hR hap hrv, by rw [List.length_append, List.length_singleton]; omega, by rw [List.length_append, List.length_singleton]; omega, hs, hent⟩⟩
    · have e1 : nf0 size f0 F = f0 + 1 := by unfold nf0; rw [if_pos (by omega)]
      have e2 : nxt size F (⟨f, es⟩ : S29) = (F ++ [(⟨f, es⟩ : S29)]).tail := by unfold nxt; rw [if_pos (by omega), List.eraseIdx_zero]
      rw [e1, e2] at hR
      refine ⟨he, hF1, hs1, (refPutT_c f A n c es Br w0.heap.size size m rv F w0 w1 hrf hB1 hB1.size (by omega) (by omega) hs.1 h0 hno (f - 1) hy (by omega) (by omega) (by omega) HCB (by omega)).mono ?_⟩
      rintro e w2 ⟨he2, ⟨rv', hrf2, hrv⟩, hB2, hF2, hs2⟩
      refine ⟨he2, hB2, v', rv', f0 + 1, (F ++ [(⟨f, es⟩ : S29)]).tail, ⟨rg_keep hR hrf hF2 hap, hrf2, apart_ref hR hap hrv, ?_, ?_, hs, fun x hx => hent x (List.mem_of_mem_tail hx)⟩⟩
      · rw [List.length_tail, List.length_append, List.length_singleton]; omega
      · rw [List.length_tail, List.length_append, List.length_singleton]; omega
  · -- too far
    have hw := h.wide
    have hy : ∀ (hk : F.length - 1 < F.length), F[F.length - 1].f0 = f0 + (F.length : Int) - 1 := fun hk => by rw [hcon _ hk]; omega
    refine ⟨false, (putFarW_c f A n c B S w0.heap.size size v f0 F w h.rg h.wide h0 (by omega) (by omega) hfb.2).mono ?_⟩
    rintro e w1 ⟨he, hb⟩
    have hB1 := below_then HB HB.size hb
    have hh := h.below hb
    refine ⟨he, fun b h1 _ _ _ => hb.block b h1, hb.size, (refPutNo_c f A n c es Br w0.heap.size size m rv F w0 w1 hh.rf hB1 hB1.size (by omega) (by omega) h0 (fun k hk => by rw [hcon k hk]; omega) (f0 + (F.length : Int) - 1) hy (by omega) (by omega) HCB (by omega)).mono ?_⟩
    rintro e w2 ⟨he2, hb2⟩
    exact ⟨he2, below_then hB1 hB1.size hb2, v, rv, f0, F, (hh.below hb2).up⟩
/-- what is told of a frame -/
theorem bo_get {m B S Br size : Nat} {w0 w : World} {v rv : Value} {f0 : Int} {F : List S29} (h : Bo m w0.heap.size w B S Br v rv size f0 F) (f : Int) :
    ∃ (g : Int) (es : List S36) (is : Bool), es.length ≤ 20 ∧ (Calls Try.prog 10 #[.pointer (some ⟨B, 0, none⟩), .int .i64 f] w fun e w1 => (∃ A' c', e = .returned (.tuple #[.agg #[.int .i64 g, .slice A' es.length c'], .bool is]) ∧ Kd.C k36 w1 A' es.length es) ∧ Below w.heap.size w w1) ∧
      ∀ W, Below w.heap.size w W → Calls Try.prog 21 #[.pointer (some ⟨Br, 0, none⟩), .int .i64 f] W fun e w2 => (∃ A' c', e = .returned (.tuple #[.agg #[.int .i64 g, .slice A' es.length c'], .bool is]) ∧ Kd.C k36 w2 A' es.length es) ∧ Below W.heap.size W w2 := by
  have hl := h.len
  have hs := h.size32
  have hw := h.wide
  have hcon : ∀ (k : Nat) (hk : k < F.length), F[k].f0 = f0 + (k : Int) := fun k hk => h.rg.con k F[k] (List.getElem?_eq_getElem hk)
  have out : (∀ W, Below w.heap.size w W → Calls Try.prog 23 #[.pointer (some ⟨B, 0, none⟩), .int .i64 f] W fun e w' => e = .returned (.tuple #[.int .i64 0, .bool false]) ∧ Drawn0 W w') → (∀ (k : Nat) (hk : k < F.length), F[k].f0 ≠ f) → ∃ (g : Int) (es : List S36) (is : Bool), es.length ≤ 20 ∧ (Calls Try.prog 10 #[.pointer (some ⟨B, 0, none⟩), .int .i64 f] w fun e w1 => (∃ A' c', e = .returned (.tuple #[.agg #[.int .i64 g, .slice A' es.length c'], .bool is]) ∧ Kd.C k36 w1 A' es.length es) ∧ Below w.heap.size w w1) ∧
      ∀ W, Below w.heap.size w W → Calls Try.prog 21 #[.pointer (some ⟨Br, 0, none⟩), .int .i64 f] W fun e w2 => (∃ A' c', e = .returned (.tuple #[.agg #[.int .i64 g, .slice A' es.length c'], .bool is]) ∧ Kd.C k36 w2 A' es.length es) ∧ Below W.heap.size W w2 := fun ka hno => by
    refine ⟨0, [], false, by simp, (getOut_c _ f w ka).mono ?_, fun W hW => (refGetOut_c f Br w0.heap.size size m rv F W (h.below hW).rf (by omega) hno).mono ?_⟩
    · rintro e w1 ⟨he, hb⟩
      exact ⟨⟨none, 0, he, Kd.C_nil _ _⟩, hb⟩
    · rintro e w1 ⟨he, hb⟩
      exact ⟨⟨none, 0, he, Kd.C_nil _ _⟩, hb⟩
  rcases (by omega : F.length = 0 ∨ (0 < F.length ∧ f < f0) ∨ (0 < F.length ∧ f0 ≤ f ∧ f < f0 + (F.length : Int)) ∨ (0 < F.length ∧ f0 + (F.length : Int) ≤ f)) with h0 | ⟨h0, h1⟩ | ⟨h0, h1, h2⟩ | ⟨h0, h1⟩
  · exact out (fun W hW => atEmpty_c f B S w0.heap.size size v f0 F W (h.below hW).rg h0) (fun k hk => by omega)
  · exact out (fun W hW => atLow_c f B S w0.heap.size size v f0 F W (h.below hW).rg h0 h1) (fun k hk => by rw [hcon k hk]; omega)
  · obtain ⟨j, hj⟩ : ∃ j : Nat, f = f0 + (j : Int) := ⟨(f - f0).toNat, by omega⟩
    have hjl : j < F.length := by omega
    have hej := h.ent F[j] (List.getElem_mem hjl)
    refine ⟨f, F[j].f1, true, hej, (getInW_c f B S w0.heap.size size v f0 F w h.rg hw (by omega) j hjl hj (by omega)).mono ?_, fun W hW => (refGetIn_c f Br w0.heap.size size m rv F W (h.below hW).rf (by omega) j hjl (by rw [hcon j hjl]; omega) (fun k hk hkj => by rw [hcon k hk]; omega) (by omega)).mono ?_⟩
    · rintro e w1 ⟨⟨A', c', he, hR⟩, hb⟩
      exact ⟨⟨A', c', he, (Kd.R_reads' hR).2.2⟩, hb⟩
    · rintro e w1 ⟨⟨A', c', he, hR⟩, hb⟩
      exact ⟨⟨A', c', he, (Kd.R_reads' hR).2.2⟩, hb⟩
  · exact out (fun W hW => atHighW_c f B S w0.heap.size size v f0 F W (h.below hW).rg h0 hw (by omega) h1) (fun k hk => by rw [hcon k hk]; omega)
end Go.Proofs.Ytompkbganljbkaa.Rin
namespace Go.Proofs.Ytompkbganljbkaa.Rin
open Go Go.RowKit Go.Proofs.Ytompkbganljbkaa.PRingPlays Go.Proofs.YtompkbganljbkaaW.PrintWords Go.Proofs.YtompkbganljbkaaW.PrintLast Go.Proofs.YtompkbganljbkaaW.PrintMore
set_option linter.unusedVariables false
set_option linter.unusedSimpArgs false
theorem Bo.made {m base B S Br size : Nat} {w w' : World} {v rv : Value} {f0 : Int} {F : List S29} {o : Obj} (h : Bo m base w B S Br v rv size f0 F) (hF : Fr (w.alloc o) w' B S v) : w'.heap[w.heap.size]? = some o := by
  have h1 := blk_lt' h.rg.box
  have h2 := blk_lt' h.rg.st
  refine (hF _ (by simp) (by omega) (by omega) (fun e => ?_)).trans (heap_alloc_new _ _)
  have h4 := ((Kd.R_bound h.rg.row).1 _ e.symm).2.2.1
  omega
set_option maxRecDepth 100000 in
set_option maxHeartbeats 16000000 in
theorem ringplays_walk (sz ask : Int) (A : Option Addr) (n cap : Nat) (w : World) (hn : n ≤ maxLen) (hcap : n ≤ cap) (hops : 0 < n → ∃ ad, A = some ad ∧ ∀ i, i < n → OpAt w (ad.add (i * 3))) :
    Calls Try.prog 5 #[.int .i64 sz, .slice A n cap, .int .i64 ask] w fun e w' => e = .returned (.bool true) ∧ Below w.heap.size w w' := by
  unfold maxLen at hn
  obtain ⟨msz, hmsz⟩ : ∃ msz : Nat, (msz : Int) = max 1 (min sz 32) := ⟨(max 1 (min sz 32)).toNat, by omega⟩
  have hm32 : Aside0 (1 ≤ msz ∧ msz ≤ 32) := ⟨by omega⟩
  have kn := Aside0.mk (new_c sz msz hmsz w)
  have kr : Aside0 (∀ W : World, Calls Try.prog 15 #[.int .i64 sz] W fun e w' => e = .returned (.pointer (some ⟨W.heap.size, 0, none⟩)) ∧ Below W.heap.size W w' ∧ w'.heap[W.heap.size]? = some (.cells #[.int .i64 (msz : Int), .slice none 0 0] 62 (0, 0))) := ⟨fun W => (newRef_c sz msz hmsz W).mono fun e w' ⟨he, hw⟩ => ⟨he, by rw [hw]; exact (Below.refl _ _).alloc (Nat.le_refl _) _, by rw [hw]; exact heap_alloc_new W _⟩⟩
  replace hops := Aside0.mk hops
  clear hmsz
  go_enter Try.func5, Try.ntmps5
  go_wp2_with (first
    | (go_at_call 7; (with_reducible refine kn.out.mono ?_); rintro e w1 ⟨⟨B, S, rfl, hW⟩, hb⟩; replace hW := Aside0.mk hW; replace hb := Aside0.mk hb)
    | (go_at_call 15; (with_reducible refine (kr.out _).mono ?_); rintro e w2 ⟨rfl, hb2, hx2⟩; replace hb2 := Aside0.mk hb2; replace hx2 := Aside0.mk hx2)
    | (go_at_call 8; go_loud (with_reducible refine (awake_c _).mono ?_); rintro e w3 ⟨rfl, hb3⟩; replace hb3 := Aside0.mk hb3)
    | fail)
  have HB3 := Aside0.mk (below_then (below_then hb.out hb.out.size hb2.out) (Nat.le_trans hb.out.size hb2.out.size) hb3.out)
  have hBo3 : Aside0 (∃ v rv f0 F, Bo 0 w.heap.size w3 B S w1.heap.size v rv msz f0 F) := ⟨⟨_, _, 0, [], (hW.out 0).below (below_then hb2.out hb2.out.size hb3.out), ⟨(hb3.out.block _ (blk_lt' hx2.out)).trans hx2.out, .inl ⟨rfl, rfl⟩, hb.out.size⟩, fun k hk => by simp [Value.ownBlock] at hk, by simp, by simp, hm32.out, fun x hx => by simp at hx⟩⟩
  clear hW hb2 hx2 hb3 kn kr
  generalize w1.heap.size = Br at *
  go_loopw [7, 9] (fun p iv wr => ∃ (k B S : Nat), k ≤ n ∧ k ≤ 80 ∧ iv = .int .i64 k ∧ p = .pointer (some ⟨B, 0, none⟩) ∧ Aside0 (Below w.heap.size w wr) ∧ Aside0 (∃ v rv f0 F, Bo k w.heap.size wr B S Br v rv msz f0 F)) (fun _ iv _ => n - (intOf iv).toNat)
  case atStart => exact ⟨0, B, S, Nat.zero_le _, Nat.zero_le _, rfl, rfl, HB3, hBo3⟩
  case round =>
    clear HB3 hBo3 hb
    obtain ⟨k, B, S, hk, hk80, rfl, rfl, HB, hBo⟩ := hrel
    by_cases hc : k < n ∧ k < 80
    · obtain ⟨ad, rfl, hat⟩ := hops.out (by omega)
      obtain ⟨kd, f, A', n', c', l, x0, y1, y2, hkd, hfb, hn', HCw⟩ := hat k hc.1
      replace x0 := cell_later HB.out x0
      replace y1 := cell_later HB.out y1
      replace y2 := cell_later HB.out y2
      replace HCw := Aside0.mk HCw
      replace y1 : wr.cell? ⟨(ad.add (k * 3)).block, (ad.add (k * 3)).off + 1, none⟩ = some (.int .i64 f) := y1
      replace y2 : wr.cell? ⟨(ad.add (k * 3)).block, (ad.add (k * 3)).off + 2, none⟩ = some (.slice A' n' c') := y2
      have b0 : (0 : Int) ≤ (k : Int) := by omega
      have b1 : (k : Int) < (n : Int) := by omega
      have b2 : (k : Int) < 80 := by omega
      clear hat
      obtain ⟨v, rv, f0, F, hBo⟩ := hBo.out
      have hBo1 : Aside0 (Bo k w.heap.size (wr.alloc (Obj.cells #[.int .i64 kd, .int .i64 f, .slice A' n' c'] 43)) B S Br v rv msz f0 F) := ⟨hBo.below ((Below.refl _ _).alloc (Nat.le_refl _) _)⟩
      have HB1 : Aside0 (Below w.heap.size w (wr.alloc (Obj.cells #[.int .i64 kd, .int .i64 f, .slice A' n' c'] 43))) := ⟨HB.out.alloc HB.out.size _⟩
      replace hBo := Aside0.mk hBo
      by_cases h20 : 20 < n'
      · have z1 : (20 : Int) < (n' : Int) := by omega
        go_wp2_with fail
        go_ret
        exact ⟨rfl, HB1.out⟩
      · have z1 : ¬ ((20 : Int) < (n' : Int)) := by omega
        rcases (by omega : kd = 1 ∨ kd = 2 ∨ (kd ≠ 1 ∧ kd ≠ 2)) with rfl | rfl | ⟨n1, n2⟩
        · have kc := Aside0.mk (bo_cut hBo1.out HB1.out f)
          go_wp2_with (first
            | (go_at_call 14; (with_reducible refine kc.out.mono ?_); rintro e w3 ⟨rfl, hF3, hs3, kr⟩; have q1 := blk_cell' (hBo.out.made hF3) 1; simp at q1; replace kr := Aside0.mk kr; clear hF3 hs3)
            | (go_at_call 16; (with_reducible refine kr.out.mono ?_); rintro e w4 ⟨rfl, HB4, v4, rv4, f4, F4, hBo4⟩; replace HB4 := Aside0.mk HB4; replace hBo4 := Aside0.mk hBo4)
            | (go_at_call 12; (with_reducible refine (bo_first hBo4.out).mono ?_); rintro e w' ⟨rfl, hw⟩; subst w')
            | (go_at_call 19; (with_reducible refine (bo_rfirst hBo4.out).mono ?_); rintro e w' ⟨rfl, hw⟩; subst w')
            | (go_at_call 11; (with_reducible refine (bo_last hBo4.out).mono ?_); rintro e w5 ⟨rfl, hd5⟩; have hBo5 := Aside0.mk (hBo4.out.below hd5.below); have HB5 := Aside0.mk (below_then HB4.out HB4.out.size hd5.below); clear hd5)
            | (go_at_call 20; (with_reducible refine (bo_rlast hBo5.out).mono ?_); rintro e w6 ⟨rfl, hd6⟩; have hBo6 := Aside0.mk (hBo5.out.below hd6.below); have HB6 := Aside0.mk (below_then HB5.out HB5.out.size hd6.below); clear hd6)
            | fail)
          go_roundw
          case rel => exact ⟨k + 1, B, S, by omega, by omega, by go_num, rfl, HB6, ⟨⟨_, _, _, _, hBo6.out⟩⟩⟩
          case measure => simp [intOf]; omega
        · have kc := Aside0.mk (bo_fork hBo1.out HB1.out)
          go_wp2_with (first
            | (go_at_call 17; (with_reducible refine kc.out.mono ?_); rintro e w3 ⟨B', S', rfl, hb3, kr⟩; replace kr := Aside0.mk kr; clear hb3)
            | (go_at_call 14; (with_reducible refine kr.out.mono ?_); rintro e w4 ⟨rfl, HB4, v4, rv4, f4, F4, hBo4⟩; replace HB4 := Aside0.mk HB4; replace hBo4 := Aside0.mk hBo4)
            | (go_at_call 12; (with_reducible refine (bo_first hBo4.out).mono ?_); rintro e w' ⟨rfl, hw⟩; subst w')
            | (go_at_call 19; (with_reducible refine (bo_rfirst hBo4.out).mono ?_); rintro e w' ⟨rfl, hw⟩; subst w')
            | (go_at_call 11; (with_reducible refine (bo_last hBo4.out).mono ?_); rintro e w5 ⟨rfl, hd5⟩; have hBo5 := Aside0.mk (hBo4.out.below hd5.below); have HB5 := Aside0.mk (below_then HB4.out HB4.out.size hd5.below); clear hd5)
            | (go_at_call 20; (with_reducible refine (bo_rlast hBo5.out).mono ?_); rintro e w6 ⟨rfl, hd6⟩; have hBo6 := Aside0.mk (hBo5.out.below hd6.below); have HB6 := Aside0.mk (below_then HB5.out HB5.out.size hd6.below); clear hd6)
            | fail)
          go_roundw
          case rel => exact ⟨k + 1, B', S', by omega, by omega, by go_num, rfl, HB6, ⟨⟨_, _, _, _, hBo6.out⟩⟩⟩
          case measure => simp [intOf]; omega
        · go_wp2_with fail
          have hn20 : n' ≤ 20 := by omega
          have hBo2 : Aside0 (Bo k w.heap.size (((wr.alloc (Obj.cells #[.int .i64 kd, .int .i64 f, .slice A' n' c'] 43)).alloc (Obj.cells #[.int .i64 f, .slice A' n' c'] 29))).drew B S Br v rv msz f0 F) := ⟨hBo1.out.below (below_drew ((Below.refl _ _).alloc (Nat.le_refl _) _))⟩
          have HB2 : Aside0 (Below w.heap.size w (((wr.alloc (Obj.cells #[.int .i64 kd, .int .i64 f, .slice A' n' c'] 43)).alloc (Obj.cells #[.int .i64 f, .slice A' n' c'] 29))).drew) := ⟨below_drew (HB1.out.alloc HB1.out.size _)⟩
          obtain ⟨r, kp⟩ := bo_put hBo2.out HB2.out (by omega) f hfb A' n' c' l HCw.out hn20
          replace kp := Aside0.mk kp
          have hsz1 : (wr.alloc (Obj.cells #[.int .i64 kd, .int .i64 f, .slice A' n' c'] 43)).heap.size = wr.heap.size + 1 := by simp
          have hx2 : (((wr.alloc (Obj.cells #[.int .i64 kd, .int .i64 f, .slice A' n' c'] 43)).alloc (Obj.cells #[.int .i64 f, .slice A' n' c'] 29))).drew.heap[wr.heap.size + 1]? = some (Obj.cells #[.int .i64 f, .slice A' n' c'] 29) := hsz1 ▸ heap_alloc_new (wr.alloc (Obj.cells #[.int .i64 kd, .int .i64 f, .slice A' n' c'] 43)) (Obj.cells #[.int .i64 f, .slice A' n' c'] 29)
          have p0 : (((wr.alloc (Obj.cells #[.int .i64 kd, .int .i64 f, .slice A' n' c'] 43)).alloc (Obj.cells #[.int .i64 f, .slice A' n' c'] 29))).drew.cell? ⟨wr.heap.size + 1, 0, none⟩ = some (.int .i64 f) := blk_cell' hx2 0
          have p1 : (((wr.alloc (Obj.cells #[.int .i64 kd, .int .i64 f, .slice A' n' c'] 43)).alloc (Obj.cells #[.int .i64 f, .slice A' n' c'] 29))).drew.cell? ⟨wr.heap.size + 1, 1, none⟩ = some (.slice A' n' c') := blk_cell' hx2 1
          replace hsz1 := Aside0.mk hsz1
          replace hx2 := Aside0.mk hx2
          refine start_ (n := 7) (S := fun w' => w'.cell? ⟨wr.heap.size + 1, 0, none⟩ = some (.int .i64 f) ∧ w'.cell? ⟨wr.heap.size + 1, 1, none⟩ = some (.slice A' n' c')) (ds := [5]) #[false, false, false, false, false, false, false] (by kernel_rfl) rfl rfl ⟨p0, p1⟩ (fun hHeld => ?_)
          refine pure_ (i := 0) (N := some 52) (v := ?_) (a' := ?_) #[true, false, false, false, false, false, false] rfl rfl (by kernel_rfl) (fun _ _ _ h => h) (Or.inl ⟨by rfl, ?_⟩) ?_ ?_
          rotate_left
          · intro w'
            go_simp
            with_reducible rfl
          rotate_left
          · simp only [Act.put, List.setIfInBounds_toArray, List.set_cons_zero, List.set_cons_succ, i64_w, i32_w]
            rfl
          refine pure_ (i := 3) (N := some 55) (v := ?_) (a' := ?_) #[true, false, false, true, false, false, false] rfl rfl (by kernel_rfl) (fun _ _ _ h => h) (Or.inl ⟨by rfl, ?_⟩) ?_ ?_
          rotate_left
          · intro w'
            go_simp
            with_reducible rfl
          rotate_left
          · simp only [Act.put, List.setIfInBounds_toArray, List.set_cons_zero, List.set_cons_succ, i64_w, i32_w]
            rfl
          refine take_ (i := 1) (N := some 53) (v := ?_) (a' := ?_) #[true, true, false, true, false, false, false] rfl rfl (by kernel_rfl) (fun _ _ _ h => h) (Or.inl ⟨by rfl, ?_⟩) hHeld ?_ ?_
          rotate_left
          · rintro w' ⟨s0, s1⟩
            go_simp
            with_reducible rfl
          rotate_left
          · simp only [Act.put, List.setIfInBounds_toArray, List.set_cons_zero, List.set_cons_succ, i64_w, i32_w]
            rfl
          refine take_ (i := 4) (N := some 56) (v := ?_) (a' := ?_) #[true, true, false, true, true, false, false] rfl rfl (by kernel_rfl) (fun _ _ _ h => h) (Or.inl ⟨by rfl, ?_⟩) hHeld ?_ ?_
          rotate_left
          · rintro w' ⟨s0, s1⟩
            go_simp
            with_reducible rfl
          rotate_left
          · simp only [Act.put, List.setIfInBounds_toArray, List.set_cons_zero, List.set_cons_succ, i64_w, i32_w]
            rfl
          refine one_ (i := 2) (N := some 54) #[true, true, true, true, true, false, false] rfl rfl (by kernel_rfl) (by decide) (fun K hK => ?_)
          refine goes_ Try.func9 (by kernel_rfl) rfl #[.pointer (some ⟨B, 0, none⟩), .agg #[.int .i64 f, .slice A' n' c']] (by rfl) rfl rfl (by simp only [List.map_toArray, List.map_cons, List.map_nil]; rfl) ?_
          with_reducible refine (kp.out).mono ?_
          rintro e w3 ⟨rfl, hF3, hs3, kr⟩
          refine ⟨_, rfl, ?_⟩
          have hx3 := Aside0.mk (hBo1.out.made (w' := w3) (o := (Obj.cells #[.int .i64 f, .slice A' n' c'] 29)) hF3)
          rw [hsz1.out] at hx3
          replace kr := Aside0.mk kr
          refine hK.out _ _ ⟨blk_cell' hx3.out 0, blk_cell' hx3.out 1⟩ (fun hHeld => ?_)
          clear hK K
          refine norm_ (a' := ?_) ?_ ?_
          rotate_left
          · show Act.put _ (some 54) _ = _
            simp only [Act.put, List.setIfInBounds_toArray, List.set_cons_zero, List.set_cons_succ, i64_w, i32_w]
            rfl
          refine last_ (i := 5) (N := some 57) #[true, true, true, true, true, true, false] rfl rfl (by kernel_rfl) (by decide) (fun K hK => ?_)
          refine goes_ Try.func18 (by kernel_rfl) rfl #[.pointer (some ⟨Br, 0, none⟩), .agg #[.int .i64 f, .slice A' n' c']] (by rfl) rfl rfl (by simp only [List.map_toArray, List.map_cons, List.map_nil]; rfl) ?_
          with_reducible refine (kr.out).mono ?_
          rintro e w4 ⟨rfl, HB4, v4, rv4, f4, F4, hBo4⟩
          refine ⟨_, rfl, ?_⟩
          replace HB4 := Aside0.mk HB4
          replace hBo4 := Aside0.mk hBo4
          refine hK.out _ _ ?_
          clear hK K
          refine norm_ (a' := ?_) ?_ ?_
          rotate_left
          · show Act.put _ (some 57) _ = _
            simp only [Act.put, List.setIfInBounds_toArray, List.set_cons_zero, List.set_cons_succ, i64_w, i32_w]
            rfl
          refine pure_ (i := 6) (N := some 58) (v := ?_) (a' := ?_) #[true, true, true, true, true, true, true] rfl rfl (by kernel_rfl) (fun _ _ _ h => h) (Or.inl ⟨by rfl, ?_⟩) ?_ ?_
          rotate_left
          · intro w'
            go_simp
            with_reducible rfl
          rotate_left
          · simp only [Act.put, List.setIfInBounds_toArray, List.set_cons_zero, List.set_cons_succ, i64_w, i32_w]
            rfl
          refine done_ (by kernel_rfl) ?_
          go_wp2_with (first
            | (go_at_call 12; (with_reducible refine (bo_first hBo4.out).mono ?_); rintro e w' ⟨rfl, hw⟩; subst w')
            | (go_at_call 19; (with_reducible refine (bo_rfirst hBo4.out).mono ?_); rintro e w' ⟨rfl, hw⟩; subst w')
            | (go_at_call 11; (with_reducible refine (bo_last hBo4.out).mono ?_); rintro e w5 ⟨rfl, hd5⟩; have hBo5 := Aside0.mk (hBo4.out.below hd5.below); have HB5 := Aside0.mk (below_then HB4.out HB4.out.size hd5.below); clear hd5)
            | (go_at_call 20; (with_reducible refine (bo_rlast hBo5.out).mono ?_); rintro e w6 ⟨rfl, hd6⟩; have hBo6 := Aside0.mk (hBo5.out.below hd6.below); have HB6 := Aside0.mk (below_then HB5.out HB5.out.size hd6.below); clear hd6)
            | fail)
          go_roundw
          case rel => exact ⟨k + 1, B, S, by omega, by omega, by go_num, rfl, HB6, ⟨⟨_, _, _, _, hBo6.out⟩⟩⟩
          case measure => simp [intOf]; omega
    · rcases (by omega : ¬ ((k : Int) < (n : Int)) ∨ ((k : Int) < (n : Int) ∧ ¬ ((k : Int) < 80))) with z0 | ⟨z0, z1⟩
      all_goals
        clear hc
        obtain ⟨v, rv, f0, F, hBo⟩ := hBo.out
        obtain ⟨g, es, is, hes, kg, kr⟩ := bo_get hBo ask
        replace kg := Aside0.mk kg
        replace kr := Aside0.mk kr
        clear hBo
        go_wp2_with (first
          | (go_at_call 10; (with_reducible refine kg.out.mono ?_); rintro e w3 ⟨⟨A3, c3, rfl, hC3⟩, hb3⟩; replace hC3 := Aside0.mk hC3; replace hb3 := Aside0.mk hb3)
          | (go_at_call 21; go_loud (refine (kr.out _ (hb3.out.alloc hb3.out.size _)).mono ?_); rintro e w4 ⟨⟨A4, c4, rfl, hC4⟩, hb4⟩; have hx4 := (hb4.block w3.heap.size (by simp)).trans (heap_alloc_new w3 _); have q0 := blk_cell' hx4 0; have q1 := blk_cell' hx4 1; simp at q0 q1; have hlt := blk_lt' hx4; have hC3b := Kd.C_below hC3.out (below_then ((Below.refl w3.heap.size w3).alloc (Nat.le_refl _) (.cells #[.int .i64 g, .slice A3 es.length c3] 29)) (by simp) hb4); have kq := Aside0.mk (fun W (hW : Below w4.heap.size w4 W) => region_c g A3 A4 es.length c3 c4 es W (Kd.C_below hC3b hW) (Kd.C_below hC4 hW) (by omega)); have hB4 := Aside0.mk (below_then (below_then HB.out HB.out.size hb3.out |>.alloc (Nat.le_trans HB.out.size hb3.out.size) (.cells #[.int .i64 g, .slice A3 es.length c3] 29)) (by have := HB.out.size; have := hb3.out.size; simp; omega) hb4); clear hC3b hx4 hb4 hC4)
          | (go_at_call 22; go_loud (refine (kq.out _ ((Below.refl _ _).alloc (Nat.le_refl _) _)).mono ?_); rintro e w5 ⟨rfl, hb5⟩; have hB5 := Aside0.mk (below_then (hB4.out.alloc hB4.out.size (.cells #[.int .i64 g, .slice A4 es.length c4] 29)) (by have := hB4.out.size; simp; omega) hb5); clear hb5)
          | fail)
        go_ret
        exact ⟨by simp, hB5.out⟩
end Go.Proofs.Ytompkbganljbkaa.Rin
