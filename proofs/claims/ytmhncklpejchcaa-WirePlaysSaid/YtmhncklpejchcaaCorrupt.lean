/- The contract of Corrupt. -/
import Derived.Test.YtmhncklpejchcaaTake
namespace Go.Proofs.Ytmhncklpejchcaa.Wir
open Go Go.RowKit Go.Proofs.Ytmhncklpejchcaa.PWirePlays Go.Proofs.YtmhncklpejchcaaW.PrintWords Go.Proofs.YtmhncklpejchcaaW.PrintLast Go.Proofs.YtmhncklpejchcaaW.PrintMore
set_option linter.unusedVariables false
set_option linter.unusedSimpArgs false
set_option maxRecDepth 100000 in
set_option maxHeartbeats 4000000 in
theorem corruptArg_c (i : Nat) (a by_ : Int) (B base : Nat) (v : Value) (L : List (List Int)) (w : World) (h : Wi w B base v L) (hi : i < L.length) (ha : a < 0 ∨ (L[i].length : Int) ≤ a) :
    Calls Try.prog 10 #[.pointer (some ⟨B, 0, none⟩), .int .i64 (i : Int), .int .i64 a, .int .u8 by_] w fun e w' => e = .returned (.int .i64 1) ∧ Below w.heap.size w w' := by
  have ka := atIn_c i B base v L w h hi
  obtain ⟨A, c, rfl, hl, hC⟩ := h.slice
  obtain ⟨ad, A1, c1, e1, hx, hx1, hx2⟩ := at_L1 hC (i : Int) (by omega) (by omega)
  rw [Int.toNat_natCast] at hx
  subst e1
  obtain ⟨g, rfl⟩ := R_home h.row
  rw [Addr.add_lit, Nat.zero_add] at hx
  rw [getAt L i hi] at hx hx1 hx2
  generalize L[i] = xs at *
  have q0 := blk_cell' h.box 0
  simp at q0
  have hz : (0 : Int) ≤ (i : Int) := by omega
  have hz2 : (i : Int) < (L.length : Int) := by omega
  replace h := Aside0.mk h
  replace ka := Aside0.mk ka
  clear hx2 hC
  rcases (by omega : a < 0 ∨ (0 ≤ a ∧ (xs.length : Int) ≤ a)) with h0 | ⟨h0, h1⟩
  · clear ha
    go_enter Try.func10, Try.ntmps10
    go_wp2_with (first
      | (go_at_call 18; (with_reducible refine ka.out.mono ?_); rintro e w' ⟨rfl, hw⟩; subst w')
      | fail)
    all_goals (try go_ret)
    all_goals exact ⟨rfl, Below.refl _ _⟩
  · clear ha
    go_enter Try.func10, Try.ntmps10
    go_wp2_with (first
      | (go_at_call 18; (with_reducible refine ka.out.mono ?_); rintro e w' ⟨rfl, hw⟩; subst w')
      | fail)
    all_goals (try go_ret)
    all_goals exact ⟨rfl, Below.refl _ _⟩
set_option maxRecDepth 100000 in
set_option maxHeartbeats 4000000 in
theorem corrupt_c (i a : Nat) (by_ : Int) (B base : Nat) (v : Value) (L : List (List Int)) (w0 w : World) (h : Wi w B base v L) (HB : Below base w0 w) (hbase : base ≤ w.heap.size) (hi : i < L.length) (ha : a < L[i].length) (hL : L.length ≤ 100000) (hs : L[i].length ≤ 140737488351232) :
    Calls Try.prog 10 #[.pointer (some ⟨B, 0, none⟩), .int .i64 (i : Int), .int .i64 (a : Int), .int .u8 by_] w fun e w' => e = .returned (.int .i64 0) ∧ (∃ v', Wi w' B base v' (L.set i (L[i].set a (bits BinOp.xor IntKind.u8 L[i][a] by_))) ∧ v'.ownBlock = v.ownBlock) ∧ Below base w0 w' ∧ Fr w w' B v ∧ w.heap.size ≤ w'.heap.size := by
  have ka := atIn_c i B base v L w h hi
  obtain ⟨A, c, rfl, hl, hC⟩ := h.slice
  obtain ⟨ad, A1, c1, e1, hx, hx1, hx2⟩ := at_L1 hC (i : Int) (by omega) (by omega)
  rw [Int.toNat_natCast] at hx
  subst e1
  obtain ⟨g, rfl⟩ := R_home h.row
  rw [Addr.add_lit, Nat.zero_add] at hx
  rw [getAt L i hi] at hx hx1 hx2
  generalize L[i] = xs at *
  have q0 := blk_cell' h.box 0
  simp at q0
  have hz : (0 : Int) ≤ (i : Int) := by omega
  have hz2 : (i : Int) < (L.length : Int) := by omega
  have hz3 : (0 : Int) ≤ (a : Int) := by omega
  have hz4 : (a : Int) < (xs.length : Int) := by omega
  replace h := Aside0.mk h
  replace ka := Aside0.mk ka
  replace HB := Aside0.mk HB
  replace hx2 : Aside0 (Kd.C kb w A1 xs.length xs) := ⟨hx2⟩
  replace hs := Aside0.mk hs
  clear hC
  go_enter Try.func10, Try.ntmps10
  go_wp2_with (first
    | (go_at_call 18; (with_reducible refine ka.out.mono ?_); rintro e w' ⟨rfl, hw⟩; subst w')
    | fail)
  have hgl : g < w.heap.size := ((Kd.R_bound h.out.row).1 g rfl).2.2.1
  have hneB : Aside0 (B ≠ g) := ⟨fun e => h.out.ne (by rw [e]; rfl)⟩
  have kS : Aside0 (∀ w', Below w.heap.size w w' → w'.cell? ⟨B, 0, none⟩ = some (.slice (some ⟨g, 0, none⟩) L.length c) ∧ w'.cell? ⟨g, i, none⟩ = some (.slice A1 xs.length c1) ∧ Aside0 (Below w.heap.size w w')) := ⟨fun w' hb => ⟨(World.cell?_of_block (hb.block B (blk_lt' h.out.box))).trans q0, (World.cell?_of_block (hb.block g hgl)).trans hx, ⟨hb⟩⟩⟩
  have kF : Aside0 (∀ w', Below w.heap.size w w' → ∃ cells, w'.heap[g]? = some (.cells cells 27 (0, 0))) := ⟨fun w' hb => by
    obtain ⟨_, inner, hown, _⟩ := Kd.R_below h.out.row hb
    rcases hown.2 with ⟨hv, _⟩ | ⟨g', cap', cur, hv, hb, hh, _⟩
    · cases hv
    · injection hv with ha _ _
      injection ha with ha
      injection ha with ha
      subst ha
      exact ⟨cur, hh⟩⟩
  refine start_ (n := 15) (S := fun w' => w'.cell? ⟨B, 0, none⟩ = some (.slice (some ⟨g, 0, none⟩) L.length c) ∧ w'.cell? ⟨g, i, none⟩ = some (.slice A1 xs.length c1) ∧ Aside0 (Below w.heap.size w w')) (ds := [14]) #[false, false, false, false, false, false, false, false, false, false, false, false, false, false, false] (by kernel_rfl) rfl rfl ⟨(kS.out _ (below_drew (Below.refl _ _))).1, (kS.out _ (below_drew (Below.refl _ _))).2.1, (kS.out _ (below_drew (Below.refl _ _))).2.2⟩ (fun hHeld => ?_)
  refine pure_ (i := 0) (N := some 30) (v := ?_) (a' := ?_) #[true, false, false, false, false, false, false, false, false, false, false, false, false, false, false] rfl rfl (by kernel_rfl) (fun _ _ _ h => h) (Or.inl ⟨by rfl, ?_⟩) ?_ ?_
  rotate_left
  · intro w'
    go_simp
    with_reducible rfl
  rotate_left
  · simp only [Act.put, List.setIfInBounds_toArray, List.set_cons_zero, List.set_cons_succ, i64_w, i32_w]
    rfl
  refine pure_ (i := 1) (N := some 31) (v := ?_) (a' := ?_) #[true, true, false, false, false, false, false, false, false, false, false, false, false, false, false] rfl rfl (by kernel_rfl) (fun _ _ _ h => h) (Or.inl ⟨by rfl, ?_⟩) ?_ ?_
  rotate_left
  · intro w'
    go_simp
    with_reducible rfl
  rotate_left
  · simp only [Act.put, List.setIfInBounds_toArray, List.set_cons_zero, List.set_cons_succ, i64_w, i32_w]
    rfl
  refine pure_ (i := 2) (N := some 32) (v := ?_) (a' := ?_) #[true, true, true, false, false, false, false, false, false, false, false, false, false, false, false] rfl rfl (by kernel_rfl) (fun _ _ _ h => h) (Or.inl ⟨by rfl, ?_⟩) ?_ ?_
  rotate_left
  · intro w'
    go_simp
    with_reducible rfl
  rotate_left
  · simp only [Act.put, List.setIfInBounds_toArray, List.set_cons_zero, List.set_cons_succ, i64_w, i32_w]
    rfl
  refine pure_ (i := 4) (N := some 34) (v := ?_) (a' := ?_) #[true, true, true, false, true, false, false, false, false, false, false, false, false, false, false] rfl rfl (by kernel_rfl) (fun _ _ _ h => h) (Or.inl ⟨by rfl, ?_⟩) ?_ ?_
  rotate_left
  · intro w'
    go_simp
    with_reducible rfl
  rotate_left
  · simp only [Act.put, List.setIfInBounds_toArray, List.set_cons_zero, List.set_cons_succ, i64_w, i32_w]
    rfl
  refine pure_ (i := 5) (N := some 35) (v := ?_) (a' := ?_) #[true, true, true, false, true, true, false, false, false, false, false, false, false, false, false] rfl rfl (by kernel_rfl) (fun _ _ _ h => h) (Or.inl ⟨by rfl, ?_⟩) ?_ ?_
  rotate_left
  · intro w'
    go_simp
    with_reducible rfl
  rotate_left
  · simp only [Act.put, List.setIfInBounds_toArray, List.set_cons_zero, List.set_cons_succ, i64_w, i32_w]
    rfl
  refine pure_ (i := 6) (N := some 36) (v := ?_) (a' := ?_) #[true, true, true, false, true, true, true, false, false, false, false, false, false, false, false] rfl rfl (by kernel_rfl) (fun _ _ _ h => h) (Or.inl ⟨by rfl, ?_⟩) ?_ ?_
  rotate_left
  · intro w'
    go_simp
    with_reducible rfl
  rotate_left
  · simp only [Act.put, List.setIfInBounds_toArray, List.set_cons_zero, List.set_cons_succ, i64_w, i32_w]
    rfl
  refine pure_ (i := 7) (N := some 37) (v := ?_) (a' := ?_) #[true, true, true, false, true, true, true, true, false, false, false, false, false, false, false] rfl rfl (by kernel_rfl) (fun _ _ _ h => h) (Or.inl ⟨by rfl, ?_⟩) ?_ ?_
  rotate_left
  · intro w'
    go_simp
    with_reducible rfl
  rotate_left
  · simp only [Act.put, List.setIfInBounds_toArray, List.set_cons_zero, List.set_cons_succ, i64_w, i32_w]
    rfl
  refine pure_ (i := 9) (N := some 39) (v := ?_) (a' := ?_) #[true, true, true, false, true, true, true, true, false, true, false, false, false, false, false] rfl rfl (by kernel_rfl) (fun _ _ _ h => h) (Or.inl ⟨by rfl, ?_⟩) ?_ ?_
  rotate_left
  · intro w'
    go_simp
    with_reducible rfl
  rotate_left
  · simp only [Act.put, List.setIfInBounds_toArray, List.set_cons_zero, List.set_cons_succ, i64_w, i32_w]
    rfl
  refine take_ (i := 3) (N := some 33) (v := ?_) (a' := ?_) #[true, true, true, true, true, true, true, true, false, true, false, false, false, false, false] rfl rfl (by kernel_rfl) (fun _ _ _ h => h) (Or.inl ⟨by rfl, ?_⟩) hHeld ?_ ?_
  rotate_left
  · rintro w' ⟨s0, s1, s2⟩
    go_simp
    with_reducible rfl
  rotate_left
  · simp only [Act.put, List.setIfInBounds_toArray, List.set_cons_zero, List.set_cons_succ, i64_w, i32_w]
    rfl
  refine take_ (i := 8) (N := some 38) (v := ?_) (a' := ?_) #[true, true, true, true, true, true, true, true, true, true, false, false, false, false, false] rfl rfl (by kernel_rfl) (fun _ _ _ h => h) (Or.inl ⟨by rfl, ?_⟩) hHeld ?_ ?_
  rotate_left
  · rintro w' ⟨s0, s1, s2⟩
    go_simp
    with_reducible rfl
  rotate_left
  · simp only [Act.put, List.setIfInBounds_toArray, List.set_cons_zero, List.set_cons_succ, i64_w, i32_w]
    rfl
  refine pure_ (i := 10) (N := some 40) (v := ?_) (a' := ?_) #[true, true, true, true, true, true, true, true, true, true, true, false, false, false, false] rfl rfl (by kernel_rfl) (fun _ _ _ h => h) (Or.inl ⟨by rfl, ?_⟩) ?_ ?_
  rotate_left
  · intro w'
    go_simp
    with_reducible rfl
  rotate_left
  · simp only [Act.put, List.setIfInBounds_toArray, List.set_cons_zero, List.set_cons_succ, i64_w, i32_w]
    rfl
  refine take_ (i := 11) (N := some 41) (v := ?_) (a' := ?_) #[true, true, true, true, true, true, true, true, true, true, true, true, false, false, false] rfl rfl (by kernel_rfl) (fun _ _ _ h => h) (Or.inl ⟨by rfl, ?_⟩) hHeld ?_ ?_
  rotate_left
  · rintro w' ⟨s0, s1, s2⟩
    go_simp
    with_reducible rfl
  rotate_left
  · simp only [Act.put, List.setIfInBounds_toArray, List.set_cons_zero, List.set_cons_succ, i64_w, i32_w]
    rfl
  refine one_ (i := 12) (N := some 42) #[true, true, true, true, true, true, true, true, true, true, true, true, true, false, false] rfl rfl (by kernel_rfl) (by decide) (fun K hK => ?_)
  have HB_ := hHeld.2.2.out
  refine goes_ Try.func17 (by kernel_rfl) rfl #[.slice A1 xs.length c1] (by rfl) rfl rfl (by simp only [List.map_toArray, List.map_cons, List.map_nil]; rfl) ?_
  with_reducible refine (clone_c A1 xs.length c1 xs _ (Kd.C_below hx2.out HB_) hs.out).mono ?_
  rintro e w3 ⟨⟨A', c', rfl, hR⟩, hbb⟩
  refine ⟨_, rfl, ?_⟩
  have hR3 : Aside0 (Kd.R kb 5 w3 w.heap.size (fun _ => True) (.slice A' xs.length c') xs) := ⟨Kd.R_lower hR HB_.size⟩
  have hB3 := Aside0.mk (below_then HB_ HB_.size hbb)
  refine hK.out _ _ ⟨(kS.out _ hB3.out).1, (kS.out _ hB3.out).2.1, (kS.out _ hB3.out).2.2⟩ (fun hHeld => ?_)
  clear hK K
  refine norm_ (a' := ?_) ?_ ?_
  rotate_left
  · show Act.put _ (some 42) _ = _
    simp only [Act.put, List.setIfInBounds_toArray, List.set_cons_zero, List.set_cons_succ, i64_w, i32_w]
    rfl
  refine pure_ (i := 13) (N := some 43) (v := ?_) (a' := ?_) #[true, true, true, true, true, true, true, true, true, true, true, true, true, true, false] rfl rfl (by kernel_rfl) (fun _ _ _ h => h) (Or.inl ⟨by rfl, ?_⟩) ?_ ?_
  rotate_left
  · intro w'
    go_simp
    with_reducible rfl
  rotate_left
  · simp only [Act.put, List.setIfInBounds_toArray, List.set_cons_zero, List.set_cons_succ, i64_w, i32_w]
    rfl
  refine last_ (i := 14) (N := none) #[true, true, true, true, true, true, true, true, true, true, true, true, true, true, true] rfl rfl (by kernel_rfl) (by decide) (fun K hK => ?_)
  have q3 := (kS.out _ hB3.out).2.1
  have f3 : w3.frozen? ⟨g, i, none⟩ = false := (by obtain ⟨cells, hc⟩ := kF.out _ hB3.out; simp [World.frozen?, hc])
  refine skip_ (w1 := ?_) (by rfl) rfl ?_ ?_
  rotate_left
  · go_simp
    rfl
  refine hK.out _ _ ?_
  clear hK K
  refine done_ (by kernel_rfl) ?_
  have hx0 : 0 < xs.length := by omega
  obtain ⟨g', rfl⟩ : ∃ g', A' = some ⟨g', 0, none⟩ := by
    obtain ⟨ad, he, _⟩ := (Kd.R_reads' hR3.out).2.2.2.2 hx0
    subst he
    obtain ⟨g', rfl⟩ := R_home hR3.out
    exact ⟨g', rfl⟩
  have hg' : w.heap.size ≤ g' ∧ g' < w3.heap.size := ⟨((Kd.R_bound hR3.out).1 g' rfl).2.1, ((Kd.R_bound hR3.out).1 g' rfl).2.2.1⟩
  have hgg : g ≠ g' := by omega
  have hBg : B ≠ g' := by
    have := blk_lt' h.out.box
    omega
  obtain ⟨p1, p2⟩ := Kd.R_celln (h1 := fun _ => rfl) (0 : Int) hR3.out (a : Int) (by omega) (by omega)
  rw [Int.toNat_natCast] at p1 p2
  obtain ⟨cellsg, hcg⟩ := kF.out _ hB3.out
  have hx3 := (hB3.out.block B (blk_lt' h.out.box)).trans h.out.box
  have n0 : (w3.setCell ⟨g, i, none⟩ (.slice (some ⟨g', 0, none⟩) xs.length c')).cell? ⟨B, 0, none⟩ = some (.slice (some ⟨g, 0, none⟩) L.length c) := (World.cell?_of_block (Below.heap_setCell w3 ⟨g, i, none⟩ _ B hneB.out)).trans (blk_cell' hx3 0)
  have n1 : (w3.setCell ⟨g, i, none⟩ (.slice (some ⟨g', 0, none⟩) xs.length c')).cell? ⟨g, i, none⟩ = some (.slice (some ⟨g', 0, none⟩) xs.length c') := by
    have h1 := (kS.out _ hB3.out).2.1
    rw [blk_cell' hcg] at h1
    have hsz : i < cellsg.size := (Array.getElem?_eq_some_iff.1 h1).1
    rw [blk_cell' (blk_set hcg i _)]
    simp [hsz]
  have n2 : (w3.setCell ⟨g, i, none⟩ (.slice (some ⟨g', 0, none⟩) xs.length c')).cell? ⟨g', a, none⟩ = some (.int .u8 (rdOf 0 xs (a : Int))) := (World.cell?_of_block (Below.heap_setCell w3 ⟨g, i, none⟩ _ g' hgg.symm)).trans p1
  have n3 : (w3.setCell ⟨g, i, none⟩ (.slice (some ⟨g', 0, none⟩) xs.length c')).frozen? ⟨g', a, none⟩ = false := (World.frozen?_of_block (Below.heap_setCell w3 ⟨g, i, none⟩ _ g' hgg.symm)).trans p2
  have hrx : rdOf 0 xs (a : Int) = xs[a] := by simp [rdOf, List.getD_eq_getElem?_getD, List.getElem?_eq_getElem ha]
  rw [hrx] at n2
  generalize hw5 : w3.setCell ⟨g, i, none⟩ (.slice (some ⟨g', 0, none⟩) xs.length c') = w5 at *
  replace hw5 := Aside0.mk hw5
  generalize hxa : xs[a] = xa at *
  replace hxa := Aside0.mk hxa
  clear p1 p2 hHeld q3 f3 q0 hx
  replace hx3 := Aside0.mk hx3
  replace hcg := Aside0.mk hcg
  go_wp2_with fail
  go_ret
  generalize hz6 : bits BinOp.xor IntKind.u8 xa by_ = z
  have hbg' : base ≤ g' := Nat.le_trans hbase hg'.1
  have hbg : base ≤ g := ((Kd.R_bound h.out.row).1 g rfl).2.1
  have hA := (Kd.R_putn (h1 := fun _ => rfl) hR3.out (a : Int) z)
  rw [Int.toNat_natCast] at hA
  have hL3 : Kd.R kbs 27 (w3.setCell ⟨g', a, none⟩ (.int .u8 z)) base (fun k => k < w.heap.size) (.slice (some ⟨g, 0, none⟩) L.length c) L :=
    Kd.R_far (Kd.R_mono (Kd.R_step (Kd.R_bound h.out.row) (fun k hk hlt => hB3.out.block k hlt)) (fun k hk => hk.2.2.1)) (p := ⟨g', a, none⟩) (fun k hk e => by
      have h2 : k = g' := e
      omega) _
  have hcA : (w3.setCell ⟨g', a, none⟩ (.int .u8 z)).cell? ⟨g, i, none⟩ = some (.slice A1 xs.length c1) := (World.cell?_of_block (Below.heap_setCell w3 ⟨g', a, none⟩ _ g hgg)).trans (kS.out _ hB3.out).2.1
  have hsg := Kd.R_seg (Kd.R_mono hL3 (fun _ _ => trivial) : Kd.R kbs 27 _ base (fun _ => True) _ _) (i : Int) (by omega) (by omega) (c := [.slice A1 xs.length c1]) (seg := [.slice (some ⟨g', 0, none⟩) xs.length c']) (j := 0) rfl (fun j u hj => by
    cases j with
    | zero =>
      simp at hj
      subst hj
      rw [Int.toNat_natCast]
      show World.cell? _ ⟨g, i * 1 + 0, none⟩ = _
      rw [Nat.mul_one, Nat.add_zero]
      exact hcA
    | succ j => simp at hj) (by show 0 + 1 ≤ 1; omega) (x' := xs.set a z) (okp := fun k => k ≠ g) ⟨_, rfl, (by
      rw [show (.slice (some ⟨g', 0, none⟩) xs.length c' : Value) = .slice (some ⟨g', 0, none⟩) xs.length c' from rfl]
      exact Kd.R_mono (Kd.R_lower (Kd.R_bound hA) hbase) (fun k hk => by have := hk.2.1; omega))⟩ (fun k hk => ⟨trivial, hk⟩)
  obtain ⟨hRX, _⟩ := hsg
  rw [Int.toNat_natCast] at hRX
  have hRX2 : Kd.R kbs 27 ((w3.setCell ⟨g', a, none⟩ (.int .u8 z)).setCell ⟨g, i, none⟩ (.slice (some ⟨g', 0, none⟩) xs.length c')) base (fun _ => True) (.slice (some ⟨g, 0, none⟩) L.length c) (L.set i (xs.set a z)) := by
    have e : i * kbs.sz + 0 = i := by show i * 1 + 0 = i; omega
    rw [e] at hRX
    exact hRX
  obtain ⟨cg', hcg'⟩ : ∃ cells, w3.heap[g']? = some (.cells cells 5 (0, 0)) := by
    obtain ⟨_, _, _, q, hq, cells, hc⟩ := (Kd.R_bound hR3.out).1 g' rfl
    have hq5 : q = 5 := by simpa [kb, Kd.int, Kd.scalar] using hq
    subst hq5
    exact ⟨cells, hc⟩
  have hcomm : ∀ k : Nat, (w5.setCell ⟨g', a, none⟩ (.int .u8 z)).heap[k]? = ((w3.setCell ⟨g', a, none⟩ (.int .u8 z)).setCell ⟨g, i, none⟩ (.slice (some ⟨g', 0, none⟩) xs.length c')).heap[k]? := fun k => by
    rw [← hw5.out]
    by_cases h1 : k = g
    · subst h1
      rw [blk_far (blk_set hcg.out i _) (p := ⟨g', a, none⟩) hgg, blk_set (blk_far hcg.out (p := ⟨g', a, none⟩) hgg _) i]
    · by_cases h2 : k = g'
      · subst h2
        rw [blk_set (blk_far hcg' (p := ⟨g, i, none⟩) hgg.symm _) a, blk_far (blk_set hcg' a _) (p := ⟨g, i, none⟩) hgg.symm]
      · rw [Below.heap_setCell _ ⟨g', a, none⟩ _ k h2, Below.heap_setCell _ ⟨g, i, none⟩ _ k h1, Below.heap_setCell _ ⟨g, i, none⟩ _ k h1, Below.heap_setCell _ ⟨g', a, none⟩ _ k h2]
  have hs6 : (w5.setCell ⟨g', a, none⟩ (.int .u8 z)).heap.size = w3.heap.size := by
    rw [← hw5.out]
    simp [World.setCell]
  have hBf : Below base w0 (w5.setCell ⟨g', a, none⟩ (.int .u8 z)) := by
    rw [← hw5.out]
    exact ((below_then HB.out hbase hB3.out).setCell (p := ⟨g, i, none⟩) hbg _).setCell (p := ⟨g', a, none⟩) hbg' _
  rw [hxa.out, hz6]
  refine ⟨rfl, ⟨_, ⟨?_, Kd.R_move hRX2 (fun k _ => hcomm k), h.out.hb⟩, rfl⟩, hBf, fun b hb1 hb2 hb3 => ?_, ?_⟩
  · rw [hcomm B, Below.heap_setCell _ ⟨g, i, none⟩ _ B hneB.out, Below.heap_setCell _ ⟨g', a, none⟩ _ B hBg]
    exact hx3.out
  · have hbg1 : b ≠ g := fun e => hb3 (by rw [e]; rfl)
    rw [hcomm b, Below.heap_setCell _ ⟨g, i, none⟩ _ b hbg1, Below.heap_setCell _ ⟨g', a, none⟩ _ b (by show b ≠ g'; omega)]
    exact hB3.out.block b hb1
  · rw [hs6]
    exact hB3.out.size
end Go.Proofs.Ytmhncklpejchcaa.Wir
