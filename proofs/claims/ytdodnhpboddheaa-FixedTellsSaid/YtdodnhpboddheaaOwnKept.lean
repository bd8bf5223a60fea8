/- Contracts of jousthelp's Own, Kept, Plain and Same at int: a copy with room behind it is made, and a copy that is as it was is told to be so; for every list that is read. -/
import Derived.Test.YtdodnhpboddheaaPFixedTellsx1
import Derived.Outline
namespace Go.Proofs.Ytdodnhpboddheaa.OwnKept
open Go.RowKit Go.Proofs.Ytdodnhpboddheaa.PFixedTells Go.Proofs.YtdodnhpboddheaaW.PrintWords Go.Proofs.YtdodnhpboddheaaW.PrintLast Go.Proofs.YtdodnhpboddheaaW.PrintMore
set_option linter.unusedVariables false

theorem eq_c (x : Int) (w : World) : Calls Try.prog 29 #[.int .i64 x, .int .i64 x] w fun e w' => e = .returned (.bool true) ∧ w' = w := by
  go_enter Try.func29, Try.ntmps29
  go_wp2
  go_ret
  exact ⟨by simp, rfl⟩

/-- what leaves each world as it is, in a region behind draws -/
theorem quiet_any {P : Program} {f : FuncId} {args : Array Value} {w : World} {a n : Nat} {v : Value}
    (h : ∀ W : World, Calls P f args W fun e w' => e = .returned v ∧ w' = W) : Calls P f args (w.drewN (a + n)) fun e w'' => e = .returned v ∧ ∃ m, w'' = w.drewN (a + m) :=
  (h _).mono fun _ _ ⟨he, hm⟩ => ⟨he, n, hm⟩

set_option maxHeartbeats 800000 in
theorem same_c (A B : Option Addr) (n c d : Nat) (xs : List Int) (w : World) (hn : n ≤ maxLen) (HA : Kd.C (Kd.int .i64) w A n xs) (HB : Kd.C (Kd.int .i64) w B n xs) :
    Calls Try.prog 28 #[.slice A n c, .slice B n d, .func (.func 29) #[] #[]] w fun e w' => e = .returned (.bool true) ∧ Drawn0 w w' := by
  unfold maxLen at hn
  replace HA := Aside0.mk HA
  replace HB := Aside0.mk HB
  go_enter Try.func28, Try.ntmps28
  go_wp2_with fail
  go_loopw [7] (fun i wr => ∃ k : Nat, k ≤ n ∧ i = .int .i64 k ∧ Drawn0 w wr) (fun i _ => n - (intOf i).toNat)
  case atStart => exact ⟨0, Nat.zero_le _, rfl, Drawn0.refl _⟩
  case round =>
    obtain ⟨k, hk, rfl, ⟨q, rfl⟩⟩ := hrel
    by_cases hlt : k < n
    · obtain ⟨a1, e1, h1⟩ := Kd.at_int HA.out (k : Int) (by omega) (by omega)
      obtain ⟨a2, e2, h2⟩ := Kd.at_int HB.out (k : Int) (by omega) (by omega)
      rw [Int.toNat_natCast] at h1 h2
      subst e1
      subst e2
      have b0 : (0 : Int) ≤ (k : Int) := by omega
      have b1 : (k : Int) < (n : Int) := by omega
      go_wp2_with fail
      go_quiet ((go_at_call 29; exact quiet_any (eq_c _)))
      go_wp2_with fail
      go_roundw
      case rel => exact ⟨k + 1, by omega, by go_num, ⟨_, rfl⟩⟩
      case measure => simp [intOf]; omega
    · go_wp2_with fail
      go_ret
      exact ⟨rfl, ⟨_, rfl⟩⟩

set_option maxHeartbeats 800000 in
theorem plain_c (A B : Option Addr) (n c d : Nat) (xs : List Int) (w : World) (hn : n ≤ maxLen) (HA : Kd.C (Kd.int .i64) w A n xs) (HB : Kd.C (Kd.int .i64) w B n xs) :
    Calls Try.prog 27 #[.slice A n c, .slice B n d] w fun e w' => e = .returned (.bool true) ∧ Drawn0 w w' := by
  replace HA := Aside0.mk HA
  replace HB := Aside0.mk HB
  go_enter Try.func27, Try.ntmps27
  go_wp2_with (first | (go_at_call 28; (with_reducible refine (same_c A B n c d xs _ hn HA.out HB.out).mono ?_); rintro e w' ⟨rfl, ⟨q, rfl⟩⟩))
  go_ret
  exact ⟨rfl, ⟨_, rfl⟩⟩

/-- an append onto a row of the call's own that has room, its length 0: the row then begins with what was appended -/
theorem run_append_into {P : Program} (t ty e : TypeId) (i : TypeInfo) (ht : P.underlying t = some (.slice e)) (hi : P.info? e = some i) (hsz : i.size = 1)
    (W : World) (B n cap : Nat) (cur : Array Value) (hg : W.heap[B]? = some (.cells cur e (0, 0))) (hcs : cur.size = cap) (A : Option Addr) (c : Nat) (xs : List Value) (hl : xs.length = n)
    (hA : 0 < n → ∃ ad, A = some ad ∧ ∀ j u, xs[j]? = some u → W.cell? (ad.add j) = some u) (h1 : ∀ u ∈ xs, u.oneCell' = true) (hn : n ≤ cap) :
    ∃ W', (Builtin.append_ #[t, t] ty #[.slice (some ⟨B, 0, none⟩) 0 cap, .slice A n c]).run P W = .ok (.slice (some ⟨B, 0, none⟩) n cap) W' ∧
      W'.heap[B]? = some (.cells (xs ++ cur.toList.drop n).toArray e (0, 0)) ∧ W.grownBy W' (some B) := by
  have hgrow : ∀ cs, W.grownBy (W.setRow B cs) (some B) := fun cs => ⟨rfl, rfl, rfl, by simp, fun k _ hk => setRow_other W B k _ (fun e => hk (by simp [e]))⟩
  rcases A with _ | ad
  · have h0 : n = 0 := by
      rcases Nat.eq_zero_or_pos n with h | h
      · exact h
      · obtain ⟨_, h, _⟩ := hA h; cases h
    subst h0
    have hx : xs = [] := List.eq_nil_of_length_eq_zero hl
    subst hx
    refine ⟨W, ?_, by simpa using hg, World.grownBy.refl W _⟩
    simp [Builtin.append_, run_underlying ht, sizeOf, typeInfo, hi, Builtin.lenOf, Builtin.firstCells, storeCells]
  · have hn2 : ∀ j u, xs[j]? = some u → W.cell? (ad.add j) = some u := by
      intro j u hu
      have hj : j < n := by rw [← hl]; exact (List.getElem?_eq_some_iff.1 hu).1
      obtain ⟨ad', e', hc⟩ := hA (by omega)
      injection e' with e'
      subst e'
      exact hc j u hu
    have hr := run_append_room (P := P) W t ty e i ht hi B 0 cap cur hg ad n c xs (by rw [hsz, hl, Nat.mul_one]) hn2 h1 (by omega) (by rw [hsz, hl, hcs]; omega)
    refine ⟨_, by rw [hr, Nat.zero_add], ?_, hgrow _⟩
    rw [setRow_heap W B cur _ e _ hg]
    simp [hl]

theorem wpList_append_run {P : Program} {ops : Array Oper} {rest : List Oper} {o : Oper} {a : Act} {Q : Exit → Act → World → Prop} {w w' : World} {v vs vx : Value} (hgd : o.guard = none) (s x : Operand) (t : TypeId)
    (ho : o.op = .call { callee := .builtin .append, args := #[s, x], argTypes := #[t, t] }) (hs : a.eval s = vs) (hx : a.eval x = vx) (hrun : (Builtin.append_ #[t, t] o.type #[vs, vx]).run P w = .ok v w')
    (h : wpList P ops Q rest (a.put o.dst v) w') : wpList P ops Q (o :: rest) a w :=
  wpList_plain hgd fun K hK => by
    unfold Oper.wp execOp
    simp only [ho, resolve, invoke, builtin, Sem.run_bind, Sem.run_pure, Result.andThen_ok, List.map_toArray, List.map_cons, List.map_nil, hs, hx, hrun]
    exact hK _ _ h

/-- the copy: a row of n + 3 cells whose first k are those of ys -/
def Copy (w : World) (B n : Nat) (ys : List Int) (k : Nat) : Prop := ∃ cur : Array Value, w.heap[B]? = some (.cells cur 3 (0, 0)) ∧ cur.size = n + 3 ∧ ∀ j, j < k → cur[j]? = some (.int .i64 (ys.getD j 0))

theorem Copy.cell {w : World} {B n k : Nat} {ys : List Int} (h : Copy w B n ys k) {j : Nat} (hj : j < n + 3) : (∃ v, w.cell? ⟨B, j, none⟩ = some v) ∧ w.frozen? ⟨B, j, none⟩ = false := by
  obtain ⟨cur, hb, hs, _⟩ := h
  refine ⟨⟨cur[j]'(by omega), ?_⟩, by simp [World.frozen?, hb]⟩
  rw [cell_of_row w B j cur 3 (0, 0) hb]
  exact Array.getElem?_eq_getElem (by omega)
theorem Copy.read {w : World} {B n k : Nat} {ys : List Int} (h : Copy w B n ys k) {j : Nat} (hj : j < k) : w.cell? ⟨B, j, none⟩ = some (.int .i64 (ys.getD j 0)) := by
  obtain ⟨cur, hb, hs, hc⟩ := h
  rw [cell_of_row w B j cur 3 (0, 0) hb]
  exact hc j hj
theorem Copy.put {w : World} {B n k : Nat} {ys : List Int} (h : Copy w B n ys k) (hk : k < n + 3) (x : Int) (hx : ys.getD k 0 = x) : Copy (w.setCell ⟨B, k, none⟩ (.int .i64 x)) B n ys (k + 1) := by
  obtain ⟨cur, hb, hs, hc⟩ := h
  refine ⟨cur.setIfInBounds k (.int .i64 x), ?_, by simpa using hs, fun j hj => ?_⟩
  · simp [World.setCell, Array.getElem?_modify, hb]
  · rcases Nat.lt_or_ge j k with h2 | h2
    · rw [Array.getElem?_setIfInBounds_ne (by omega)]
      exact hc j h2
    · obtain rfl : j = k := by omega
      rw [Array.getElem?_setIfInBounds_self_of_lt (by omega), hx]
theorem Copy.below {w w' : World} {B n k : Nat} {ys : List Int} (h : Copy w B n ys k) (hb : Below w.heap.size w w') : Copy w' B n ys k := by
  obtain ⟨cur, hg, r⟩ := h
  exact ⟨cur, (hb.block B (Array.getElem?_eq_some_iff.1 hg).1).trans hg, r⟩
theorem Copy.reads {w : World} {B n : Nat} {l : List Int} {f : Int} (h : Copy w B n (l ++ [f, f, f]) (n + 3)) (hl : l.length = n) (hn : n ≤ 9223372036854775807) : Kd.C (Kd.int .i64) w (some ⟨B, 0, none⟩) n l := by
  refine Kd.C_of_reads (d := (0 : Int)) (h1 := fun _ => rfl) ⟨hl, hn, fun _ => ⟨_, rfl, fun j hj => ?_⟩⟩
  rw [add_plain, h.read (j := j) (by omega)]
  simp [List.getD_eq_getElem?_getD, List.getElem?_append_left (show j < l.length by omega)]

theorem own_c (A : Option Addr) (n c : Nat) (f : Int) (l : List Int) (w : World) (hn : n ≤ 100000) (HC : Kd.C (Kd.int .i64) w A n l) :
    Calls Try.prog 10 #[.slice A n c, .int .i64 f] w fun e w' => e = .returned (.slice (some ⟨w.heap.size, 0, none⟩) n (n + 3)) ∧ Copy w' w.heap.size n (l ++ [f, f, f]) (n + 3) ∧ Below w.heap.size w w' := by
  obtain ⟨i0, hi, hz0, hz1, hz2⟩ := info_parts info3
  have hl : l.length = n := HC.1
  have hread := Kd.reads_of_C (enc := Value.int .i64) (d := (0 : Int)) (h1 := fun _ => rfl) HC
  have hmk : ∀ W : World, (Instr.makeSlice 22 (.int .i64 0) (.int .i64 ((n : Int) + 3))).run Try.prog W = .ok (.slice (some ⟨W.heap.size, 0, none⟩) 0 (n + 3)) (W.alloc (.cells (madeCells #[.int .i64 0] (n + 3)) 3)) := by
    intro W
    have h := run_make (P := Try.prog) W 22 3 i0 (.int .i64 0) Try.underlying22 hi hz0 .i64 .i64 0 ((n : Int) + 3) (by omega) (by omega) (by rw [hz2]; omega) (by omega)
    have e : ((n : Int) + 3).toNat = n + 3 := by omega
    rw [e, hz1, Nat.mul_one] at h
    simpa [Value.cells] using h
  obtain ⟨w1, hw1⟩ : ∃ w1, w1 = w.alloc (.cells (madeCells #[.int .i64 0] (n + 3)) 3) := ⟨_, rfl⟩
  have hg1 : w1.heap[w.heap.size]? = some (.cells (madeCells #[.int .i64 0] (n + 3)) 3 (0, 0)) := by rw [hw1]; exact heap_alloc_new w _
  have hb1 : Below w.heap.size w w1 := by rw [hw1]; exact (Below.refl _ _).alloc (Nat.le_refl _) _
  obtain ⟨w2, hrun, hg2, hgr⟩ := run_append_into (P := Try.prog) 22 22 3 i0 Try.underlying22 hi hz1 w1 w.heap.size n (n + 3) _ hg1 (by simp [madeCells]) A c (encs (Value.int .i64) l) (by simp [encs, hl])
    (fun h0 => by
      obtain ⟨ad, e1, hc⟩ := hread.2.2 h0
      refine ⟨ad, e1, fun j u hu => ?_⟩
      have hj : j < n := by have := (List.getElem?_eq_some_iff.1 hu).1; rw [encs_length, hl] at this; exact this
      rw [encs_get (enc := Value.int .i64) (d := 0) l j (by omega)] at hu
      injection hu with hu
      rw [← hu]
      exact pw_cell_below hb1 (hc j hj))
    (by intro u hu; obtain ⟨x, _, rfl⟩ := List.mem_map.1 hu; rfl) (by omega)
  have hcopy : Copy w2 w.heap.size n (l ++ [f, f, f]) n := by
    refine ⟨_, hg2, ?_, fun j hj => ?_⟩
    · simp [madeCells, encs, hl]
    · rw [List.getElem?_toArray, List.getElem?_append_left (by rw [encs_length, hl]; exact hj), encs_get (enc := Value.int .i64) (d := 0) l j (by omega)]
      simp [List.getD_eq_getElem?_getD, List.getElem?_append_left (show j < l.length by omega)]
  have hb2 : Below w.heap.size w w2 := hb1.grown hgr hb1.size (fun k hk => by injection hk with hk; omega)
  rw [hw1] at hrun
  replace hcopy := Aside0.mk hcopy
  replace hb2 := Aside0.mk hb2
  clear hgr hg2 hg1 hb1 hread HC hw1 hi hz0 hz1 hz2
  replace hl := Aside0.mk hl
  replace hrun := Aside0.mk hrun
  go_enter Try.func10, Try.ntmps10
  go_wp2_with (first
    | ((with_reducible refine gate_dst (N := 14) rfl ?_); refine wpList_append_run rfl (.tmp 12) (.tmp 13) 22 rfl rfl rfl hrun.out ?_)
    | fail)
  obtain ⟨B, hB⟩ : ∃ B, B = w.heap.size := ⟨_, rfl⟩
  rw [← hB] at hcopy
  go_loopw [7] (fun i wr => ∃ k : Nat, n ≤ k ∧ k ≤ n + 3 ∧ i = .int .i64 k ∧ Aside0 (Copy wr w.heap.size n (l ++ [f, f, f]) k) ∧ Aside0 (Below w.heap.size w wr)) (fun i _ => n + 3 - (intOf i).toNat)
  case atStart => exact ⟨n, Nat.le_refl _, by omega, rfl, ⟨by rw [← hB]; exact hcopy.out⟩, hb2⟩
  case round =>
    obtain ⟨k, hk0, hk, rfl, hcp, hbl⟩ := hrel
    clear hcopy hb2 hB
    by_cases hlt : k < n + 3
    · obtain ⟨⟨v, hv⟩, hf⟩ := hcp.out.cell hlt
      have b0 : (0 : Int) ≤ (k : Int) := by omega
      have b1 : (k : Int) < (n : Int) + 3 := by omega
      go_wp2_with fail
      go_roundw
      case rel =>
        refine ⟨k + 1, by omega, by omega, by go_num, ⟨hcp.out.put hlt f ?_⟩, ⟨hbl.out.setCell (Nat.le_refl _) _⟩⟩
        rw [List.getD_eq_getElem?_getD, List.getElem?_append_right (by rw [hl.out]; omega), hl.out]
        match hm : k - n, (by omega : k - n < 3) with
        | 0, _ => rfl
        | 1, _ => rfl
        | 2, _ => rfl
      case measure => simp [intOf]; omega
    · go_wp2_with fail
      go_ret
      obtain rfl : k = n + 3 := by omega
      exact ⟨rfl, hcp.out, hbl.out⟩

set_option maxHeartbeats 800000 in
theorem kept_c (A : Option Addr) (B n d : Nat) (f : Int) (l : List Int) (w : World) (hn : n ≤ 100000) (HC : Kd.C (Kd.int .i64) w A n l) (HB : Copy w B n (l ++ [f, f, f]) (n + 3)) :
    Calls Try.prog 23 #[.slice (some ⟨B, 0, none⟩) n (n + 3), .slice A n d, .int .i64 f] w fun e w' => e = .returned (.bool true) ∧ Drawn0 w w' := by
  have hl : l.length = n := HC.1
  replace hl := Aside0.mk hl
  have HR := HB.reads hl.out (by omega)
  replace HR := Aside0.mk HR
  replace HC := Aside0.mk HC
  replace HB := Aside0.mk HB
  have hm : n ≤ maxLen := by unfold maxLen; omega
  go_enter Try.func23, Try.ntmps23
  go_wp2_with (first | (go_at_call 27; (with_reducible refine (plain_c (some ⟨B, 0, none⟩) A n (n + 3) d l _ hm HR.out HC.out).mono ?_); rintro e w' ⟨rfl, ⟨q, rfl⟩⟩))
  go_loopw [8] (fun i wr => ∃ k : Nat, n ≤ k ∧ k ≤ n + 3 ∧ i = .int .i64 k ∧ Drawn0 w wr) (fun i _ => n + 3 - (intOf i).toNat)
  case atStart => exact ⟨n, Nat.le_refl _, by omega, rfl, ⟨_, rfl⟩⟩
  case round =>
    obtain ⟨k, hk0, hk, rfl, ⟨q2, rfl⟩⟩ := hrel
    by_cases hlt : k < n + 3
    · have hc := HB.out.read hlt
      rw [List.getD_eq_getElem?_getD, List.getElem?_append_right (by rw [hl.out]; omega), hl.out] at hc
      have he : ([f, f, f] : List Int)[k - n]?.getD 0 = f := by
        match hm : k - n, (by omega : k - n < 3) with
        | 0, _ => rfl
        | 1, _ => rfl
        | 2, _ => rfl
      rw [he] at hc
      clear he
      have b0 : (0 : Int) ≤ (k : Int) := by omega
      have b1 : (k : Int) < (n : Int) + 3 := by omega
      go_wp2_with fail
      go_roundw
      case rel => exact ⟨k + 1, by omega, by omega, by go_num, ⟨_, rfl⟩⟩
      case measure => simp [intOf]; omega
    · go_wp2_with fail
      go_ret
      exact ⟨rfl, ⟨_, rfl⟩⟩
end Go.Proofs.Ytdodnhpboddheaa.OwnKept
