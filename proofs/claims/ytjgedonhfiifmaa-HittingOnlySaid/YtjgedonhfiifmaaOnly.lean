/- The walk through HittingOnly: it returns true and what lay in memory stays; for every two lists that are read. -/
import Derived.Test.YtjgedonhfiifmaaEq25
namespace Go.Proofs.Ytjgedonhfiifmaa.Hit
open Go.RowKit Go.Proofs.Ytjgedonhfiifmaa.PHittingOnly Go.Proofs.YtjgedonhfiifmaaW.PrintWords Go.Proofs.YtjgedonhfiifmaaW.PrintLast Go.Proofs.YtjgedonhfiifmaaW.PrintMore
set_option linter.unusedVariables false

theorem past1 {w : World} {p : Addr} {v : Value} (h : w.cell? p = some v) : ∀ o : Obj, (w.alloc o).cell? p = some v := fun o => pw_cell_below ((Below.refl w.heap.size w).alloc (Nat.le_refl _) o) h
theorem past3 {w : World} {p : Addr} {v : Value} (h : w.cell? p = some v) : ∀ (o o' : Obj), ((w.alloc o).alloc o').cell? p = some v := fun o o' =>
  pw_cell_below (((Below.refl w.heap.size w).alloc (Nat.le_refl _) o).alloc (by simp) o') h

set_option maxRecDepth 100000 in
set_option maxHeartbeats 8000000 in
theorem only_walk (A B : Option Addr) (n c m d : Nat) (l : List S25) (g : Nat → Nat → Int) (w : World) (HC : Kd.C k25 w A n l) (HD : CR w B m g) (hn : n ≤ maxLen) (hm : m ≤ maxLen) :
    Calls Try.prog 6 #[.slice A n c, .slice B m d] w fun e w' => e = .returned (.bool true) ∧ Below w.heap.size w w' := by
  unfold maxLen at hn hm
  by_cases hbig : n ≤ 40 ∧ m ≤ 40
  · obtain ⟨hn4, hm4⟩ := hbig
    have hl : l.length = n := HC.1
    have k7 := Aside0.mk (shots_c A n c l w HC (by omega))
    have k10 := Aside0.mk (fun (A' : Option Addr) (c' : Nat) (W : World) (h : Kd.C k25 W A' (shotF l).length (shotF l)) => gems_c A' (shotF l).length c' (shotF l) W h (by have := (keep_shot l).le; omega))
    have k11 := Aside0.mk (fun (A' : Option Addr) (c' : Nat) (W : World) (h : Kd.C k25 W A' (gemF (shotF l)).length (gemF (shotF l))) (hd : CR W B m g) => blasts_c A' B (gemF (shotF l)).length c' m d (gemF (shotF l)) g W h (by have := (keep_shot l).le; have := (keep_gem (shotF l)).le; omega) hd (by omega))
    have hKeep := keep_all g l m
    have hKl := hKeep.le
    have hbl := blastsF_length g (gemF (shotF l)) m
    generalize blastsF g (gemF (shotF l)) m = X at *
    generalize gemF (shotF l) = Y at *
    generalize shotF l = Z at *
    replace hKeep := Aside0.mk hKeep
    have i1 : (n : Int) ≤ 40 := by omega
    have i2 : (m : Int) ≤ 40 := by omega
    replace HC := Aside0.mk HC
    replace HD := Aside0.mk HD
    have hXn : X.length ≤ 40 := by omega
    replace hl := Aside0.mk hl
    go_enter Try.func6, Try.ntmps6
    go_wp2_with (first
      | (go_at_call 7; (with_reducible refine k7.out.mono ?_); rintro e w1 ⟨⟨A1, n1, c1, rfl, h1⟩, hb1⟩; obtain ⟨hn1, -, hC1⟩ := Kd.R_reads' h1; subst hn1; clear h1; have h1 := Aside0.mk hC1; clear hC1; have HB := Aside0.mk hb1; clear hb1)
      | (go_at_call 10; (with_reducible refine (k10.out _ _ _ h1.out).mono ?_); rintro e w2 ⟨⟨A2, n2, c2, rfl, h2⟩, hb2⟩; obtain ⟨hn2, -, hC2⟩ := Kd.R_reads' h2; subst hn2; clear h2; have h2 := Aside0.mk hC2; clear hC2; replace HB := Aside0.mk (below_then HB.out HB.out.size hb2); clear hb2)
      | (go_at_call 11; (with_reducible refine (k11.out _ _ _ h2.out (HD.out.below HB.out)).mono ?_); rintro e w3 ⟨⟨A3, c3, rfl, h3⟩, hb3⟩; replace h3 := Aside0.mk h3; replace HB := Aside0.mk (below_then HB.out HB.out.size hb3); clear hb3)
      | fail)
    generalize hYX : Y.length = N at *
    have hN40 : N ≤ 40 := by omega
    go_loopw [7, 6] (fun i k wr => ∃ (j t : Nat), j ≤ n ∧ t ≤ N ∧ i = .int .i64 j ∧ k = .int .i64 t ∧ Aside0 (Search l X j t) ∧ Aside0 (Kd.C k25 wr A3 N X) ∧ Aside0 (Below w.heap.size w wr)) (fun i _ _ => n - (intOf i).toNat)
    case atStart => exact ⟨0, 0, Nat.zero_le _, Nat.zero_le _, rfl, rfl, ⟨Search.zero hKeep.out⟩, h3, HB⟩
    case round =>
      clear h3 HB k7 k10 k11
      obtain ⟨j, t, hj, ht, rfl, rfl, hS, h3, HB⟩ := hrel
      by_cases hjn : j < n
      · obtain ⟨ad, e1, x0, x1, x2, x3, x4, x5, x6, x7, x8⟩ := at_T25 (Kd.C_below HC.out HB.out) (j : Int) (by omega) (by omega)
        rw [Int.toNat_natCast] at x0 x1 x2 x3 x4 x5 x6 x7 x8
        subst e1
        obtain ⟨hyes, hno⟩ := Search.step hS.out (by rw [hl.out]; exact hjn)
        have hed : rd_T25 l (j : Int) = l.getD j z25 := rfl
        rw [hed] at x0 x1 x2 x3 x4 x5 x6 x7 x8
        generalize l.getD j z25 = e at *
        have b0 : (0 : Int) ≤ (j : Int) := by omega
        have b1 : (j : Int) < (n : Int) := by omega
        by_cases htN : t < N
        · have htN2 : t < X.length := by omega
          obtain ⟨bd, e2, y0, y1, y2, y3, y4, y5, y6, y7, y8⟩ := at_T25 h3.out (t : Int) (by omega) (by omega)
          rw [Int.toNat_natCast] at y0 y1 y2 y3 y4 y5 y6 y7 y8
          subst e2
          have hqd : rd_T25 X (t : Int) = X.getD t z25 := rfl
          rw [hqd] at y0 y1 y2 y3 y4 y5 y6 y7 y8
          have d0 : (0 : Int) ≤ (t : Int) := by omega
          have d1 : (t : Int) < (N : Int) := by omega
          unfold Fits at hyes hno
          generalize X.getD t z25 = q at *
          by_cases hy : withH q e.f6 = e
          · obtain ⟨q0, q1, q2, q3, q4, q5, q6, q7, q8⟩ := q
            obtain ⟨e0, e1, e2, e3, e4, e5, e6, e7, e8⟩ := e
            simp only [withH, S25.mk.injEq] at hy
            obtain ⟨rfl, rfl, rfl, rfl, rfl, rfl, -, rfl, rfl⟩ := hy
            simp only at x0 x1 x2 x3 x4 x5 x6 x7 x8 y0 y1 y2 y3 y4 y5 y6 y7 y8
            replace hyes := Aside0.mk hyes
            replace hno := Aside0.mk hno
            have u0 := past1 y0
            have u1 := past1 y1
            have u2 := past1 y2
            have u3 := past1 y3
            have u4 := past1 y4
            have u5 := past1 y5
            have u6 := past1 y6
            have u7 := past1 y7
            have u8 := past1 y8
            have v0 := past3 y0
            have v1 := past3 y1
            have v2 := past3 y2
            have v3 := past3 y3
            have v4 := past3 y4
            have v5 := past3 y5
            have v6 := past3 y6
            have v7 := past3 y7
            have v8 := past3 y8
            by_cases hp : q1 = 1
            · subst hp
              go_wp2_with fail
              go_quiet (fail)
              go_wp2_with fail
              go_roundw
              case rel => exact ⟨j + 1, t + 1, by omega, by omega, by go_num, by go_num, ⟨hyes.out ⟨htN2, rfl, by simp⟩⟩, ⟨Kd.C_below h3.out (pw_below_drewN (((Below.refl wr.heap.size wr).alloc (Nat.le_refl _) _).alloc (by simp) _) _)⟩, ⟨below_then HB.out HB.out.size (pw_below_drewN (((Below.refl wr.heap.size wr).alloc (Nat.le_refl _) _).alloc (by simp) _) _)⟩⟩
              case measure => simp [intOf]; omega
            · have hpb : (q1 == 1) = false := beq_eq_false_iff_ne.2 hp
              by_cases h6 : q6 = e6
              · subst h6
                go_wp2_with fail
                go_quiet (fail)
                go_wp2_with fail
                go_roundw
                case rel => exact ⟨j + 1, t + 1, by omega, by omega, by go_num, by go_num, ⟨hyes.out ⟨htN2, rfl, by simp⟩⟩, ⟨Kd.C_below h3.out (pw_below_drewN (((Below.refl wr.heap.size wr).alloc (Nat.le_refl _) _).alloc (by simp) _) _)⟩, ⟨below_then HB.out HB.out.size (pw_below_drewN (((Below.refl wr.heap.size wr).alloc (Nat.le_refl _) _).alloc (by simp) _) _)⟩⟩
                case measure => simp [intOf]; omega
              · obtain ⟨hkd, hS2⟩ := hno.out (fun h => h.2.2.elim hp (fun h => h6 (by injection h)))
                replace hS2 := Aside0.mk hS2
                have h6b : (q6 == e6) = false := beq_eq_false_iff_ne.2 h6
                clear hp h6
                rcases hkd with hkd | hkd
                · simp only at hkd
                  subst hkd
                  go_wp2_with fail
                  go_quiet (fail)
                  go_wp2_with fail
                  go_roundw
                  case rel => exact ⟨j + 1, t, by omega, by omega, by go_num, by go_num, hS2, ⟨Kd.C_below h3.out (pw_below_drewN (((Below.refl wr.heap.size wr).alloc (Nat.le_refl _) _).alloc (by simp) _) _)⟩, ⟨below_then HB.out HB.out.size (pw_below_drewN (((Below.refl wr.heap.size wr).alloc (Nat.le_refl _) _).alloc (by simp) _) _)⟩⟩
                  case measure => simp [intOf]; omega
                · simp only at hkd
                  subst hkd
                  go_wp2_with fail
                  go_quiet (fail)
                  go_wp2_with fail
                  go_roundw
                  case rel => exact ⟨j + 1, t, by omega, by omega, by go_num, by go_num, hS2, ⟨Kd.C_below h3.out (pw_below_drewN (((Below.refl wr.heap.size wr).alloc (Nat.le_refl _) _).alloc (by simp) _) _)⟩, ⟨below_then HB.out HB.out.size (pw_below_drewN (((Below.refl wr.heap.size wr).alloc (Nat.le_refl _) _).alloc (by simp) _) _)⟩⟩
                  case measure => simp [intOf]; omega
          · obtain ⟨hkd, hS2⟩ := hno (fun h => hy h.2.1)
            replace hS2 := Aside0.mk hS2
            obtain ⟨q0, q1, q2, q3, q4, q5, q6, q7, q8⟩ := q
            obtain ⟨e0, e1, e2, e3, e4, e5, e6, e7, e8⟩ := e
            simp only [withH, S25.mk.injEq] at hy
            simp only at x0 x1 x2 x3 x4 x5 x6 x7 x8 y0 y1 y2 y3 y4 y5 y6 y7 y8 hkd
            clear hyes hno
            replace hy := Aside0.mk hy
            have u0 := past1 y0
            have u1 := past1 y1
            have u2 := past1 y2
            have u3 := past1 y3
            have u4 := past1 y4
            have u5 := past1 y5
            have u6 := past1 y6
            have u7 := past1 y7
            have u8 := past1 y8
            have v0 := past3 y0
            have v1 := past3 y1
            have v2 := past3 y2
            have v3 := past3 y3
            have v4 := past3 y4
            have v5 := past3 y5
            have v6 := past3 y6
            have v7 := past3 y7
            have v8 := past3 y8
            have hE : ∀ W : World, (binOp .eql 25 (.agg #[.int .i64 q0, .int .i64 q1, .int .i64 q2, .int .i64 q3, .int .i64 q4, .int .i64 q5, .int .i64 e6, .int .i64 q7, .int .i64 q8]) (.agg #[.int .i64 e0, .int .i64 e1, .int .i64 e2, .int .i64 e3, .int .i64 e4, .int .i64 e5, .int .i64 e6, .int .i64 e7, .int .i64 e8])).run Try.prog W = .ok (.bool false) W := fun W => by
              have h := eq25 ⟨q0, q1, q2, q3, q4, q5, e6, q7, q8⟩ ⟨e0, e1, e2, e3, e4, e5, e6, e7, e8⟩ W
              unfold ent at h
              simp only at h
              rw [h]
              have hf : (q0 == e0 && (q1 == e1 && (q2 == e2 && (q3 == e3 && (q4 == e4 && (q5 == e5 && (e6 == e6 && (q7 == e7 && q8 == e8)))))))) = false := by
                cases hb : (q0 == e0 && (q1 == e1 && (q2 == e2 && (q3 == e3 && (q4 == e4 && (q5 == e5 && (e6 == e6 && (q7 == e7 && q8 == e8)))))))) with
                | false => rfl
                | true =>
                  simp at hb
                  exact absurd (by simp [hb]) hy.out
              rw [hf]
            rcases hkd with hkd | hkd
            · subst hkd
              go_wp2_with fail
              go_quiet (fail)
              go_wp2_with fail
              go_roundw
              case rel => exact ⟨j + 1, t, by omega, by omega, by go_num, by go_num, hS2, ⟨Kd.C_below h3.out (pw_below_drewN (((Below.refl wr.heap.size wr).alloc (Nat.le_refl _) _).alloc (by simp) _) _)⟩, ⟨below_then HB.out HB.out.size (pw_below_drewN (((Below.refl wr.heap.size wr).alloc (Nat.le_refl _) _).alloc (by simp) _) _)⟩⟩
              case measure => simp [intOf]; omega
            · subst hkd
              go_wp2_with fail
              go_quiet (fail)
              go_wp2_with fail
              go_roundw
              case rel => exact ⟨j + 1, t, by omega, by omega, by go_num, by go_num, hS2, ⟨Kd.C_below h3.out (pw_below_drewN (((Below.refl wr.heap.size wr).alloc (Nat.le_refl _) _).alloc (by simp) _) _)⟩, ⟨below_then HB.out HB.out.size (pw_below_drewN (((Below.refl wr.heap.size wr).alloc (Nat.le_refl _) _).alloc (by simp) _) _)⟩⟩
              case measure => simp [intOf]; omega
        · obtain ⟨hkd, hS2⟩ := hno (fun h => htN (by have := h.1; omega))
          replace hS2 := Aside0.mk hS2
          clear hyes hno
          obtain ⟨e0, e1, e2, e3, e4, e5, e6, e7, e8⟩ := e
          simp only at x0 x1 x2 x3 x4 x5 x6 x7 x8 hkd
          rcases hkd with hkd | hkd
          · subst hkd
            go_wp2_with fail
            go_roundw
            case rel => exact ⟨j + 1, t, by omega, by omega, by go_num, by go_num, hS2, ⟨Kd.C_below h3.out ((Below.refl wr.heap.size wr).alloc (Nat.le_refl _) _)⟩, ⟨below_then HB.out HB.out.size ((Below.refl wr.heap.size wr).alloc (Nat.le_refl _) _)⟩⟩
            case measure => simp [intOf]; omega
          · subst hkd
            go_wp2_with fail
            go_roundw
            case rel => exact ⟨j + 1, t, by omega, by omega, by go_num, by go_num, hS2, ⟨Kd.C_below h3.out ((Below.refl wr.heap.size wr).alloc (Nat.le_refl _) _)⟩, ⟨below_then HB.out HB.out.size ((Below.refl wr.heap.size wr).alloc (Nat.le_refl _) _)⟩⟩
            case measure => simp [intOf]; omega
      · have hjn2 : j = n := by omega
        have hS3 : Search l X l.length t := by rw [hl.out, ← hjn2]; exact hS.out
        have htX := hS3.done
        have htN : t = N := by omega
        subst htN
        clear htX hS3 hbl hXn hN40 hKl
        go_wp2_with (first
          | (go_at_call 8; (with_reducible refine (awake_c _).mono ?_); rintro e w2 ⟨rfl, hb2⟩; replace HB := Aside0.mk (below_then HB.out HB.out.size hb2); clear hb2)
          | fail)
        go_ret
        exact ⟨rfl, HB.out⟩
  · replace HC := Aside0.mk HC
    replace HD := Aside0.mk HD
    rcases (by omega : 40 < n ∨ (n ≤ 40 ∧ 40 < m)) with h | ⟨h, h2⟩
    · have h1 : (40 : Int) < (n : Int) := by omega
      go_enter Try.func6, Try.ntmps6
      go_wp2_with (first
        | (go_at_call 8; (with_reducible refine (awake_c _).mono ?_); rintro e w2 ⟨rfl, hb2⟩; have HB := Aside0.mk hb2; clear hb2)
        | fail)
      go_ret
      exact ⟨rfl, HB.out⟩
    · have h1 : (n : Int) ≤ 40 := by omega
      have h3 : (40 : Int) < (m : Int) := by omega
      go_enter Try.func6, Try.ntmps6
      go_wp2_with (first
        | (go_at_call 8; (with_reducible refine (awake_c _).mono ?_); rintro e w2 ⟨rfl, hb2⟩; have HB := Aside0.mk hb2; clear hb2)
        | fail)
      go_ret
      exact ⟨rfl, HB.out⟩
end Go.Proofs.Ytjgedonhfiifmaa.Hit
