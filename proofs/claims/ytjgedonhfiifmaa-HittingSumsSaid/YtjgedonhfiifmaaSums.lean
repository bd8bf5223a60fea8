/- The walk through HittingSums: it returns true and what lay in memory stays; for every two lists that are read and every number. -/
import Derived.Test.YtjgedonhfiifmaaSumsPure
namespace Go.Proofs.Ytjgedonhfiifmaa.Hit
open Go.RowKit Go.Proofs.Ytjgedonhfiifmaa.PHittingOnly Go.Proofs.YtjgedonhfiifmaaW.PrintWords Go.Proofs.YtjgedonhfiifmaaW.PrintLast Go.Proofs.YtjgedonhfiifmaaW.PrintMore
set_option linter.unusedVariables false

def fH (l : List Int) (j : Nat) : Int := 1 + wrap64 ((IntKind.u64.wrap (rd l (j : Int))).tmod 100)
def gX (l : List Int) (j : Nat) : Int := wrap64 ((IntKind.u64.wrap (rd l (j : Int))).tmod 700)
theorem fH_range (l : List Int) (j : Nat) : 1 ≤ fH l j ∧ fH l j ≤ 100 := by
  obtain ⟨r, hr, r0, r1⟩ := rest (rd l (j : Int)) 100 (by omega) (by omega)
  unfold fH
  rw [hr]
  omega

def crossL (F : Int) : Nat → Nat → Int := fun _ j => if j = 0 then 2 else if j = 13 then F else 0
theorem CR_lit (w : World) (F : Int) : CR (w.alloc (.cells #[.int .i64 2, .int .i64 0, .int .i64 0, .int .i64 0, .int .i64 0, .int .i64 0, .int .i64 0, .int .i64 0, .int .i64 0, .int .i64 0, .int .i64 0, .int .i64 0, .int .i64 0, .int .i64 F, .int .i64 0] 33)) (some ⟨w.heap.size, 0, none⟩) 1 (crossL F) := by
  intro j hj
  obtain rfl : j = 0 := by omega
  refine ⟨_, rfl, fun i hi => ?_⟩
  rw [add_plain, World.cell?_alloc_new]
  match i, hi with
  | 0, _ => rfl
  | 1, _ => rfl
  | 2, _ => rfl
  | 3, _ => rfl
  | 4, _ => rfl
  | 5, _ => rfl
  | 6, _ => rfl
  | 7, _ => rfl
  | 8, _ => rfl
  | 9, _ => rfl
  | 10, _ => rfl
  | 11, _ => rfl
  | 12, _ => rfl
  | 13, _ => rfl
  | 14, _ => rfl
theorem C_first {w : World} {A : Option Addr} {l1 l2 : List S25} {n m : Nat} (h : Kd.C k25 w A n (l1 ++ l2)) (hm : l1.length = m) : Kd.C k25 w A m l1 := by
  have hn : (l1 ++ l2).length = n := h.1
  subst hn
  have h2 := Kd.C_take (m := m) h (by rw [List.length_append]; omega)
  have e : (l1 ++ l2).take m = l1 := by rw [← hm]; simp
  rw [e, hm] at h2
  exact h2

set_option maxRecDepth 100000 in
set_option maxHeartbeats 16000000 in
theorem sums_walk (A B : Option Addr) (n c m d : Nat) (l1 l2 : List Int) (away : Int) (w : World) (HC : Kd.C (Kd.int .i64) w A n l1) (HD : Kd.C (Kd.int .i64) w B m l2) (hn : n ≤ maxLen) (hm : m ≤ maxLen) :
    Calls Try.prog 5 #[.slice A n c, .slice B m d, .int .i64 away] w fun e w' => e = .returned (.bool true) ∧ Below w.heap.size w w' := by
  unfold maxLen at hn hm
  obtain ⟨F, hF, F0, F1⟩ := rest away 600 (by omega) (by omega)
  replace HC := Aside0.mk HC
  replace HD := Aside0.mk HD
  go_enter Try.func5, Try.ntmps5
  go_wp2_with fail
  go_loopw [8, 7] (fun i v wr => ∃ (k : Nat) (A1 : Option Addr) (c1 : Nat), k ≤ n ∧ k ≤ 6 ∧ i = .int .i64 k ∧ v = .slice A1 k c1 ∧ Aside0 (Kd.R k25 25 wr w.heap.size (fun _ => True) (.slice A1 k c1) (pS (fH l1) k)) ∧ Aside0 (Below w.heap.size w wr)) (fun i _ _ => n - (intOf i).toNat)
  case atStart => exact ⟨0, none, 0, Nat.zero_le _, Nat.zero_le _, rfl, rfl, ⟨Kd.R_nil _ _ _ _ _⟩, ⟨Below.refl _ _⟩⟩
  case round =>
    obtain ⟨k, A1, c1, hkn, hk6, rfl, rfl, hR, HB⟩ := hrel
    by_cases hgo : k < n ∧ k < 6
    · obtain ⟨hlt, h6⟩ := hgo
      obtain ⟨ad, e1, hc⟩ := Kd.at_int (Kd.C_below HC.out HB.out) (k : Int) (by omega) (by omega)
      rw [Int.toNat_natCast] at hc
      subst e1
      obtain ⟨r, hr, r0, r1⟩ := rest (rd l1 (k : Int)) 100 (by omega) (by omega)
      have hfk : fH l1 k = 1 + r := by unfold fH; rw [hr]
      obtain ⟨Z, hZ⟩ : ∃ Z, Z = pS (fH l1) (k + 1) := ⟨_, rfl⟩
      have hZ2 : Z = pS (fH l1) k ++ [⟨k + 1, 1, 100 * k, 0, 0, 0, 1 + r, 0, 0⟩] := by rw [hZ, ← hfk]; rfl
      have hYl := pS_length (fH l1) k
      generalize hY : pS (fH l1) k = Y at *
      generalize rd l1 (k : Int) = a at hc hr
      replace hY := Aside0.mk hY
      replace hZ := Aside0.mk hZ
      replace hZ2 := Aside0.mk hZ2
      clear hfk
      have b0 : (0 : Int) ≤ (k : Int) := by omega
      have b1 : (k : Int) < (n : Int) := by omega
      have b2 : (k : Int) < 6 := by omega
      go_wp2_with (first
        | ((with_reducible refine gate_dst (N := 49) rfl ?_); (refine Kd.R_append k25 (w0 := w) w.heap.size rfl (.tmp 34) (.tmp 48) 23 25 _ 72 rfl Try.underlying23 info25 rfl (by decide) (by decide) _ Y ⟨k + 1, 1, 100 * k, 0, 0, 0, 1 + r, 0, 0⟩ [.int .i64 ((k : Int) + 1), .int .i64 1, .int .i64 (100 * (k : Int)), .int .i64 0, .int .i64 0, .int .i64 0, .int .i64 (1 + r), .int .i64 0, .int .i64 0] (fun _ => True) (fun _ => False) rfl (by first | rfl | (simp [Act.eval]; done) | go_simp) (k25_mkM _ _ _ _) (fun _ hk => hk.elim) (fun g hg => trivial) hR.out HB.out HB.out.size (by omega) ?_); intro v4 w4 ho4 hb4 hg4 hat4; rw [← hZ2.out, hZ.out] at ho4; obtain ⟨A4, c4, e4⟩ := Kd.R_slice ho4; subst e4; rw [pS_length] at ho4; rw [pS_length]; replace ho4 := Aside0.mk ho4; replace HB := Aside0.mk hb4; clear hg4 hat4 hR hb4)
        | fail)
      go_roundw
      case rel => exact ⟨k + 1, A4, c4, by omega, by omega, by go_num, rfl, ho4, HB⟩
      case measure => simp [intOf]; omega
    · have hLl := pS_length (fH l1) k
      have hmem := pS_mem (fH l1) (fH_range l1) k
      obtain ⟨hs1, hs2⟩ := pS_hsum (fH l1) k
      obtain ⟨hb1, hb2⟩ := blast_sums (fH l1) (fH_range l1) F F0 F1 k hk6
      generalize pS (fH l1) k = L at *
      replace hmem := Aside0.mk hmem
      replace hs1 := Aside0.mk hs1
      replace hs2 := Aside0.mk hs2
      replace hb1 := Aside0.mk hb1
      replace hb2 := Aside0.mk hb2
      rcases (by omega : k = n ∨ (k < n ∧ k = 6)) with hx | ⟨hx, hx2⟩
      · have z1 : ¬ ((k : Int) < (n : Int)) := by omega
        clear hx
        go_wp2_with fail
        go_loopw [10, 9] (fun i v wr => ∃ (t : Nat) (S : Int), t ≤ k ∧ 0 ≤ S ∧ S ≤ 100 * t ∧ i = .int .i64 t ∧ v = .int .i64 S ∧ Aside0 (S = asum (L.take t)) ∧ Aside0 (Kd.R k25 25 wr w.heap.size (fun _ => True) (.slice A1 k c1) L) ∧ Aside0 (Below w.heap.size w wr)) (fun i _ _ => k - (intOf i).toNat)
        case atStart => exact ⟨0, 0, Nat.zero_le _, by omega, by omega, rfl, rfl, ⟨rfl⟩, hR, HB⟩
        case round =>
          clear hR HB
          obtain ⟨t, S, htk, S0, S1, rfl, rfl, hS, hR, HB⟩ := hrel
          by_cases htk2 : t < k
          · obtain ⟨ad, e1, x0, x1, x2, x3, x4, x5, x6, x7, x8⟩ := at_T25 (Kd.R_reads' hR.out).2.2 (t : Int) (by omega) (by omega)
            rw [Int.toNat_natCast] at x0 x1 x2 x3 x4 x5 x6 x7 x8
            subst e1
            have hed : rd_T25 L (t : Int) = L.getD t z25 := rfl
            have hnx := asum_next L t (by omega)
            have hrg := hmem.out (L.getD t z25) (by rw [List.getD_eq_getElem?_getD, List.getElem?_eq_getElem (show t < L.length by omega)]; exact List.getElem_mem _)
            rw [hed] at x6
            clear x0 x1 x2 x3 x4 x5 x7 x8 hed
            generalize (L.getD t z25).f6 = h6 at *
            rw [← hS.out] at hnx
            replace hnx := Aside0.mk hnx
            have b0 : (0 : Int) ≤ (t : Int) := by omega
            have b1 : (t : Int) < (k : Int) := by omega
            obtain ⟨h60, h61⟩ := hrg
            go_wp2_with fail
            go_roundw
            case rel => exact ⟨t + 1, S + h6, by omega, by omega, by omega, by go_num, by go_num, ⟨hnx.out.symm⟩, hR, HB⟩
            case measure => simp [intOf]; omega
          · have htk3 : t = k := by omega
            have hST : S = asum L := by
              have := hS.out
              rwa [List.take_of_length_le (by omega)] at this
            replace hST := Aside0.mk hST
            have S2 : S ≤ 600 := by omega
            have z3 : ¬ ((t : Int) < (k : Int)) := by omega
            clear htk3 hS z1
            have hR0 := Aside0.mk (by have := hR.out; rw [← List.append_nil L] at this; exact this : Kd.R k25 25 wr w.heap.size (fun _ => True) (.slice A1 k c1) (L ++ sS (gX l2) 0))
            clear hR
            go_wp2_with fail
            go_loopw [12, 7] (fun i v wr => ∃ (q : Nat) (A2 : Option Addr) (c2 : Nat), q ≤ m ∧ q ≤ 12 ∧ i = .int .i64 q ∧ v = .slice A2 (k + q) c2 ∧ Aside0 (Kd.R k25 25 wr w.heap.size (fun _ => True) (.slice A2 (k + q) c2) (L ++ sS (gX l2) q)) ∧ Aside0 (Below w.heap.size w wr)) (fun i _ _ => m - (intOf i).toNat)
            case atStart => exact ⟨0, A1, c1, Nat.zero_le _, Nat.zero_le _, rfl, rfl, hR0, HB⟩
            case round =>
              clear hR0 HB
              obtain ⟨q, A2, c2, hqm, hq12, rfl, rfl, hR, HB⟩ := hrel
              by_cases hgo : q < m ∧ q < 12
              · obtain ⟨hlt, h6⟩ := hgo
                obtain ⟨ad, e1, hc⟩ := Kd.at_int (Kd.C_below HD.out HB.out) (q : Int) (by omega) (by omega)
                rw [Int.toNat_natCast] at hc
                subst e1
                obtain ⟨r, hr, r0, r1⟩ := rest (rd l2 (q : Int)) 700 (by omega) (by omega)
                have hfk : gX l2 q = r := by unfold gX; rw [hr]
                have hZl : (L ++ sS (gX l2) (q + 1)).length = k + q + 1 := by rw [List.length_append, sS_length]; omega
                have hYl : (L ++ sS (gX l2) q).length = k + q := by rw [List.length_append, sS_length]; omega
                obtain ⟨Z, hZ⟩ : ∃ Z, Z = L ++ sS (gX l2) (q + 1) := ⟨_, rfl⟩
                have hm6 : ∃ m6 : Int, m6 = (q : Int).tmod 6 ∧ 0 ≤ m6 ∧ m6 < 6 := ⟨_, rfl, Int.tmod_nonneg _ (by omega), Int.tmod_lt_of_pos _ (by omega)⟩
                obtain ⟨m6, hm6, m60, m61⟩ := hm6
                have hZ2 : Z = (L ++ sS (gX l2) q) ++ [⟨1000 + q, 2, r, 0, 0, 0, 0, 0, 1 + m6⟩] := by rw [hZ, ← hfk, hm6, List.append_assoc]; rfl
                rw [← hZ] at hZl
                generalize hY : L ++ sS (gX l2) q = Y at *
                generalize rd l2 (q : Int) = a at hc hr
                replace hY := Aside0.mk hY
                replace hZ := Aside0.mk hZ
                replace hZ2 := Aside0.mk hZ2
                replace hZl := Aside0.mk hZl
                replace hm6 := hm6.symm
                clear hfk
                have b0 : (0 : Int) ≤ (q : Int) := by omega
                have b1 : (q : Int) < (m : Int) := by omega
                have b2 : (q : Int) < 12 := by omega
                go_wp2_with (first
                  | ((with_reducible refine gate_dst (N := 90) rfl ?_); (refine Kd.R_append k25 (w0 := w) w.heap.size rfl (.tmp 75) (.tmp 89) 23 25 _ 72 rfl Try.underlying23 info25 rfl (by decide) (by decide) _ Y ⟨1000 + q, 2, r, 0, 0, 0, 0, 0, 1 + m6⟩ [.int .i64 (1000 + (q : Int)), .int .i64 2, .int .i64 r, .int .i64 0, .int .i64 0, .int .i64 0, .int .i64 0, .int .i64 0, .int .i64 (1 + m6)] (fun _ => True) (fun _ => False) rfl (by first | rfl | (simp [Act.eval]; done) | go_simp) (k25_mkM _ _ _ _) (fun _ hk => hk.elim) (fun g hg => trivial) hR.out HB.out HB.out.size (by omega) ?_); intro v4 w4 ho4 hb4 hg4 hat4; rw [← hZ2.out] at ho4; obtain ⟨A4, c4, e4⟩ := Kd.R_slice ho4; subst e4; rw [hZl.out] at ho4; rw [hZl.out]; rw [hZ.out] at ho4; replace ho4 := Aside0.mk ho4; replace HB := Aside0.mk hb4; clear hg4 hat4 hR hb4)
                  | fail)
                go_roundw
                case rel => exact ⟨q + 1, A4, c4, by omega, by omega, by go_num, rfl, ho4, HB⟩
                case measure => simp [intOf]; omega
              · have hLLl : (L ++ sS (gX l2) q).length = k + q := by rw [List.length_append, sS_length]; omega
                have hbnd : ∀ i, i < (L ++ sS (gX l2) q).length → 0 ≤ ((L ++ sS (gX l2) q).getD i z25).f6 ∧ ((L ++ sS (gX l2) q).getD i z25).f6 ≤ 100 := by
                  intro i hi
                  have hme : (L ++ sS (gX l2) q).getD i z25 ∈ L ++ sS (gX l2) q := by
                    rw [List.getD_eq_getElem?_getD, List.getElem?_eq_getElem hi]
                    exact List.getElem_mem hi
                  rcases List.mem_append.1 hme with h | h
                  · have := hmem.out _ h
                    omega
                  · have := sS_mem _ _ _ h
                    omega
                obtain ⟨gn, g0, g1, ho, hh⟩ := shots_sums _ (by omega) hbnd
                have hrng := shots_range _ (by omega) hbnd
                obtain ⟨hq1, hq2⟩ := sS_hsum (gX l2) q
                rw [oth_append, hs2.out, hq2] at ho
                rw [hsum_append, hs1.out, ← hST.out, hq1] at hh
                have hXle := (keep_shot (L ++ sS (gX l2) q)).le
                have k7 := Aside0.mk (fun W (h : Kd.C k25 W A2 (k + q) (L ++ sS (gX l2) q)) => shots_c A2 (k + q) c2 _ W h (by omega))
                have hrd := Kd.R_reads' hR.out
                have hcap : k ≤ c2 := by omega
                have hCL := Aside0.mk hrd.2.2
                clear hrd hbnd hR
                generalize shotF (L ++ sS (gX l2) q) = X at *
                rw [hLLl] at hXle g1
                generalize hLL : L ++ sS (gX l2) q = LL at *
                rw [hLLl] at hCL
                replace hLL := Aside0.mk hLL
                replace hrng := Aside0.mk hrng
                replace ho := Aside0.mk ho
                replace hh := Aside0.mk hh
                replace hLLl := Aside0.mk hLLl
                clear hq1 hq2
                rcases (by omega : q = m ∨ (q < m ∧ q = 12)) with hx | ⟨hx, hx2⟩
                · have z4 : ¬ ((q : Int) < (m : Int)) := by omega
                  clear hx
                  go_wp2_with (first
                    | (go_at_call 7; (with_reducible refine (k7.out _ hCL.out).mono ?_); rintro e w1 ⟨⟨A', n', c', rfl, hx⟩, hb1⟩; obtain ⟨hn1, -, hC1⟩ := Kd.R_reads' hx; subst hn1; clear hx; have hX := Aside0.mk hC1; clear hC1; replace hCL := Aside0.mk (Kd.C_below hCL.out hb1); replace HB := Aside0.mk (below_then HB.out HB.out.size hb1); clear hb1)
                    | fail)
                  go_loopw [16, 14, 15] (fun i a b wr => ∃ (u : Nat) (N O : Int), u ≤ X.length ∧ -2000 * (u : Int) ≤ N ∧ N ≤ 100 * u ∧ 0 ≤ O ∧ O ≤ u ∧ i = .int .i64 u ∧ a = .int .i64 N ∧ b = .int .i64 O ∧ Aside0 (N = hsum (X.take u)) ∧ Aside0 (O = oth (X.take u)) ∧ Aside0 (Kd.C k25 wr A' X.length X) ∧ Aside0 (Kd.C k25 wr A2 (k + q) LL) ∧ Aside0 (Below w.heap.size w wr)) (fun i _ _ _ => X.length - (intOf i).toNat)
                  case atStart => exact ⟨0, 0, 0, Nat.zero_le _, by omega, by omega, by omega, by omega, rfl, rfl, rfl, ⟨rfl⟩, ⟨rfl⟩, hX, hCL, HB⟩
                  case round =>
                    clear hX hCL HB k7
                    obtain ⟨u, N, O, hu, N0, N1, O0, O1, rfl, rfl, rfl, hN, hO, hX, hCL, HB⟩ := hrel
                    by_cases hux : u < X.length
                    · obtain ⟨ad, e1, x0, x1, x2, x3, x4, x5, x6, x7, x8⟩ := at_T25 hX.out (u : Int) (by omega) (by omega)
                      rw [Int.toNat_natCast] at x0 x1 x2 x3 x4 x5 x6 x7 x8
                      subst e1
                      have hed : rd_T25 X (u : Int) = X.getD u z25 := rfl
                      have hnx := hsum_next X u hux
                      have hox := oth_next X u hux
                      have hrg := hrng.out (X.getD u z25) (by rw [List.getD_eq_getElem?_getD, List.getElem?_eq_getElem hux]; exact List.getElem_mem _)
                      rw [hed] at x1 x6
                      clear x0 x2 x3 x4 x5 x7 x8 hed
                      generalize (X.getD u z25).f6 = h6 at *
                      generalize (X.getD u z25).f1 = kd at *
                      rw [← hN.out] at hnx
                      rw [← hO.out] at hox
                      have b0 : (0 : Int) ≤ (u : Int) := by omega
                      have b1 : (u : Int) < (X.length : Int) := by omega
                      obtain ⟨h60, h61⟩ := hrg
                      have b3 : (X.length : Int) ≤ 18 := by omega
                      by_cases hk1 : kd = 1
                      · subst hk1
                        rw [if_pos rfl] at hnx hox
                        replace hnx := Aside0.mk hnx
                        replace hox := Aside0.mk hox
                        go_wp2_with fail
                        go_roundw
                        case rel => exact ⟨u + 1, N + h6, O, by omega, by omega, by omega, by omega, by omega, by go_num, by go_num, rfl, ⟨hnx.out.symm⟩, ⟨by rw [hox.out]; omega⟩, hX, hCL, HB⟩
                        case measure => simp [intOf]; omega
                      · rw [if_neg hk1] at hnx hox
                        have hkb : (kd == 1) = false := beq_eq_false_iff_ne.2 hk1
                        replace hnx := Aside0.mk hnx
                        replace hox := Aside0.mk hox
                        clear hk1
                        go_wp2_with fail
                        go_roundw
                        case rel => exact ⟨u + 1, N, O + 1, by omega, by omega, by omega, by omega, by omega, by go_num, rfl, by go_num, ⟨by rw [hnx.out]; omega⟩, ⟨hox.out.symm⟩, hX, hCL, HB⟩
                        case measure => simp [intOf]; omega
                    · have huX : u = X.length := by omega
                      have hN2 : N = S - gn * 20 := by
                        have h1 := hN.out
                        rw [huX, List.take_length, hh.out] at h1
                        omega
                      have hO2 : O = q - gn := by
                        have h1 := hO.out
                        rw [huX, List.take_length, ho.out] at h1
                        omega
                      clear hN hO N0 N1 O0 O1
                      subst hN2
                      have z6 : ¬ ((u : Int) < (X.length : Int)) := by omega
                      have hgo1 : (k : Int) + (q : Int) - (k : Int) - O = gn := by omega
                      have hgo2 : (q : Int) - O = gn := by omega
                      have O0 : -100 ≤ O := by omega
                      have O1 : O ≤ 100 := by omega
                      clear hO2
                      have gn1 : gn ≤ 18 := by omega
                      have hLL2 : LL = L ++ sS (gX l2) q := hLL.out.symm
                      have hC2 := Aside0.mk (by have h1 := hCL.out; rw [hLL2] at h1; exact C_first h1 hLl : Kd.C k25 wr A2 k L)
                      have k11 := Aside0.mk (fun (W : World) (h : Kd.C k25 (W.alloc (.cells #[.int .i64 2, .int .i64 0, .int .i64 0, .int .i64 0, .int .i64 0, .int .i64 0, .int .i64 0, .int .i64 0, .int .i64 0, .int .i64 0, .int .i64 0, .int .i64 0, .int .i64 0, .int .i64 F, .int .i64 0] 33)) A2 k L) => blasts_c A2 (some ⟨W.heap.size, 0, none⟩) k c2 1 1 L (crossL F) _ h (by omega) (CR_lit W F) (by omega))
                      have hYe : blastsF (crossL F) L 1 = L.map (bF 2 F 0) := rfl
                      rw [hYe] at k11
                      have hYl : (L.map (bF 2 F 0)).length = k := by rw [List.length_map, hLl]
                      generalize L.map (bF 2 F 0) = Y at *
                      clear hYe hLL2 hX hCL
                      replace hYl := Aside0.mk hYl
                      go_wp2_with (first
                        | (go_at_call 11; (with_reducible refine (k11.out _ (Kd.C_alloc hC2.out _)).mono ?_); rintro e w3 ⟨⟨A3, c3, rfl, h3⟩, hb3⟩; replace h3 := Aside0.mk h3; replace HB := Aside0.mk (below_then (HB.out.alloc HB.out.size _) (HB.out.alloc HB.out.size _).size hb3); clear hb3)
                        | fail)
                      clear k11 hC2
                      have hb1' := hb1
                      go_loopw [20, 19] (fun i v wr => ∃ (t2 : Nat) (H : Int), t2 ≤ k ∧ 0 ≤ H ∧ H ≤ 10 * (t2 : Int) ∧ i = .int .i64 t2 ∧ v = .int .i64 H ∧ Aside0 (H = hurtS F t2) ∧ Aside0 (Kd.C k25 wr A3 k Y) ∧ Aside0 (Below w.heap.size w wr)) (fun i _ _ => k - (intOf i).toNat)
                      case atStart => exact ⟨0, 0, Nat.zero_le _, by omega, by omega, rfl, rfl, ⟨rfl⟩, h3, HB⟩
                      case round =>
                        clear h3 HB
                        obtain ⟨t2, H, htk', H0, H1, rfl, rfl, hH, h3, HB⟩ := hrel
                        by_cases htk4 : t2 < k
                        · have hnx : hurtS F (t2 + 1) = H + (if -128 ≤ 100 * (t2 : Int) - F ∧ 100 * (t2 : Int) - F ≤ 128 then 10 else 0) := by rw [hH.out]; rfl
                          have c0 : (0 : Int) ≤ (t2 : Int) := by omega
                          have c1' : (t2 : Int) < (k : Int) := by omega
                          have c2' : (k : Int) ≤ 6 := by omega
                          by_cases d1 : -128 ≤ 100 * (t2 : Int) - F
                          · by_cases d2 : 100 * (t2 : Int) - F ≤ 128
                            · rw [if_pos ⟨d1, d2⟩] at hnx
                              replace hnx := Aside0.mk hnx
                              go_wp2_with fail
                              go_roundw
                              case rel => exact ⟨t2 + 1, H + 10, by omega, by omega, by omega, by go_num, by go_num, ⟨hnx.out.symm⟩, h3, HB⟩
                              case measure => simp [intOf]; omega
                            · rw [if_neg (fun h => d2 h.2), Int.add_zero] at hnx
                              replace hnx := Aside0.mk hnx
                              go_wp2_with fail
                              go_roundw
                              case rel => exact ⟨t2 + 1, H, by omega, by omega, by omega, by go_num, rfl, ⟨hnx.out.symm⟩, h3, HB⟩
                              case measure => simp [intOf]; omega
                          · rw [if_neg (fun h => d1 h.1), Int.add_zero] at hnx
                            replace hnx := Aside0.mk hnx
                            go_wp2_with fail
                            go_roundw
                            case rel => exact ⟨t2 + 1, H, by omega, by omega, by omega, by go_num, rfl, ⟨hnx.out.symm⟩, h3, HB⟩
                            case measure => simp [intOf]; omega
                        · have ht2k : t2 = k := by omega
                          have hH2 : Aside0 (asum Y = S - H) := ⟨by have h1 := hb1.out; rw [← hST.out] at h1; rw [h1, hH.out, ht2k]⟩
                          have z7 : ¬ ((t2 : Int) < (k : Int)) := by omega
                          have H2 : H ≤ 60 := by omega
                          clear hH ht2k
                          go_wp2_with fail
                          go_loopw [23, 22] (fun i v wr => ∃ (t3 : Nat) (M : Int), t3 ≤ k ∧ -10 * (t3 : Int) ≤ M ∧ M ≤ 100 * (t3 : Int) ∧ i = .int .i64 t3 ∧ v = .int .i64 M ∧ Aside0 (M = asum (Y.take t3)) ∧ Aside0 (Kd.C k25 wr A3 k Y) ∧ Aside0 (Below w.heap.size w wr)) (fun i _ _ => k - (intOf i).toNat)
                          case atStart => exact ⟨0, 0, Nat.zero_le _, by omega, by omega, rfl, rfl, ⟨rfl⟩, h3, HB⟩
                          case round =>
                            clear h3 HB
                            obtain ⟨t3, M, ht3, M0, M1, rfl, rfl, hM, h3, HB⟩ := hrel
                            by_cases ht3k : t3 < k
                            · obtain ⟨ad, e1, x0, x1, x2, x3, x4, x5, x6, x7, x8⟩ := at_T25 h3.out (t3 : Int) (by omega) (by omega)
                              rw [Int.toNat_natCast] at x0 x1 x2 x3 x4 x5 x6 x7 x8
                              subst e1
                              have hed : rd_T25 Y (t3 : Int) = Y.getD t3 z25 := rfl
                              have hnx := asum_next Y t3 (by rw [hYl.out]; exact ht3k)
                              have hrg := hb2.out (Y.getD t3 z25) (by rw [List.getD_eq_getElem?_getD, List.getElem?_eq_getElem (show t3 < Y.length by rw [hYl.out]; exact ht3k)]; exact List.getElem_mem _)
                              rw [hed] at x6
                              clear x0 x1 x2 x3 x4 x5 x7 x8 hed
                              generalize (Y.getD t3 z25).f6 = h6 at *
                              rw [← hM.out] at hnx
                              replace hnx := Aside0.mk hnx
                              have b0 : (0 : Int) ≤ (t3 : Int) := by omega
                              have b1 : (t3 : Int) < (k : Int) := by omega
                              obtain ⟨h60, h61⟩ := hrg
                              go_wp2_with fail
                              go_roundw
                              case rel => exact ⟨t3 + 1, M + h6, by omega, by omega, by omega, by go_num, by go_num, ⟨hnx.out.symm⟩, h3, HB⟩
                              case measure => simp [intOf]; omega
                            · have hM2 : M = S - H := by
                                have h1 := hM.out
                                rw [List.take_of_length_le (by rw [hYl.out]; omega), hH2.out] at h1
                                exact h1
                              clear hM M0 M1
                              subst hM2
                              have z8 : ¬ ((t3 : Int) < (k : Int)) := by omega
                              go_wp2_with (first
                                | (go_at_call 8; (with_reducible refine (awake_c _).mono ?_); rintro e w2 ⟨rfl, hb9⟩; replace HB := Aside0.mk (below_then HB.out HB.out.size hb9); clear hb9)
                                | fail)
                              go_ret
                              exact ⟨rfl, HB.out⟩
                · have z4 : (q : Int) < (m : Int) := by omega
                  have z5 : ¬ ((q : Int) < 12) := by omega
                  clear hx hx2
                  go_wp2_with (first
                    | (go_at_call 7; (with_reducible refine (k7.out _ hCL.out).mono ?_); rintro e w1 ⟨⟨A', n', c', rfl, hx⟩, hb1⟩; obtain ⟨hn1, -, hC1⟩ := Kd.R_reads' hx; subst hn1; clear hx; have hX := Aside0.mk hC1; clear hC1; replace hCL := Aside0.mk (Kd.C_below hCL.out hb1); replace HB := Aside0.mk (below_then HB.out HB.out.size hb1); clear hb1)
                    | fail)
                  go_loopw [16, 14, 15] (fun i a b wr => ∃ (u : Nat) (N O : Int), u ≤ X.length ∧ -2000 * (u : Int) ≤ N ∧ N ≤ 100 * u ∧ 0 ≤ O ∧ O ≤ u ∧ i = .int .i64 u ∧ a = .int .i64 N ∧ b = .int .i64 O ∧ Aside0 (N = hsum (X.take u)) ∧ Aside0 (O = oth (X.take u)) ∧ Aside0 (Kd.C k25 wr A' X.length X) ∧ Aside0 (Kd.C k25 wr A2 (k + q) LL) ∧ Aside0 (Below w.heap.size w wr)) (fun i _ _ _ => X.length - (intOf i).toNat)
                  case atStart => exact ⟨0, 0, 0, Nat.zero_le _, by omega, by omega, by omega, by omega, rfl, rfl, rfl, ⟨rfl⟩, ⟨rfl⟩, hX, hCL, HB⟩
                  case round =>
                    clear hX hCL HB k7
                    obtain ⟨u, N, O, hu, N0, N1, O0, O1, rfl, rfl, rfl, hN, hO, hX, hCL, HB⟩ := hrel
                    by_cases hux : u < X.length
                    · obtain ⟨ad, e1, x0, x1, x2, x3, x4, x5, x6, x7, x8⟩ := at_T25 hX.out (u : Int) (by omega) (by omega)
                      rw [Int.toNat_natCast] at x0 x1 x2 x3 x4 x5 x6 x7 x8
                      subst e1
                      have hed : rd_T25 X (u : Int) = X.getD u z25 := rfl
                      have hnx := hsum_next X u hux
                      have hox := oth_next X u hux
                      have hrg := hrng.out (X.getD u z25) (by rw [List.getD_eq_getElem?_getD, List.getElem?_eq_getElem hux]; exact List.getElem_mem _)
                      rw [hed] at x1 x6
                      clear x0 x2 x3 x4 x5 x7 x8 hed
                      generalize (X.getD u z25).f6 = h6 at *
                      generalize (X.getD u z25).f1 = kd at *
                      rw [← hN.out] at hnx
                      rw [← hO.out] at hox
                      have b0 : (0 : Int) ≤ (u : Int) := by omega
                      have b1 : (u : Int) < (X.length : Int) := by omega
                      obtain ⟨h60, h61⟩ := hrg
                      have b3 : (X.length : Int) ≤ 18 := by omega
                      by_cases hk1 : kd = 1
                      · subst hk1
                        rw [if_pos rfl] at hnx hox
                        replace hnx := Aside0.mk hnx
                        replace hox := Aside0.mk hox
                        go_wp2_with fail
                        go_roundw
                        case rel => exact ⟨u + 1, N + h6, O, by omega, by omega, by omega, by omega, by omega, by go_num, by go_num, rfl, ⟨hnx.out.symm⟩, ⟨by rw [hox.out]; omega⟩, hX, hCL, HB⟩
                        case measure => simp [intOf]; omega
                      · rw [if_neg hk1] at hnx hox
                        have hkb : (kd == 1) = false := beq_eq_false_iff_ne.2 hk1
                        replace hnx := Aside0.mk hnx
                        replace hox := Aside0.mk hox
                        clear hk1
                        go_wp2_with fail
                        go_roundw
                        case rel => exact ⟨u + 1, N, O + 1, by omega, by omega, by omega, by omega, by omega, by go_num, rfl, by go_num, ⟨by rw [hnx.out]; omega⟩, ⟨hox.out.symm⟩, hX, hCL, HB⟩
                        case measure => simp [intOf]; omega
                    · have huX : u = X.length := by omega
                      have hN2 : N = S - gn * 20 := by
                        have h1 := hN.out
                        rw [huX, List.take_length, hh.out] at h1
                        omega
                      have hO2 : O = q - gn := by
                        have h1 := hO.out
                        rw [huX, List.take_length, ho.out] at h1
                        omega
                      clear hN hO N0 N1 O0 O1
                      subst hN2
                      have z6 : ¬ ((u : Int) < (X.length : Int)) := by omega
                      have hgo1 : (k : Int) + (q : Int) - (k : Int) - O = gn := by omega
                      have hgo2 : (q : Int) - O = gn := by omega
                      have O0 : -100 ≤ O := by omega
                      have O1 : O ≤ 100 := by omega
                      clear hO2
                      have gn1 : gn ≤ 18 := by omega
                      have hLL2 : LL = L ++ sS (gX l2) q := hLL.out.symm
                      have hC2 := Aside0.mk (by have h1 := hCL.out; rw [hLL2] at h1; exact C_first h1 hLl : Kd.C k25 wr A2 k L)
                      have k11 := Aside0.mk (fun (W : World) (h : Kd.C k25 (W.alloc (.cells #[.int .i64 2, .int .i64 0, .int .i64 0, .int .i64 0, .int .i64 0, .int .i64 0, .int .i64 0, .int .i64 0, .int .i64 0, .int .i64 0, .int .i64 0, .int .i64 0, .int .i64 0, .int .i64 F, .int .i64 0] 33)) A2 k L) => blasts_c A2 (some ⟨W.heap.size, 0, none⟩) k c2 1 1 L (crossL F) _ h (by omega) (CR_lit W F) (by omega))
                      have hYe : blastsF (crossL F) L 1 = L.map (bF 2 F 0) := rfl
                      rw [hYe] at k11
                      have hYl : (L.map (bF 2 F 0)).length = k := by rw [List.length_map, hLl]
                      generalize L.map (bF 2 F 0) = Y at *
                      clear hYe hLL2 hX hCL
                      replace hYl := Aside0.mk hYl
                      go_wp2_with (first
                        | (go_at_call 11; (with_reducible refine (k11.out _ (Kd.C_alloc hC2.out _)).mono ?_); rintro e w3 ⟨⟨A3, c3, rfl, h3⟩, hb3⟩; replace h3 := Aside0.mk h3; replace HB := Aside0.mk (below_then (HB.out.alloc HB.out.size _) (HB.out.alloc HB.out.size _).size hb3); clear hb3)
                        | fail)
                      clear k11 hC2
                      have hb1' := hb1
                      go_loopw [20, 19] (fun i v wr => ∃ (t2 : Nat) (H : Int), t2 ≤ k ∧ 0 ≤ H ∧ H ≤ 10 * (t2 : Int) ∧ i = .int .i64 t2 ∧ v = .int .i64 H ∧ Aside0 (H = hurtS F t2) ∧ Aside0 (Kd.C k25 wr A3 k Y) ∧ Aside0 (Below w.heap.size w wr)) (fun i _ _ => k - (intOf i).toNat)
                      case atStart => exact ⟨0, 0, Nat.zero_le _, by omega, by omega, rfl, rfl, ⟨rfl⟩, h3, HB⟩
                      case round =>
                        clear h3 HB
                        obtain ⟨t2, H, htk', H0, H1, rfl, rfl, hH, h3, HB⟩ := hrel
                        by_cases htk4 : t2 < k
                        · have hnx : hurtS F (t2 + 1) = H + (if -128 ≤ 100 * (t2 : Int) - F ∧ 100 * (t2 : Int) - F ≤ 128 then 10 else 0) := by rw [hH.out]; rfl
                          have c0 : (0 : Int) ≤ (t2 : Int) := by omega
                          have c1' : (t2 : Int) < (k : Int) := by omega
                          have c2' : (k : Int) ≤ 6 := by omega
                          by_cases d1 : -128 ≤ 100 * (t2 : Int) - F
                          · by_cases d2 : 100 * (t2 : Int) - F ≤ 128
                            · rw [if_pos ⟨d1, d2⟩] at hnx
                              replace hnx := Aside0.mk hnx
                              go_wp2_with fail
                              go_roundw
                              case rel => exact ⟨t2 + 1, H + 10, by omega, by omega, by omega, by go_num, by go_num, ⟨hnx.out.symm⟩, h3, HB⟩
                              case measure => simp [intOf]; omega
                            · rw [if_neg (fun h => d2 h.2), Int.add_zero] at hnx
                              replace hnx := Aside0.mk hnx
                              go_wp2_with fail
                              go_roundw
                              case rel => exact ⟨t2 + 1, H, by omega, by omega, by omega, by go_num, rfl, ⟨hnx.out.symm⟩, h3, HB⟩
                              case measure => simp [intOf]; omega
                          · rw [if_neg (fun h => d1 h.1), Int.add_zero] at hnx
                            replace hnx := Aside0.mk hnx
                            go_wp2_with fail
                            go_roundw
                            case rel => exact ⟨t2 + 1, H, by omega, by omega, by omega, by go_num, rfl, ⟨hnx.out.symm⟩, h3, HB⟩
                            case measure => simp [intOf]; omega
                        · have ht2k : t2 = k := by omega
                          have hH2 : Aside0 (asum Y = S - H) := ⟨by have h1 := hb1.out; rw [← hST.out] at h1; rw [h1, hH.out, ht2k]⟩
                          have z7 : ¬ ((t2 : Int) < (k : Int)) := by omega
                          have H2 : H ≤ 60 := by omega
                          clear hH ht2k
                          go_wp2_with fail
                          go_loopw [23, 22] (fun i v wr => ∃ (t3 : Nat) (M : Int), t3 ≤ k ∧ -10 * (t3 : Int) ≤ M ∧ M ≤ 100 * (t3 : Int) ∧ i = .int .i64 t3 ∧ v = .int .i64 M ∧ Aside0 (M = asum (Y.take t3)) ∧ Aside0 (Kd.C k25 wr A3 k Y) ∧ Aside0 (Below w.heap.size w wr)) (fun i _ _ => k - (intOf i).toNat)
                          case atStart => exact ⟨0, 0, Nat.zero_le _, by omega, by omega, rfl, rfl, ⟨rfl⟩, h3, HB⟩
                          case round =>
                            clear h3 HB
                            obtain ⟨t3, M, ht3, M0, M1, rfl, rfl, hM, h3, HB⟩ := hrel
                            by_cases ht3k : t3 < k
                            · obtain ⟨ad, e1, x0, x1, x2, x3, x4, x5, x6, x7, x8⟩ := at_T25 h3.out (t3 : Int) (by omega) (by omega)
                              rw [Int.toNat_natCast] at x0 x1 x2 x3 x4 x5 x6 x7 x8
                              subst e1
                              have hed : rd_T25 Y (t3 : Int) = Y.getD t3 z25 := rfl
                              have hnx := asum_next Y t3 (by rw [hYl.out]; exact ht3k)
                              have hrg := hb2.out (Y.getD t3 z25) (by rw [List.getD_eq_getElem?_getD, List.getElem?_eq_getElem (show t3 < Y.length by rw [hYl.out]; exact ht3k)]; exact List.getElem_mem _)
                              rw [hed] at x6
                              clear x0 x1 x2 x3 x4 x5 x7 x8 hed
                              generalize (Y.getD t3 z25).f6 = h6 at *
                              rw [← hM.out] at hnx
                              replace hnx := Aside0.mk hnx
                              have b0 : (0 : Int) ≤ (t3 : Int) := by omega
                              have b1 : (t3 : Int) < (k : Int) := by omega
                              obtain ⟨h60, h61⟩ := hrg
                              go_wp2_with fail
                              go_roundw
                              case rel => exact ⟨t3 + 1, M + h6, by omega, by omega, by omega, by go_num, by go_num, ⟨hnx.out.symm⟩, h3, HB⟩
                              case measure => simp [intOf]; omega
                            · have hM2 : M = S - H := by
                                have h1 := hM.out
                                rw [List.take_of_length_le (by rw [hYl.out]; omega), hH2.out] at h1
                                exact h1
                              clear hM M0 M1
                              subst hM2
                              have z8 : ¬ ((t3 : Int) < (k : Int)) := by omega
                              go_wp2_with (first
                                | (go_at_call 8; (with_reducible refine (awake_c _).mono ?_); rintro e w2 ⟨rfl, hb9⟩; replace HB := Aside0.mk (below_then HB.out HB.out.size hb9); clear hb9)
                                | fail)
                              go_ret
                              exact ⟨rfl, HB.out⟩
      · have z1 : (k : Int) < (n : Int) := by omega
        have z2 : ¬ ((k : Int) < 6) := by omega
        clear hx hx2
        go_wp2_with fail
        go_loopw [10, 9] (fun i v wr => ∃ (t : Nat) (S : Int), t ≤ k ∧ 0 ≤ S ∧ S ≤ 100 * t ∧ i = .int .i64 t ∧ v = .int .i64 S ∧ Aside0 (S = asum (L.take t)) ∧ Aside0 (Kd.R k25 25 wr w.heap.size (fun _ => True) (.slice A1 k c1) L) ∧ Aside0 (Below w.heap.size w wr)) (fun i _ _ => k - (intOf i).toNat)
        case atStart => exact ⟨0, 0, Nat.zero_le _, by omega, by omega, rfl, rfl, ⟨rfl⟩, hR, HB⟩
        case round =>
          clear hR HB
          obtain ⟨t, S, htk, S0, S1, rfl, rfl, hS, hR, HB⟩ := hrel
          by_cases htk2 : t < k
          · obtain ⟨ad, e1, x0, x1, x2, x3, x4, x5, x6, x7, x8⟩ := at_T25 (Kd.R_reads' hR.out).2.2 (t : Int) (by omega) (by omega)
            rw [Int.toNat_natCast] at x0 x1 x2 x3 x4 x5 x6 x7 x8
            subst e1
            have hed : rd_T25 L (t : Int) = L.getD t z25 := rfl
            have hnx := asum_next L t (by omega)
            have hrg := hmem.out (L.getD t z25) (by rw [List.getD_eq_getElem?_getD, List.getElem?_eq_getElem (show t < L.length by omega)]; exact List.getElem_mem _)
            rw [hed] at x6
            clear x0 x1 x2 x3 x4 x5 x7 x8 hed
            generalize (L.getD t z25).f6 = h6 at *
            rw [← hS.out] at hnx
            replace hnx := Aside0.mk hnx
            have b0 : (0 : Int) ≤ (t : Int) := by omega
            have b1 : (t : Int) < (k : Int) := by omega
            obtain ⟨h60, h61⟩ := hrg
            go_wp2_with fail
            go_roundw
            case rel => exact ⟨t + 1, S + h6, by omega, by omega, by omega, by go_num, by go_num, ⟨hnx.out.symm⟩, hR, HB⟩
            case measure => simp [intOf]; omega
          · have htk3 : t = k := by omega
            have hST : S = asum L := by
              have := hS.out
              rwa [List.take_of_length_le (by omega)] at this
            replace hST := Aside0.mk hST
            have S2 : S ≤ 600 := by omega
            have z3 : ¬ ((t : Int) < (k : Int)) := by omega
            clear htk3 hS z1 z2
            have hR0 := Aside0.mk (by have := hR.out; rw [← List.append_nil L] at this; exact this : Kd.R k25 25 wr w.heap.size (fun _ => True) (.slice A1 k c1) (L ++ sS (gX l2) 0))
            clear hR
            go_wp2_with fail
            go_loopw [12, 7] (fun i v wr => ∃ (q : Nat) (A2 : Option Addr) (c2 : Nat), q ≤ m ∧ q ≤ 12 ∧ i = .int .i64 q ∧ v = .slice A2 (k + q) c2 ∧ Aside0 (Kd.R k25 25 wr w.heap.size (fun _ => True) (.slice A2 (k + q) c2) (L ++ sS (gX l2) q)) ∧ Aside0 (Below w.heap.size w wr)) (fun i _ _ => m - (intOf i).toNat)
            case atStart => exact ⟨0, A1, c1, Nat.zero_le _, Nat.zero_le _, rfl, rfl, hR0, HB⟩
            case round =>
              clear hR0 HB
              obtain ⟨q, A2, c2, hqm, hq12, rfl, rfl, hR, HB⟩ := hrel
              by_cases hgo : q < m ∧ q < 12
              · obtain ⟨hlt, h6⟩ := hgo
                obtain ⟨ad, e1, hc⟩ := Kd.at_int (Kd.C_below HD.out HB.out) (q : Int) (by omega) (by omega)
                rw [Int.toNat_natCast] at hc
                subst e1
                obtain ⟨r, hr, r0, r1⟩ := rest (rd l2 (q : Int)) 700 (by omega) (by omega)
                have hfk : gX l2 q = r := by unfold gX; rw [hr]
                have hZl : (L ++ sS (gX l2) (q + 1)).length = k + q + 1 := by rw [List.length_append, sS_length]; omega
                have hYl : (L ++ sS (gX l2) q).length = k + q := by rw [List.length_append, sS_length]; omega
                obtain ⟨Z, hZ⟩ : ∃ Z, Z = L ++ sS (gX l2) (q + 1) := ⟨_, rfl⟩
                have hm6 : ∃ m6 : Int, m6 = (q : Int).tmod 6 ∧ 0 ≤ m6 ∧ m6 < 6 := ⟨_, rfl, Int.tmod_nonneg _ (by omega), Int.tmod_lt_of_pos _ (by omega)⟩
                obtain ⟨m6, hm6, m60, m61⟩ := hm6
                have hZ2 : Z = (L ++ sS (gX l2) q) ++ [⟨1000 + q, 2, r, 0, 0, 0, 0, 0, 1 + m6⟩] := by rw [hZ, ← hfk, hm6, List.append_assoc]; rfl
                rw [← hZ] at hZl
                generalize hY : L ++ sS (gX l2) q = Y at *
                generalize rd l2 (q : Int) = a at hc hr
                replace hY := Aside0.mk hY
                replace hZ := Aside0.mk hZ
                replace hZ2 := Aside0.mk hZ2
                replace hZl := Aside0.mk hZl
                replace hm6 := hm6.symm
                clear hfk
                have b0 : (0 : Int) ≤ (q : Int) := by omega
                have b1 : (q : Int) < (m : Int) := by omega
                have b2 : (q : Int) < 12 := by omega
                go_wp2_with (first
                  | ((with_reducible refine gate_dst (N := 90) rfl ?_); (refine Kd.R_append k25 (w0 := w) w.heap.size rfl (.tmp 75) (.tmp 89) 23 25 _ 72 rfl Try.underlying23 info25 rfl (by decide) (by decide) _ Y ⟨1000 + q, 2, r, 0, 0, 0, 0, 0, 1 + m6⟩ [.int .i64 (1000 + (q : Int)), .int .i64 2, .int .i64 r, .int .i64 0, .int .i64 0, .int .i64 0, .int .i64 0, .int .i64 0, .int .i64 (1 + m6)] (fun _ => True) (fun _ => False) rfl (by first | rfl | (simp [Act.eval]; done) | go_simp) (k25_mkM _ _ _ _) (fun _ hk => hk.elim) (fun g hg => trivial) hR.out HB.out HB.out.size (by omega) ?_); intro v4 w4 ho4 hb4 hg4 hat4; rw [← hZ2.out] at ho4; obtain ⟨A4, c4, e4⟩ := Kd.R_slice ho4; subst e4; rw [hZl.out] at ho4; rw [hZl.out]; rw [hZ.out] at ho4; replace ho4 := Aside0.mk ho4; replace HB := Aside0.mk hb4; clear hg4 hat4 hR hb4)
                  | fail)
                go_roundw
                case rel => exact ⟨q + 1, A4, c4, by omega, by omega, by go_num, rfl, ho4, HB⟩
                case measure => simp [intOf]; omega
              · have hLLl : (L ++ sS (gX l2) q).length = k + q := by rw [List.length_append, sS_length]; omega
                have hbnd : ∀ i, i < (L ++ sS (gX l2) q).length → 0 ≤ ((L ++ sS (gX l2) q).getD i z25).f6 ∧ ((L ++ sS (gX l2) q).getD i z25).f6 ≤ 100 := by
                  intro i hi
                  have hme : (L ++ sS (gX l2) q).getD i z25 ∈ L ++ sS (gX l2) q := by
                    rw [List.getD_eq_getElem?_getD, List.getElem?_eq_getElem hi]
                    exact List.getElem_mem hi
                  rcases List.mem_append.1 hme with h | h
                  · have := hmem.out _ h
                    omega
                  · have := sS_mem _ _ _ h
                    omega
                obtain ⟨gn, g0, g1, ho, hh⟩ := shots_sums _ (by omega) hbnd
                have hrng := shots_range _ (by omega) hbnd
                obtain ⟨hq1, hq2⟩ := sS_hsum (gX l2) q
                rw [oth_append, hs2.out, hq2] at ho
                rw [hsum_append, hs1.out, ← hST.out, hq1] at hh
                have hXle := (keep_shot (L ++ sS (gX l2) q)).le
                have k7 := Aside0.mk (fun W (h : Kd.C k25 W A2 (k + q) (L ++ sS (gX l2) q)) => shots_c A2 (k + q) c2 _ W h (by omega))
                have hrd := Kd.R_reads' hR.out
                have hcap : k ≤ c2 := by omega
                have hCL := Aside0.mk hrd.2.2
                clear hrd hbnd hR
                generalize shotF (L ++ sS (gX l2) q) = X at *
                rw [hLLl] at hXle g1
                generalize hLL : L ++ sS (gX l2) q = LL at *
                rw [hLLl] at hCL
                replace hLL := Aside0.mk hLL
                replace hrng := Aside0.mk hrng
                replace ho := Aside0.mk ho
                replace hh := Aside0.mk hh
                replace hLLl := Aside0.mk hLLl
                clear hq1 hq2
                rcases (by omega : q = m ∨ (q < m ∧ q = 12)) with hx | ⟨hx, hx2⟩
                · have z4 : ¬ ((q : Int) < (m : Int)) := by omega
                  clear hx
                  go_wp2_with (first
                    | (go_at_call 7; (with_reducible refine (k7.out _ hCL.out).mono ?_); rintro e w1 ⟨⟨A', n', c', rfl, hx⟩, hb1⟩; obtain ⟨hn1, -, hC1⟩ := Kd.R_reads' hx; subst hn1; clear hx; have hX := Aside0.mk hC1; clear hC1; replace hCL := Aside0.mk (Kd.C_below hCL.out hb1); replace HB := Aside0.mk (below_then HB.out HB.out.size hb1); clear hb1)
                    | fail)
                  go_loopw [16, 14, 15] (fun i a b wr => ∃ (u : Nat) (N O : Int), u ≤ X.length ∧ -2000 * (u : Int) ≤ N ∧ N ≤ 100 * u ∧ 0 ≤ O ∧ O ≤ u ∧ i = .int .i64 u ∧ a = .int .i64 N ∧ b = .int .i64 O ∧ Aside0 (N = hsum (X.take u)) ∧ Aside0 (O = oth (X.take u)) ∧ Aside0 (Kd.C k25 wr A' X.length X) ∧ Aside0 (Kd.C k25 wr A2 (k + q) LL) ∧ Aside0 (Below w.heap.size w wr)) (fun i _ _ _ => X.length - (intOf i).toNat)
                  case atStart => exact ⟨0, 0, 0, Nat.zero_le _, by omega, by omega, by omega, by omega, rfl, rfl, rfl, ⟨rfl⟩, ⟨rfl⟩, hX, hCL, HB⟩
                  case round =>
                    clear hX hCL HB k7
                    obtain ⟨u, N, O, hu, N0, N1, O0, O1, rfl, rfl, rfl, hN, hO, hX, hCL, HB⟩ := hrel
                    by_cases hux : u < X.length
                    · obtain ⟨ad, e1, x0, x1, x2, x3, x4, x5, x6, x7, x8⟩ := at_T25 hX.out (u : Int) (by omega) (by omega)
                      rw [Int.toNat_natCast] at x0 x1 x2 x3 x4 x5 x6 x7 x8
                      subst e1
                      have hed : rd_T25 X (u : Int) = X.getD u z25 := rfl
                      have hnx := hsum_next X u hux
                      have hox := oth_next X u hux
                      have hrg := hrng.out (X.getD u z25) (by rw [List.getD_eq_getElem?_getD, List.getElem?_eq_getElem hux]; exact List.getElem_mem _)
                      rw [hed] at x1 x6
                      clear x0 x2 x3 x4 x5 x7 x8 hed
                      generalize (X.getD u z25).f6 = h6 at *
                      generalize (X.getD u z25).f1 = kd at *
                      rw [← hN.out] at hnx
                      rw [← hO.out] at hox
                      have b0 : (0 : Int) ≤ (u : Int) := by omega
                      have b1 : (u : Int) < (X.length : Int) := by omega
                      obtain ⟨h60, h61⟩ := hrg
                      have b3 : (X.length : Int) ≤ 18 := by omega
                      by_cases hk1 : kd = 1
                      · subst hk1
                        rw [if_pos rfl] at hnx hox
                        replace hnx := Aside0.mk hnx
                        replace hox := Aside0.mk hox
                        go_wp2_with fail
                        go_roundw
                        case rel => exact ⟨u + 1, N + h6, O, by omega, by omega, by omega, by omega, by omega, by go_num, by go_num, rfl, ⟨hnx.out.symm⟩, ⟨by rw [hox.out]; omega⟩, hX, hCL, HB⟩
                        case measure => simp [intOf]; omega
                      · rw [if_neg hk1] at hnx hox
                        have hkb : (kd == 1) = false := beq_eq_false_iff_ne.2 hk1
                        replace hnx := Aside0.mk hnx
                        replace hox := Aside0.mk hox
                        clear hk1
                        go_wp2_with fail
                        go_roundw
                        case rel => exact ⟨u + 1, N, O + 1, by omega, by omega, by omega, by omega, by omega, by go_num, rfl, by go_num, ⟨by rw [hnx.out]; omega⟩, ⟨hox.out.symm⟩, hX, hCL, HB⟩
                        case measure => simp [intOf]; omega
                    · have huX : u = X.length := by omega
                      have hN2 : N = S - gn * 20 := by
                        have h1 := hN.out
                        rw [huX, List.take_length, hh.out] at h1
                        omega
                      have hO2 : O = q - gn := by
                        have h1 := hO.out
                        rw [huX, List.take_length, ho.out] at h1
                        omega
                      clear hN hO N0 N1 O0 O1
                      subst hN2
                      have z6 : ¬ ((u : Int) < (X.length : Int)) := by omega
                      have hgo1 : (k : Int) + (q : Int) - (k : Int) - O = gn := by omega
                      have hgo2 : (q : Int) - O = gn := by omega
                      have O0 : -100 ≤ O := by omega
                      have O1 : O ≤ 100 := by omega
                      clear hO2
                      have gn1 : gn ≤ 18 := by omega
                      have hLL2 : LL = L ++ sS (gX l2) q := hLL.out.symm
                      have hC2 := Aside0.mk (by have h1 := hCL.out; rw [hLL2] at h1; exact C_first h1 hLl : Kd.C k25 wr A2 k L)
                      have k11 := Aside0.mk (fun (W : World) (h : Kd.C k25 (W.alloc (.cells #[.int .i64 2, .int .i64 0, .int .i64 0, .int .i64 0, .int .i64 0, .int .i64 0, .int .i64 0, .int .i64 0, .int .i64 0, .int .i64 0, .int .i64 0, .int .i64 0, .int .i64 0, .int .i64 F, .int .i64 0] 33)) A2 k L) => blasts_c A2 (some ⟨W.heap.size, 0, none⟩) k c2 1 1 L (crossL F) _ h (by omega) (CR_lit W F) (by omega))
                      have hYe : blastsF (crossL F) L 1 = L.map (bF 2 F 0) := rfl
                      rw [hYe] at k11
                      have hYl : (L.map (bF 2 F 0)).length = k := by rw [List.length_map, hLl]
                      generalize L.map (bF 2 F 0) = Y at *
                      clear hYe hLL2 hX hCL
                      replace hYl := Aside0.mk hYl
                      go_wp2_with (first
                        | (go_at_call 11; (with_reducible refine (k11.out _ (Kd.C_alloc hC2.out _)).mono ?_); rintro e w3 ⟨⟨A3, c3, rfl, h3⟩, hb3⟩; replace h3 := Aside0.mk h3; replace HB := Aside0.mk (below_then (HB.out.alloc HB.out.size _) (HB.out.alloc HB.out.size _).size hb3); clear hb3)
                        | fail)
                      clear k11 hC2
                      have hb1' := hb1
                      go_loopw [20, 19] (fun i v wr => ∃ (t2 : Nat) (H : Int), t2 ≤ k ∧ 0 ≤ H ∧ H ≤ 10 * (t2 : Int) ∧ i = .int .i64 t2 ∧ v = .int .i64 H ∧ Aside0 (H = hurtS F t2) ∧ Aside0 (Kd.C k25 wr A3 k Y) ∧ Aside0 (Below w.heap.size w wr)) (fun i _ _ => k - (intOf i).toNat)
                      case atStart => exact ⟨0, 0, Nat.zero_le _, by omega, by omega, rfl, rfl, ⟨rfl⟩, h3, HB⟩
                      case round =>
                        clear h3 HB
                        obtain ⟨t2, H, htk', H0, H1, rfl, rfl, hH, h3, HB⟩ := hrel
                        by_cases htk4 : t2 < k
                        · have hnx : hurtS F (t2 + 1) = H + (if -128 ≤ 100 * (t2 : Int) - F ∧ 100 * (t2 : Int) - F ≤ 128 then 10 else 0) := by rw [hH.out]; rfl
                          have c0 : (0 : Int) ≤ (t2 : Int) := by omega
                          have c1' : (t2 : Int) < (k : Int) := by omega
                          have c2' : (k : Int) ≤ 6 := by omega
                          by_cases d1 : -128 ≤ 100 * (t2 : Int) - F
                          · by_cases d2 : 100 * (t2 : Int) - F ≤ 128
                            · rw [if_pos ⟨d1, d2⟩] at hnx
                              replace hnx := Aside0.mk hnx
                              go_wp2_with fail
                              go_roundw
                              case rel => exact ⟨t2 + 1, H + 10, by omega, by omega, by omega, by go_num, by go_num, ⟨hnx.out.symm⟩, h3, HB⟩
                              case measure => simp [intOf]; omega
                            · rw [if_neg (fun h => d2 h.2), Int.add_zero] at hnx
                              replace hnx := Aside0.mk hnx
                              go_wp2_with fail
                              go_roundw
                              case rel => exact ⟨t2 + 1, H, by omega, by omega, by omega, by go_num, rfl, ⟨hnx.out.symm⟩, h3, HB⟩
                              case measure => simp [intOf]; omega
                          · rw [if_neg (fun h => d1 h.1), Int.add_zero] at hnx
                            replace hnx := Aside0.mk hnx
                            go_wp2_with fail
                            go_roundw
                            case rel => exact ⟨t2 + 1, H, by omega, by omega, by omega, by go_num, rfl, ⟨hnx.out.symm⟩, h3, HB⟩
                            case measure => simp [intOf]; omega
                        · have ht2k : t2 = k := by omega
                          have hH2 : Aside0 (asum Y = S - H) := ⟨by have h1 := hb1.out; rw [← hST.out] at h1; rw [h1, hH.out, ht2k]⟩
                          have z7 : ¬ ((t2 : Int) < (k : Int)) := by omega
                          have H2 : H ≤ 60 := by omega
                          clear hH ht2k
                          go_wp2_with fail
                          go_loopw [23, 22] (fun i v wr => ∃ (t3 : Nat) (M : Int), t3 ≤ k ∧ -10 * (t3 : Int) ≤ M ∧ M ≤ 100 * (t3 : Int) ∧ i = .int .i64 t3 ∧ v = .int .i64 M ∧ Aside0 (M = asum (Y.take t3)) ∧ Aside0 (Kd.C k25 wr A3 k Y) ∧ Aside0 (Below w.heap.size w wr)) (fun i _ _ => k - (intOf i).toNat)
                          case atStart => exact ⟨0, 0, Nat.zero_le _, by omega, by omega, rfl, rfl, ⟨rfl⟩, h3, HB⟩
                          case round =>
                            clear h3 HB
                            obtain ⟨t3, M, ht3, M0, M1, rfl, rfl, hM, h3, HB⟩ := hrel
                            by_cases ht3k : t3 < k
                            · obtain ⟨ad, e1, x0, x1, x2, x3, x4, x5, x6, x7, x8⟩ := at_T25 h3.out (t3 : Int) (by omega) (by omega)
                              rw [Int.toNat_natCast] at x0 x1 x2 x3 x4 x5 x6 x7 x8
                              subst e1
                              have hed : rd_T25 Y (t3 : Int) = Y.getD t3 z25 := rfl
                              have hnx := asum_next Y t3 (by rw [hYl.out]; exact ht3k)
                              have hrg := hb2.out (Y.getD t3 z25) (by rw [List.getD_eq_getElem?_getD, List.getElem?_eq_getElem (show t3 < Y.length by rw [hYl.out]; exact ht3k)]; exact List.getElem_mem _)
                              rw [hed] at x6
                              clear x0 x1 x2 x3 x4 x5 x7 x8 hed
                              generalize (Y.getD t3 z25).f6 = h6 at *
                              rw [← hM.out] at hnx
                              replace hnx := Aside0.mk hnx
                              have b0 : (0 : Int) ≤ (t3 : Int) := by omega
                              have b1 : (t3 : Int) < (k : Int) := by omega
                              obtain ⟨h60, h61⟩ := hrg
                              go_wp2_with fail
                              go_roundw
                              case rel => exact ⟨t3 + 1, M + h6, by omega, by omega, by omega, by go_num, by go_num, ⟨hnx.out.symm⟩, h3, HB⟩
                              case measure => simp [intOf]; omega
                            · have hM2 : M = S - H := by
                                have h1 := hM.out
                                rw [List.take_of_length_le (by rw [hYl.out]; omega), hH2.out] at h1
                                exact h1
                              clear hM M0 M1
                              subst hM2
                              have z8 : ¬ ((t3 : Int) < (k : Int)) := by omega
                              go_wp2_with (first
                                | (go_at_call 8; (with_reducible refine (awake_c _).mono ?_); rintro e w2 ⟨rfl, hb9⟩; replace HB := Aside0.mk (below_then HB.out HB.out.size hb9); clear hb9)
                                | fail)
                              go_ret
                              exact ⟨rfl, HB.out⟩
                · have z4 : (q : Int) < (m : Int) := by omega
                  have z5 : ¬ ((q : Int) < 12) := by omega
                  clear hx hx2
                  go_wp2_with (first
                    | (go_at_call 7; (with_reducible refine (k7.out _ hCL.out).mono ?_); rintro e w1 ⟨⟨A', n', c', rfl, hx⟩, hb1⟩; obtain ⟨hn1, -, hC1⟩ := Kd.R_reads' hx; subst hn1; clear hx; have hX := Aside0.mk hC1; clear hC1; replace hCL := Aside0.mk (Kd.C_below hCL.out hb1); replace HB := Aside0.mk (below_then HB.out HB.out.size hb1); clear hb1)
                    | fail)
                  go_loopw [16, 14, 15] (fun i a b wr => ∃ (u : Nat) (N O : Int), u ≤ X.length ∧ -2000 * (u : Int) ≤ N ∧ N ≤ 100 * u ∧ 0 ≤ O ∧ O ≤ u ∧ i = .int .i64 u ∧ a = .int .i64 N ∧ b = .int .i64 O ∧ Aside0 (N = hsum (X.take u)) ∧ Aside0 (O = oth (X.take u)) ∧ Aside0 (Kd.C k25 wr A' X.length X) ∧ Aside0 (Kd.C k25 wr A2 (k + q) LL) ∧ Aside0 (Below w.heap.size w wr)) (fun i _ _ _ => X.length - (intOf i).toNat)
                  case atStart => exact ⟨0, 0, 0, Nat.zero_le _, by omega, by omega, by omega, by omega, rfl, rfl, rfl, ⟨rfl⟩, ⟨rfl⟩, hX, hCL, HB⟩
                  case round =>
                    clear hX hCL HB k7
                    obtain ⟨u, N, O, hu, N0, N1, O0, O1, rfl, rfl, rfl, hN, hO, hX, hCL, HB⟩ := hrel
                    by_cases hux : u < X.length
                    · obtain ⟨ad, e1, x0, x1, x2, x3, x4, x5, x6, x7, x8⟩ := at_T25 hX.out (u : Int) (by omega) (by omega)
                      rw [Int.toNat_natCast] at x0 x1 x2 x3 x4 x5 x6 x7 x8
                      subst e1
                      have hed : rd_T25 X (u : Int) = X.getD u z25 := rfl
                      have hnx := hsum_next X u hux
                      have hox := oth_next X u hux
                      have hrg := hrng.out (X.getD u z25) (by rw [List.getD_eq_getElem?_getD, List.getElem?_eq_getElem hux]; exact List.getElem_mem _)
                      rw [hed] at x1 x6
                      clear x0 x2 x3 x4 x5 x7 x8 hed
                      generalize (X.getD u z25).f6 = h6 at *
                      generalize (X.getD u z25).f1 = kd at *
                      rw [← hN.out] at hnx
                      rw [← hO.out] at hox
                      have b0 : (0 : Int) ≤ (u : Int) := by omega
                      have b1 : (u : Int) < (X.length : Int) := by omega
                      obtain ⟨h60, h61⟩ := hrg
                      have b3 : (X.length : Int) ≤ 18 := by omega
                      by_cases hk1 : kd = 1
                      · subst hk1
                        rw [if_pos rfl] at hnx hox
                        replace hnx := Aside0.mk hnx
                        replace hox := Aside0.mk hox
                        go_wp2_with fail
                        go_roundw
                        case rel => exact ⟨u + 1, N + h6, O, by omega, by omega, by omega, by omega, by omega, by go_num, by go_num, rfl, ⟨hnx.out.symm⟩, ⟨by rw [hox.out]; omega⟩, hX, hCL, HB⟩
                        case measure => simp [intOf]; omega
                      · rw [if_neg hk1] at hnx hox
                        have hkb : (kd == 1) = false := beq_eq_false_iff_ne.2 hk1
                        replace hnx := Aside0.mk hnx
                        replace hox := Aside0.mk hox
                        clear hk1
                        go_wp2_with fail
                        go_roundw
                        case rel => exact ⟨u + 1, N, O + 1, by omega, by omega, by omega, by omega, by omega, by go_num, rfl, by go_num, ⟨by rw [hnx.out]; omega⟩, ⟨hox.out.symm⟩, hX, hCL, HB⟩
                        case measure => simp [intOf]; omega
                    · have huX : u = X.length := by omega
                      have hN2 : N = S - gn * 20 := by
                        have h1 := hN.out
                        rw [huX, List.take_length, hh.out] at h1
                        omega
                      have hO2 : O = q - gn := by
                        have h1 := hO.out
                        rw [huX, List.take_length, ho.out] at h1
                        omega
                      clear hN hO N0 N1 O0 O1
                      subst hN2
                      have z6 : ¬ ((u : Int) < (X.length : Int)) := by omega
                      have hgo1 : (k : Int) + (q : Int) - (k : Int) - O = gn := by omega
                      have hgo2 : (q : Int) - O = gn := by omega
                      have O0 : -100 ≤ O := by omega
                      have O1 : O ≤ 100 := by omega
                      clear hO2
                      have gn1 : gn ≤ 18 := by omega
                      have hLL2 : LL = L ++ sS (gX l2) q := hLL.out.symm
                      have hC2 := Aside0.mk (by have h1 := hCL.out; rw [hLL2] at h1; exact C_first h1 hLl : Kd.C k25 wr A2 k L)
                      have k11 := Aside0.mk (fun (W : World) (h : Kd.C k25 (W.alloc (.cells #[.int .i64 2, .int .i64 0, .int .i64 0, .int .i64 0, .int .i64 0, .int .i64 0, .int .i64 0, .int .i64 0, .int .i64 0, .int .i64 0, .int .i64 0, .int .i64 0, .int .i64 0, .int .i64 F, .int .i64 0] 33)) A2 k L) => blasts_c A2 (some ⟨W.heap.size, 0, none⟩) k c2 1 1 L (crossL F) _ h (by omega) (CR_lit W F) (by omega))
                      have hYe : blastsF (crossL F) L 1 = L.map (bF 2 F 0) := rfl
                      rw [hYe] at k11
                      have hYl : (L.map (bF 2 F 0)).length = k := by rw [List.length_map, hLl]
                      generalize L.map (bF 2 F 0) = Y at *
                      clear hYe hLL2 hX hCL
                      replace hYl := Aside0.mk hYl
                      go_wp2_with (first
                        | (go_at_call 11; (with_reducible refine (k11.out _ (Kd.C_alloc hC2.out _)).mono ?_); rintro e w3 ⟨⟨A3, c3, rfl, h3⟩, hb3⟩; replace h3 := Aside0.mk h3; replace HB := Aside0.mk (below_then (HB.out.alloc HB.out.size _) (HB.out.alloc HB.out.size _).size hb3); clear hb3)
                        | fail)
                      clear k11 hC2
                      have hb1' := hb1
                      go_loopw [20, 19] (fun i v wr => ∃ (t2 : Nat) (H : Int), t2 ≤ k ∧ 0 ≤ H ∧ H ≤ 10 * (t2 : Int) ∧ i = .int .i64 t2 ∧ v = .int .i64 H ∧ Aside0 (H = hurtS F t2) ∧ Aside0 (Kd.C k25 wr A3 k Y) ∧ Aside0 (Below w.heap.size w wr)) (fun i _ _ => k - (intOf i).toNat)
                      case atStart => exact ⟨0, 0, Nat.zero_le _, by omega, by omega, rfl, rfl, ⟨rfl⟩, h3, HB⟩
                      case round =>
                        clear h3 HB
                        obtain ⟨t2, H, htk', H0, H1, rfl, rfl, hH, h3, HB⟩ := hrel
                        by_cases htk4 : t2 < k
                        · have hnx : hurtS F (t2 + 1) = H + (if -128 ≤ 100 * (t2 : Int) - F ∧ 100 * (t2 : Int) - F ≤ 128 then 10 else 0) := by rw [hH.out]; rfl
                          have c0 : (0 : Int) ≤ (t2 : Int) := by omega
                          have c1' : (t2 : Int) < (k : Int) := by omega
                          have c2' : (k : Int) ≤ 6 := by omega
                          by_cases d1 : -128 ≤ 100 * (t2 : Int) - F
                          · by_cases d2 : 100 * (t2 : Int) - F ≤ 128
                            · rw [if_pos ⟨d1, d2⟩] at hnx
                              replace hnx := Aside0.mk hnx
                              go_wp2_with fail
                              go_roundw
                              case rel => exact ⟨t2 + 1, H + 10, by omega, by omega, by omega, by go_num, by go_num, ⟨hnx.out.symm⟩, h3, HB⟩
                              case measure => simp [intOf]; omega
                            · rw [if_neg (fun h => d2 h.2), Int.add_zero] at hnx
                              replace hnx := Aside0.mk hnx
                              go_wp2_with fail
                              go_roundw
                              case rel => exact ⟨t2 + 1, H, by omega, by omega, by omega, by go_num, rfl, ⟨hnx.out.symm⟩, h3, HB⟩
                              case measure => simp [intOf]; omega
                          · rw [if_neg (fun h => d1 h.1), Int.add_zero] at hnx
                            replace hnx := Aside0.mk hnx
                            go_wp2_with fail
                            go_roundw
                            case rel => exact ⟨t2 + 1, H, by omega, by omega, by omega, by go_num, rfl, ⟨hnx.out.symm⟩, h3, HB⟩
                            case measure => simp [intOf]; omega
                        · have ht2k : t2 = k := by omega
                          have hH2 : Aside0 (asum Y = S - H) := ⟨by have h1 := hb1.out; rw [← hST.out] at h1; rw [h1, hH.out, ht2k]⟩
                          have z7 : ¬ ((t2 : Int) < (k : Int)) := by omega
                          have H2 : H ≤ 60 := by omega
                          clear hH ht2k
                          go_wp2_with fail
                          go_loopw [23, 22] (fun i v wr => ∃ (t3 : Nat) (M : Int), t3 ≤ k ∧ -10 * (t3 : Int) ≤ M ∧ M ≤ 100 * (t3 : Int) ∧ i = .int .i64 t3 ∧ v = .int .i64 M ∧ Aside0 (M = asum (Y.take t3)) ∧ Aside0 (Kd.C k25 wr A3 k Y) ∧ Aside0 (Below w.heap.size w wr)) (fun i _ _ => k - (intOf i).toNat)
                          case atStart => exact ⟨0, 0, Nat.zero_le _, by omega, by omega, rfl, rfl, ⟨rfl⟩, h3, HB⟩
                          case round =>
                            clear h3 HB
                            obtain ⟨t3, M, ht3, M0, M1, rfl, rfl, hM, h3, HB⟩ := hrel
                            by_cases ht3k : t3 < k
                            · obtain ⟨ad, e1, x0, x1, x2, x3, x4, x5, x6, x7, x8⟩ := at_T25 h3.out (t3 : Int) (by omega) (by omega)
                              rw [Int.toNat_natCast] at x0 x1 x2 x3 x4 x5 x6 x7 x8
                              subst e1
                              have hed : rd_T25 Y (t3 : Int) = Y.getD t3 z25 := rfl
                              have hnx := asum_next Y t3 (by rw [hYl.out]; exact ht3k)
                              have hrg := hb2.out (Y.getD t3 z25) (by rw [List.getD_eq_getElem?_getD, List.getElem?_eq_getElem (show t3 < Y.length by rw [hYl.out]; exact ht3k)]; exact List.getElem_mem _)
                              rw [hed] at x6
                              clear x0 x1 x2 x3 x4 x5 x7 x8 hed
                              generalize (Y.getD t3 z25).f6 = h6 at *
                              rw [← hM.out] at hnx
                              replace hnx := Aside0.mk hnx
                              have b0 : (0 : Int) ≤ (t3 : Int) := by omega
                              have b1 : (t3 : Int) < (k : Int) := by omega
                              obtain ⟨h60, h61⟩ := hrg
                              go_wp2_with fail
                              go_roundw
                              case rel => exact ⟨t3 + 1, M + h6, by omega, by omega, by omega, by go_num, by go_num, ⟨hnx.out.symm⟩, h3, HB⟩
                              case measure => simp [intOf]; omega
                            · have hM2 : M = S - H := by
                                have h1 := hM.out
                                rw [List.take_of_length_le (by rw [hYl.out]; omega), hH2.out] at h1
                                exact h1
                              clear hM M0 M1
                              subst hM2
                              have z8 : ¬ ((t3 : Int) < (k : Int)) := by omega
                              go_wp2_with (first
                                | (go_at_call 8; (with_reducible refine (awake_c _).mono ?_); rintro e w2 ⟨rfl, hb9⟩; replace HB := Aside0.mk (below_then HB.out HB.out.size hb9); clear hb9)
                                | fail)
                              go_ret
                              exact ⟨rfl, HB.out⟩
end Go.Proofs.Ytjgedonhfiifmaa.Hit
