/- The walk through RingFrames: it returns true and what lay in memory stays; for every three numbers. -/
import Derived.Test.YtompkbganljbkaaAwake
import Derived.Deep.Cut
namespace Go.Proofs.Ytompkbganljbkaa.Rin
open Go Go.RowKit Go.Proofs.Ytompkbganljbkaa.PRingPlays Go.Proofs.YtompkbganljbkaaW.PrintWords Go.Proofs.YtompkbganljbkaaW.PrintLast Go.Proofs.YtompkbganljbkaaW.PrintMore
set_option linter.unusedVariables false
set_option linter.unusedSimpArgs false
theorem rest (a m : Int) (hm : 0 < m) (hm2 : m ≤ 1000000) : ∃ r : Nat, wrap64 ((IntKind.u64.wrap a).tmod m) = (r : Int) ∧ (r : Int) < m := by
  have hu : 0 ≤ IntKind.u64.wrap a := by rw [IntKind.wrap_u64]; omega
  have h0 : 0 ≤ (IntKind.u64.wrap a).tmod m := Int.tmod_nonneg m hu
  have h1 : (IntKind.u64.wrap a).tmod m < m := Int.tmod_lt_of_pos _ hm
  have h2 : wrap64 ((IntKind.u64.wrap a).tmod m) = (IntKind.u64.wrap a).tmod m := by unfold wrap64; omega
  rw [h2]
  exact ⟨((IntKind.u64.wrap a).tmod m).toNat, by omega, by omega⟩
theorem wraps (g q m : Nat) (hg : g < 1000) (hq : 1 ≤ q ∧ q ≤ 80) (hm : 1 ≤ m ∧ m ≤ 32) : wrap64 ((g : Int) + (q : Int)) = (g : Int) + (q : Int) ∧ wrap64 ((g : Int) + (q : Int) + 2) = (g : Int) + (q : Int) + 2 ∧ wrap64 ((g : Int) + (q : Int) - (m : Int)) = (g : Int) + (q : Int) - (m : Int) ∧ wrap64 ((g : Int) + (q : Int) - 1) = (g : Int) + (q : Int) - 1 ∧ wrap64 ((g : Int) + (q : Int) + 1) = (g : Int) + (q : Int) + 1 := by
  unfold wrap64
  refine ⟨by omega, by omega, by omega, by omega, by omega⟩
theorem lims (g q m : Nat) (l0 : Int) (n : Nat) (hn : n = min q m) (hl : l0 = (g : Int) + ((q - m : Nat) : Int)) (hg : g < 1000) (hq : 1 ≤ q ∧ q ≤ 80) (hm : 1 ≤ m ∧ m ≤ 32) : -1000000 ≤ l0 ∧ l0 ≤ 1000000 ∧ l0 = max (g : Int) ((g : Int) + (q : Int) - (m : Int)) ∧ l0 + (n : Int) = (g : Int) + (q : Int) ∧ 0 < n ∧ n ≤ 1000 := by
  refine ⟨by omega, by omega, by omega, by omega, by omega, by omega⟩
theorem nxt_len (m : Nat) (F : List S29) (x : S29) (h : F.length ≤ m) (hm : 1 ≤ m) : (nxt m F x).length = min (F.length + 1) m := by
  unfold nxt
  split
  · rw [List.length_eraseIdx_of_lt (by simp), List.length_append, List.length_singleton]; omega
  · rw [List.length_append, List.length_singleton]; omega
theorem nxt_all (m : Nat) (F : List S29) (x : S29) (h : ∀ y ∈ F, y.f1 = []) (hx : x.f1 = []) : ∀ y ∈ nxt m F x, y.f1 = [] := by
  intro y hy
  have hy2 : y ∈ F ++ [x] := by
    unfold nxt at hy
    split at hy
    · exact List.mem_of_mem_eraseIdx hy
    · exact hy
  rcases List.mem_append.1 hy2 with h1 | h1
  · exact h y h1
  · rw [List.mem_singleton.1 h1]; exact hx
set_option maxRecDepth 100000 in
set_option maxHeartbeats 8000000 in
theorem frames_walk (size from_ n : Int) (w : World) :
    Calls Try.prog 3 #[.int .i64 size, .int .i64 from_, .int .i64 n] w fun e w' => e = .returned (.bool true) ∧ Below w.heap.size w w' := by
  obtain ⟨m, hm⟩ : ∃ m : Nat, (m : Int) = max 1 (min size 32) := ⟨(max 1 (min size 32)).toNat, by omega⟩
  have kn := Aside0.mk (new_c size m hm w)
  obtain ⟨g, hg, hg1⟩ := rest from_ 1000 (by omega) (by omega)
  obtain ⟨q', hq, hq1⟩ := rest n 80 (by omega) (by omega)
  obtain ⟨q, hqq⟩ : ∃ q, q = 1 + q' := ⟨_, rfl⟩
  have hq2 : wrap64 (1 + (q' : Int)) = (q : Int) := by unfold wrap64; omega
  have hq3 : 1 + (q' : Int) = (q : Int) := by omega
  have hm1 : Aside0 (1 ≤ m ∧ m ≤ 32) := ⟨by omega⟩
  have hg2 : Aside0 (g < 1000) := ⟨by omega⟩
  have hq4 : Aside0 (1 ≤ q ∧ q ≤ 80) := ⟨by omega⟩
  replace hqq := Aside0.mk hqq
  replace hm := Aside0.mk hm
  go_enter Try.func3, Try.ntmps3
  go_upto_region 4 with (first
    | (go_at_call 7; (with_reducible refine kn.out.mono ?_); rintro e w1 ⟨⟨B, S, rfl, hR⟩, hb⟩; have hR1 := Aside0.mk hR; have hb1 := Aside0.mk hb; clear hR hb)
    | (go_at_call 8; (with_reducible refine (awake_c _).mono ?_); rintro e w2 ⟨rfl, hb⟩; (have hR2 := Aside0.mk (fun f0 => (hR1.out f0).below hb)); (have hb2 := Aside0.mk (below_then hb1.out hb1.out.size hb)); clear hb)
    | fail)
  go_cut [0, 1, 2] from 12 (fun a b c w' => a = .int .i64 (m : Int) ∧ b = .int .i64 (g : Int) ∧ c = .int .i64 (q : Int) ∧ Aside0 (∀ f0, Rg w' B S w.heap.size (.slice none 0 0) m f0 []) ∧ Aside0 (Below w.heap.size w w'))
  case first =>
    have z1 : Aside0 (max (1 : Int) (min size 32) = (m : Int)) := ⟨by have := hm.out; omega⟩
    go_wp2_with fail
    all_goals go_meet
    all_goals exact ⟨by have := hm.out; congr 1; omega, rfl, rfl, hR2, hb2⟩
  case rest =>
    obtain ⟨rfl, rfl, rfl, hR, hb⟩ := hcut
    clear hR1 hb1 hR2 hb2 kn
    replace hg := Aside0.mk hg
    replace hq := Aside0.mk hq
    replace hq2 := Aside0.mk hq2
    go_wp2_with fail
    go_loopw [8] (fun i wr => ∃ (k : Nat) (v : Value) (F : List S29), k ≤ q ∧ i = .int .i64 k ∧ Aside0 (Rg wr B S w.heap.size v m ((g : Int) + ((k - m : Nat) : Int)) F) ∧ Aside0 (F.length = min k m ∧ ∀ x ∈ F, x.f1 = []) ∧ Aside0 (Below w.heap.size w wr)) (fun i _ => q - (intOf i).toNat)
    case atStart => exact ⟨0, _, _, Nat.zero_le _, rfl, ⟨hR.out _⟩, ⟨by simp, fun x hx => by simp at hx⟩, hb⟩
    case round =>
      clear hR hb
      obtain ⟨k, v, F, hk, rfl, hR, hF, hb⟩ := hrel
      by_cases hkq : k < q
      · have z1 : wrap64 ((g : Int) + (k : Int)) = (g : Int) + (k : Int) := by have := hg2.out; have := hq4.out; unfold wrap64; omega
        have z2 : (k : Int) < (q : Int) := by omega
        have kp := put_c ((g : Int) + (k : Int)) none 0 0 [] B S w.heap.size m v _ F w wr hR.out hb.out hb.out.size hm1.out.1 (by have := hg2.out; have := hq4.out; omega) (by rw [hF.out.1]; have := hm1.out; omega) (by rw [hF.out.1]; omega) (fun W' _ _ => C_none w W') (by omega)
        have hl2 := nxt_len m F ⟨(g : Int) + (k : Int), []⟩ (by rw [hF.out.1]; omega) hm1.out.1
        have ha2 := Aside0.mk (nxt_all m F ⟨(g : Int) + (k : Int), []⟩ hF.out.2 rfl)
        have hf2 : nf0 m ((g : Int) + ((k - m : Nat) : Int)) F = (g : Int) + ((k + 1 - m : Nat) : Int) := by
          unfold nf0
          have h1 := hF.out.1
          split <;> omega
        rw [hf2] at kp
        replace hl2 : Aside0 ((nxt m F ⟨(g : Int) + (k : Int), []⟩).length = min (k + 1) m) := ⟨by rw [hl2, hF.out.1]; omega⟩
        generalize nxt m F ⟨(g : Int) + (k : Int), []⟩ = F2 at *
        replace kp := Aside0.mk kp
        clear hf2
        go_wp2_with (first
          | (go_at_call 9; (with_reducible refine kp.out.mono ?_); rintro e w3 ⟨rfl, ⟨v3, hR3, _⟩, hb3, _⟩; replace hR3 := Aside0.mk hR3; replace hb3 := Aside0.mk hb3)
          | fail)
        go_roundw
        case rel => exact ⟨k + 1, v3, F2, by omega, by go_num, hR3, ⟨hl2.out, ha2.out⟩, hb3⟩
        case measure => simp [intOf]; omega
      · have hkk : k = q := by omega
        have z2 : ¬ ((k : Int) < (q : Int)) := by omega
        replace hR : Aside0 (Rg wr B S w.heap.size v m ((g : Int) + ((q - m : Nat) : Int)) F) := ⟨hkk ▸ hR.out⟩
        replace hF : Aside0 (F.length = min q m ∧ ∀ x ∈ F, x.f1 = []) := ⟨hkk ▸ hF.out⟩
        have zw1 : wrap64 ((g : Int) - 2) = (g : Int) - 2 := by have := hg2.out; unfold wrap64; omega
        clear hkk hkq hk
        go_wp2_with fail
        --L2
        clear zw1
        have hz : Aside0 (wrap64 ((g : Int) + (q : Int)) = (g : Int) + (q : Int) ∧ wrap64 ((g : Int) + (q : Int) + 2) = (g : Int) + (q : Int) + 2 ∧ wrap64 ((g : Int) + (q : Int) - (m : Int)) = (g : Int) + (q : Int) - (m : Int) ∧ wrap64 ((g : Int) + (q : Int) - 1) = (g : Int) + (q : Int) - 1 ∧ wrap64 ((g : Int) + (q : Int) + 1) = (g : Int) + (q : Int) + 1) := ⟨wraps g q m hg2.out hq4.out hm1.out⟩
        obtain ⟨l0, hl0⟩ : ∃ l0, l0 = (g : Int) + ((q - m : Nat) : Int) := ⟨_, rfl⟩
        rw [← hl0] at hR
        have hl1 : Aside0 (-1000000 ≤ l0 ∧ l0 ≤ 1000000 ∧ l0 = max (g : Int) ((g : Int) + (q : Int) - (m : Int)) ∧ l0 + (F.length : Int) = (g : Int) + (q : Int) ∧ 0 < F.length ∧ F.length ≤ 1000) := ⟨lims g q m l0 F.length hF.out.1 hl0 hg2.out hq4.out hm1.out⟩
        replace hl0 := Aside0.mk hl0
        clear z2
        generalize hG : (g : Int) = G at *
        generalize hQ : (q : Int) = Q at *
        generalize hM : (m : Int) = M at *
        replace hG := Aside0.mk hG
        replace hQ := Aside0.mk hQ
        replace hM := Aside0.mk hM
        go_loopw [9] (fun fv wr => ∃ (j : Nat), j ≤ q + 4 ∧ fv = .int .i64 (G - 2 + (j : Int)) ∧ Aside0 (Rg wr B S w.heap.size v m l0 F) ∧ Aside0 (Below w.heap.size w wr)) (fun fv _ => q + 4 - (intOf fv - (G - 2)).toNat)
        case atStart => exact ⟨0, Nat.zero_le _, by congr 1; omega, hR, hb⟩
        case round =>
          clear hR hb
          obtain ⟨j, hj, rfl, hR, hb⟩ := hrel
          obtain ⟨f, hf⟩ : ∃ f, f = G - 2 + (j : Int) := ⟨_, rfl⟩
          rw [← hf]
          by_cases hjq : j < q + 4
          · have y1 : f < G + Q + 2 := by have := hQ.out; omega
            have y2 : Aside0 (wrap64 (f + 1) = f + 1) := ⟨by have := hg2.out; have := hq4.out; have := hG.out; have := hQ.out; unfold wrap64; omega⟩
            rcases (by have := hM.out; have := hm1.out; omega : f < G ∨ (G ≤ f ∧ f < G + Q - M) ∨ (G ≤ f ∧ G + Q - M ≤ f ∧ f < G + Q) ∨ (G ≤ f ∧ G + Q ≤ f)) with c1 | ⟨c1, c2⟩ | ⟨c1, c2, c3⟩ | ⟨c1, c2⟩
            · have d1 : ¬ (G ≤ f) := by omega
              have kg := Aside0.mk (getOut_c (.pointer (some ⟨B, 0, none⟩)) f wr (fun W hB => atLow_c f B S w.heap.size m v l0 F W (hR.out.below hB) hl1.out.2.2.2.2.1 (by have := hl1.out.2.2.1; omega)))
              replace hf := Aside0.mk hf
              obtain ⟨zq1, zq2, zq3, zq4, zq5⟩ := hz.out
              have y3 := y2.out
              go_wp2_with (first
                | (go_at_call 10; (with_reducible refine kg.out.mono ?_); rintro e w3 ⟨rfl, hbb⟩; (have hR3 := Aside0.mk (hR.out.below hbb)); (have hb3 := Aside0.mk (below_then hb.out hb.out.size hbb)); clear hbb)
                | fail)
              go_roundw
              case rel =>
                clear zq1 zq2 zq3 zq4 zq5 y3
                exact ⟨j + 1, by omega, by rw [y2.out]; have := hf.out; congr 1; omega, ⟨hR3.out.below ((Below.refl _ _).alloc (Nat.le_refl _) _)⟩, ⟨hb3.out.alloc hb3.out.size _⟩⟩
              case measure =>
                clear zq1 zq2 zq3 zq4 zq5 y3
                have := hf.out
                rw [y2.out]
                simp [intOf]
                omega
            · have d1 : ¬ (G + Q - M ≤ f) := by omega
              have kg := Aside0.mk (getOut_c (.pointer (some ⟨B, 0, none⟩)) f wr (fun W hB => atLow_c f B S w.heap.size m v l0 F W (hR.out.below hB) hl1.out.2.2.2.2.1 (by have := hl1.out.2.2.1; omega)))
              replace hf := Aside0.mk hf
              obtain ⟨zq1, zq2, zq3, zq4, zq5⟩ := hz.out
              have y3 := y2.out
              go_wp2_with (first
                | (go_at_call 10; (with_reducible refine kg.out.mono ?_); rintro e w3 ⟨rfl, hbb⟩; (have hR3 := Aside0.mk (hR.out.below hbb)); (have hb3 := Aside0.mk (below_then hb.out hb.out.size hbb)); clear hbb)
                | fail)
              go_roundw
              case rel =>
                clear zq1 zq2 zq3 zq4 zq5 y3
                exact ⟨j + 1, by omega, by rw [y2.out]; have := hf.out; congr 1; omega, ⟨hR3.out.below ((Below.refl _ _).alloc (Nat.le_refl _) _)⟩, ⟨hb3.out.alloc hb3.out.size _⟩⟩
              case measure =>
                clear zq1 zq2 zq3 zq4 zq5 y3
                have := hf.out
                rw [y2.out]
                simp [intOf]
                omega
            · obtain ⟨i, hi⟩ : ∃ i : Nat, f = l0 + (i : Int) := ⟨(f - l0).toNat, by have := hl1.out.2.2.1; omega⟩
              have hil : i < F.length := by have := hl1.out.2.2.2.1; omega
              have hnil : F[i].f1 = [] := hF.out.2 _ (List.getElem_mem hil)
              have kg := getIn_c f B S w.heap.size m v l0 F wr hR.out ⟨hl1.out.1, hl1.out.2.1⟩ (by have := hl1.out.2.2.2.2.2; omega) i hil hi (by rw [hnil]; simp)
              rw [hnil] at kg
              simp only [List.length_nil] at kg
              replace kg := Aside0.mk kg
              replace hi := Aside0.mk hi
              replace hf := Aside0.mk hf
              replace hnil := Aside0.mk hnil
              have d3 : (f != f) = false := by simp
              obtain ⟨zq1, zq2, zq3, zq4, zq5⟩ := hz.out
              have y3 := y2.out
              go_wp2_with (first
                | (go_at_call 10; (with_reducible refine kg.out.mono ?_); rintro e w3 ⟨⟨A3, c3', rfl, _⟩, hbb⟩; (have hR3 := Aside0.mk (hR.out.below hbb)); (have hb3 := Aside0.mk (below_then hb.out hb.out.size hbb)); clear hbb)
                | fail)
              go_roundw
              case rel =>
                clear zq1 zq2 zq3 zq4 zq5 y3
                exact ⟨j + 1, by omega, by rw [y2.out]; have := hf.out; congr 1; omega, ⟨hR3.out.below ((Below.refl _ _).alloc (Nat.le_refl _) _)⟩, ⟨hb3.out.alloc hb3.out.size _⟩⟩
              case measure =>
                clear zq1 zq2 zq3 zq4 zq5 y3
                have := hf.out
                rw [y2.out]
                simp [intOf]
                omega
            · have d1 : G + Q - M ≤ f := by have := hM.out; omega
              have d2 : ¬ (f < G + Q) := by omega
              have kg := Aside0.mk (getOut_c (.pointer (some ⟨B, 0, none⟩)) f wr (fun W hB => atHigh_c f B S w.heap.size m v l0 F W (hR.out.below hB) hl1.out.2.2.2.2.1 ⟨hl1.out.1, hl1.out.2.1⟩ (by have := hl1.out.2.2.2.2.2; omega) (by have := hl1.out.2.2.2.1; omega)))
              replace hf := Aside0.mk hf
              obtain ⟨zq1, zq2, zq3, zq4, zq5⟩ := hz.out
              have y3 := y2.out
              go_wp2_with (first
                | (go_at_call 10; (with_reducible refine kg.out.mono ?_); rintro e w3 ⟨rfl, hbb⟩; (have hR3 := Aside0.mk (hR.out.below hbb)); (have hb3 := Aside0.mk (below_then hb.out hb.out.size hbb)); clear hbb)
                | fail)
              go_roundw
              case rel =>
                clear zq1 zq2 zq3 zq4 zq5 y3
                exact ⟨j + 1, by omega, by rw [y2.out]; have := hf.out; congr 1; omega, ⟨hR3.out.below ((Below.refl _ _).alloc (Nat.le_refl _) _)⟩, ⟨hb3.out.alloc hb3.out.size _⟩⟩
              case measure =>
                clear zq1 zq2 zq3 zq4 zq5 y3
                have := hf.out
                rw [y2.out]
                simp [intOf]
                omega
          · have hjj : j = q + 4 := by omega
            have y1 : ¬ (f < G + Q + 2) := by have := hQ.out; omega
            have kl := last_c B S w.heap.size m v l0 F wr hR.out ⟨hl1.out.1, hl1.out.2.1⟩ (by have := hl1.out.2.2.2.2.2; omega)
            have kf := fun W (h : Rg W B S w.heap.size v m l0 F) => first_c B S w.heap.size m v l0 F W h
            have e1 : lst l0 F = G + Q - 1 := by
              unfold lst
              have h1 := hl1.out.2.2.2
              rw [if_neg (by omega)]
              omega
            have e2 : fst l0 F = l0 := by
              unfold fst
              have h1 := hl1.out.2.2.2
              rw [if_neg (by omega)]
            rw [e1] at kl
            rw [e2] at kf
            have kp := fun W (h : Rg W B S w.heap.size v m l0 F) => putFar_c (G + Q + 1) none 0 0 B S w.heap.size m v l0 F W h ⟨hl1.out.1, hl1.out.2.1⟩ hl1.out.2.2.2.2.1 hl1.out.2.2.2.2.2 (by have := hl1.out.2.2.2.1; omega) (by have := hg2.out; have := hq4.out; have := hG.out; have := hQ.out; omega)
            replace kl := Aside0.mk kl
            replace kf := Aside0.mk kf
            replace kp := Aside0.mk kp
            replace hf := Aside0.mk hf
            clear e1 e2
            by_cases hmq : M ≤ Q
            · have d1 : G ≤ G + Q - M := by omega
              have d2 : G + Q - M = l0 := by have := hl1.out.2.2.1; omega
              have d3 : max G l0 = l0 := by omega
              have d5 : G ≤ l0 := by omega
              have d4 : wrap64 l0 = l0 := by have := hl1.out; unfold wrap64; omega
              obtain ⟨zq1, zq2, zq3, zq4, zq5⟩ := hz.out
              go_wp2_with (first
                | (go_at_call 11; (with_reducible refine kl.out.mono ?_); rintro e w3 ⟨rfl, hd⟩; (have hR3 := Aside0.mk (hR.out.drawn hd)); (have hb3 := Aside0.mk (below_then hb.out hb.out.size hd.below)); clear hd)
                | (go_at_call 12; (with_reducible refine (kf.out w3 hR3.out).mono ?_); rintro e w' ⟨rfl, hw⟩; subst w')
                | (go_at_call 9; (with_reducible refine (kp.out w3 hR3.out).mono ?_); rintro e w4 ⟨rfl, hbb⟩; (have hb4 := Aside0.mk (below_then hb3.out hb3.out.size hbb)); clear hbb)
                | fail)
              all_goals go_ret
              all_goals exact ⟨rfl, hb4.out⟩
            · have d1 : G = l0 := by have := hl1.out.2.2.1; omega
              have d2 : max G (G + Q - M) = l0 := by omega
              have d3 : ¬ (G ≤ G + Q - M) := by omega
              have d4 : G + Q - M ≤ G := by omega
              have d5 : (G == l0) = true := by simp [d1]
              replace d1 := Aside0.mk d1
              obtain ⟨zq1, zq2, zq3, zq4, zq5⟩ := hz.out
              go_wp2_with (first
                | (go_at_call 11; (with_reducible refine kl.out.mono ?_); rintro e w3 ⟨rfl, hd⟩; (have hR3 := Aside0.mk (hR.out.drawn hd)); (have hb3 := Aside0.mk (below_then hb.out hb.out.size hd.below)); clear hd)
                | (go_at_call 12; (with_reducible refine (kf.out w3 hR3.out).mono ?_); rintro e w' ⟨rfl, hw⟩; subst w')
                | (go_at_call 9; (with_reducible refine (kp.out w3 hR3.out).mono ?_); rintro e w4 ⟨rfl, hbb⟩; (have hb4 := Aside0.mk (below_then hb3.out hb3.out.size hbb)); clear hbb)
                | fail)
              all_goals go_ret
              all_goals exact ⟨rfl, hb4.out⟩
end Go.Proofs.Ytompkbganljbkaa.Rin
