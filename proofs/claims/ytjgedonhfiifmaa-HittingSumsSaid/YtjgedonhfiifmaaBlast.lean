/- The contract of hitting.Blasts. -/
import Derived.Test.YtjgedonhfiifmaaHeals
import Derived.Deep.RegionWith
import Derived.Deep.RegionHeld3
import Derived.Deep.DeepCutAuto
import Derived.Deep.CutBlock
import Derived.StillTailTactics
import Derived.BigQuiet
namespace Go.Proofs.Ytjgedonhfiifmaa.Hit
open Go.RowKit Go.Proofs.Ytjgedonhfiifmaa.PHittingOnly Go.Proofs.YtjgedonhfiifmaaW.PrintWords Go.Proofs.YtjgedonhfiifmaaW.PrintLast Go.Proofs.YtjgedonhfiifmaaW.PrintMore
open Go.Proofs.Ytjgedonhfiifmaa.Plain
set_option linter.unusedVariables false

/-- what one blast does to one -/
def bF (k x y : Int) (p : S25) : S25 := if k = 2 ∧ p.f1 = 1 ∧ nearB p x y 128 = true then withH p (sub p.f6 10) else p
/-- all of them, each for all -/
def blastsF (g : Nat → Nat → Int) (l : List S25) : Nat → List S25
  | 0 => l
  | j + 1 => (blastsF g l j).map (bF (g j 0) (g j 13) (g j 14))
theorem blastsF_length (g : Nat → Nat → Int) (l : List S25) (j : Nat) : (blastsF g l j).length = l.length := by
  induction j with
  | zero => rfl
  | succ j ih => unfold blastsF; rw [List.length_map, ih]
def inn (f : S25 → S25) (l : List S25) (i : Nat) : List S25 := (l.take i).map f ++ l.drop i
theorem inn_length (f : S25 → S25) (l : List S25) (i : Nat) : (inn f l i).length = l.length := by unfold inn; simp; omega
theorem inn_zero (f : S25 → S25) (l : List S25) : inn f l 0 = l := by simp [inn]
theorem inn_all (f : S25 → S25) (l : List S25) : inn f l l.length = l.map f := by simp [inn]
theorem inn_get (f : S25 → S25) (l : List S25) (i : Nat) (h : i < l.length) : (inn f l i).getD i z25 = l[i] := by
  unfold inn
  rw [List.getD_eq_getElem?_getD, List.getElem?_append_right (by simp; omega)]
  simp [Nat.min_eq_left (Nat.le_of_lt h), h]
theorem inn_step (f : S25 → S25) (l : List S25) (i : Nat) (h : i < l.length) : inn f l (i + 1) = (inn f l i).set i (f l[i]) := by
  unfold inn
  rw [List.take_succ_eq_append_getElem h, List.drop_eq_getElem_cons h, List.set_append_right _ _ (by simp; omega), List.map_append, List.append_assoc, List.length_map, List.length_take, Nat.min_eq_left (Nat.le_of_lt h), Nat.sub_self]
  rfl
theorem inn_same (f : S25 → S25) (l : List S25) (i : Nat) (h : i < l.length) (hf : f l[i] = l[i]) : inn f l (i + 1) = inn f l i := by
  unfold inn
  rw [List.take_succ_eq_append_getElem h, List.drop_eq_getElem_cons h, List.map_append, List.append_assoc, List.map_singleton, hf]
  rfl

/-- messages in memory: fifteen numbers each -/
def CR (w : World) (B : Option Addr) (m : Nat) (g : Nat → Nat → Int) : Prop := ∀ j, j < m → ∃ ad, B = some ad ∧ ∀ i, i < 15 → w.cell? (ad.add (j * 15 + i)) = some (.int .i64 (g j i))
theorem CR.below {w w' : World} {B : Option Addr} {m : Nat} {g : Nat → Nat → Int} (h : CR w B m g) (hb : Below w.heap.size w w') : CR w' B m g := fun j hj => by
  obtain ⟨ad, e, hc⟩ := h j hj
  exact ⟨ad, e, fun i hi => pw_cell_below hb (hc i hi)⟩
/-- a row, if there is one -/
def RowO (w : World) (A : Option Addr) (c : Nat) (l : List S25) : Prop := l = [] ∨ ∃ g, A = some ⟨g, 0, none⟩ ∧ Row w g c l
theorem RowO.below {w w' : World} {A : Option Addr} {c : Nat} {l : List S25} (h : RowO w A c l) (hb : Below w.heap.size w w') : RowO w' A c l := h.imp id fun ⟨g, e, r⟩ => ⟨g, e, r.below hb⟩
theorem RowO.reads {w : World} {A : Option Addr} {c : Nat} {l : List S25} (h : RowO w A c l) : Kd.C k25 w A l.length l := by
  rcases h with rfl | ⟨g, rfl, r⟩
  · exact ⟨rfl, by simp, fun h => absurd h (by simp)⟩
  · exact r.reads
theorem RowO.of_R {w : World} {base : Nat} {ok : Nat → Prop} {A : Option Addr} {n c : Nat} {l : List S25} (h : Kd.R k25 25 w base ok (.slice A n c) l) : RowO w A c l := by
  rcases Nat.eq_zero_or_pos l.length with h0 | h0
  · exact .inl (List.eq_nil_of_length_eq_zero h0)
  · obtain ⟨g, e, _, _, r⟩ := R_row h h0
    exact .inr ⟨g, e, r⟩

set_option maxRecDepth 100000 in
set_option maxHeartbeats 8000000 in
theorem blasts_c (A B : Option Addr) (n c m d : Nat) (l : List S25) (g : Nat → Nat → Int) (w : World) (HC : Kd.C k25 w A n l) (hn : n ≤ 1000) (HD : CR w B m g) (hm : m ≤ 1000) :
    Calls Try.prog 11 #[.slice A n c, .slice B m d] w fun e w' => (∃ A' c', e = .returned (.slice A' n c') ∧ Kd.C k25 w' A' n (blastsF g l m)) ∧ Below w.heap.size w w' := by
  have hl : l.length = n := HC.1
  have k1 := Aside0.mk (clone_c A n c l w HC (by omega))
  replace HC := Aside0.mk HC
  replace HD := Aside0.mk HD
  replace hl := Aside0.mk hl
  go_enter Try.func11, Try.ntmps11
  go_wp2_with (first
    | (go_at_call 22; (with_reducible refine k1.out.mono ?_); rintro e w1 ⟨⟨A', c', rfl, h1⟩, hb1⟩; have hrow := RowO.of_R h1; have hbase := Kd.R_base h1; rw [hl.out]; clear h1; replace hrow := Aside0.mk hrow; replace hbase := Aside0.mk hbase; replace hb1 := Aside0.mk hb1)
    | fail)
  go_loopw [14] (fun i wr => ∃ k : Nat, k ≤ m ∧ i = .int .i64 k ∧ Aside0 (RowO wr A' c' (blastsF g l k)) ∧ Aside0 (Below w.heap.size w wr)) (fun i _ => m - (intOf i).toNat)
  case atStart => exact ⟨0, Nat.zero_le _, rfl, hrow, hb1⟩
  case round =>
    clear hrow hb1 k1
    obtain ⟨k, hk, rfl, hrow, HB⟩ := hrel
    by_cases hlt : k < m
    · obtain ⟨ad, e1, hc⟩ := HD.out k hlt
      subst e1
      have hc' := fun i hi => pw_cell_below HB.out (hc i hi)
      have hsucc : blastsF g l (k + 1) = (blastsF g l k).map (bF (g k 0) (g k 13) (g k 14)) := rfl
      have hlen := blastsF_length g l k
      rw [hl.out] at hlen
      generalize blastsF g l k = L at *
      generalize hf : bF (g k 0) (g k 13) (g k 14) = f at *
      have y0 := hc' 0 (by omega)
      have y1 : wr.cell? ⟨(ad.add (k * 15)).block, (ad.add (k * 15)).off + 1, none⟩ = some (.int .i64 (g k 1)) := by rw [← add_field _ _ 1 (by omega)]; exact hc' 1 (by omega)
      have y2 : wr.cell? ⟨(ad.add (k * 15)).block, (ad.add (k * 15)).off + 2, none⟩ = some (.int .i64 (g k 2)) := by rw [← add_field _ _ 2 (by omega)]; exact hc' 2 (by omega)
      have y3 : wr.cell? ⟨(ad.add (k * 15)).block, (ad.add (k * 15)).off + 3, none⟩ = some (.int .i64 (g k 3)) := by rw [← add_field _ _ 3 (by omega)]; exact hc' 3 (by omega)
      have y4 : wr.cell? ⟨(ad.add (k * 15)).block, (ad.add (k * 15)).off + 4, none⟩ = some (.int .i64 (g k 4)) := by rw [← add_field _ _ 4 (by omega)]; exact hc' 4 (by omega)
      have y5 : wr.cell? ⟨(ad.add (k * 15)).block, (ad.add (k * 15)).off + 5, none⟩ = some (.int .i64 (g k 5)) := by rw [← add_field _ _ 5 (by omega)]; exact hc' 5 (by omega)
      have y6 : wr.cell? ⟨(ad.add (k * 15)).block, (ad.add (k * 15)).off + 6, none⟩ = some (.int .i64 (g k 6)) := by rw [← add_field _ _ 6 (by omega)]; exact hc' 6 (by omega)
      have y7 : wr.cell? ⟨(ad.add (k * 15)).block, (ad.add (k * 15)).off + 7, none⟩ = some (.int .i64 (g k 7)) := by rw [← add_field _ _ 7 (by omega)]; exact hc' 7 (by omega)
      have y8 : wr.cell? ⟨(ad.add (k * 15)).block, (ad.add (k * 15)).off + 8, none⟩ = some (.int .i64 (g k 8)) := by rw [← add_field _ _ 8 (by omega)]; exact hc' 8 (by omega)
      have y9 : wr.cell? ⟨(ad.add (k * 15)).block, (ad.add (k * 15)).off + 9, none⟩ = some (.int .i64 (g k 9)) := by rw [← add_field _ _ 9 (by omega)]; exact hc' 9 (by omega)
      have y10 : wr.cell? ⟨(ad.add (k * 15)).block, (ad.add (k * 15)).off + 10, none⟩ = some (.int .i64 (g k 10)) := by rw [← add_field _ _ 10 (by omega)]; exact hc' 10 (by omega)
      have y11 : wr.cell? ⟨(ad.add (k * 15)).block, (ad.add (k * 15)).off + 11, none⟩ = some (.int .i64 (g k 11)) := by rw [← add_field _ _ 11 (by omega)]; exact hc' 11 (by omega)
      have y12 : wr.cell? ⟨(ad.add (k * 15)).block, (ad.add (k * 15)).off + 12, none⟩ = some (.int .i64 (g k 12)) := by rw [← add_field _ _ 12 (by omega)]; exact hc' 12 (by omega)
      have y13 : wr.cell? ⟨(ad.add (k * 15)).block, (ad.add (k * 15)).off + 13, none⟩ = some (.int .i64 (g k 13)) := by rw [← add_field _ _ 13 (by omega)]; exact hc' 13 (by omega)
      have y14 : wr.cell? ⟨(ad.add (k * 15)).block, (ad.add (k * 15)).off + 14, none⟩ = some (.int .i64 (g k 14)) := by rw [← add_field _ _ 14 (by omega)]; exact hc' 14 (by omega)
      rw [Nat.add_zero] at y0
      clear hc hc'
      generalize g k 0 = kk at *
      generalize g k 13 = bx at *
      generalize g k 14 = by_ at *
      have b0 : (0 : Int) ≤ (k : Int) := by omega
      have b1 : (k : Int) < (m : Int) := by omega
      obtain ⟨bcs, hbcs⟩ : ∃ bcs : Array Value, bcs = #[.int .i64 kk, .int .i64 (g k 1), .int .i64 (g k 2), .int .i64 (g k 3), .int .i64 (g k 4), .int .i64 (g k 5), .int .i64 (g k 6), .int .i64 (g k 7), .int .i64 (g k 8), .int .i64 (g k 9), .int .i64 (g k 10), .int .i64 (g k 11), .int .i64 (g k 12), .int .i64 bx, .int .i64 by_] := ⟨_, rfl⟩
      have hq0 : bcs[0]? = some (.int .i64 kk) := by rw [hbcs]; rfl
      have hq13 : bcs[13]? = some (.int .i64 bx) := by rw [hbcs]; rfl
      have hq14 : bcs[14]? = some (.int .i64 by_) := by rw [hbcs]; rfl
      replace hq0 := Aside0.mk hq0
      replace hq13 := Aside0.mk hq13
      replace hq14 := Aside0.mk hq14
      have hrow2 := Aside0.mk (hrow.out.below ((Below.refl wr.heap.size wr).alloc (Nat.le_refl _) (.cells bcs 33)))
      have hbox := Aside0.mk (show (wr.alloc (.cells bcs 33)).heap[wr.heap.size]? = some (.cells bcs 33 (0, 0)) from heap_alloc_new _ _)
      have HB2 := Aside0.mk (HB.out.alloc HB.out.size (.cells bcs 33))
      have hQ : w.heap.size ≤ wr.heap.size := HB.out.size
      go_wp2_with fail
      rw [← hbcs]
      clear hbcs y0 y1 y2 y3 y4 y5 y6 y7 y8 y9 y10 y11 y12 y13 y14 hrow HB b0 b1
      generalize hQe : wr.heap.size = Q at *
      replace hQe := Aside0.mk hQe
      go_loopw [20] (fun i wt => ∃ t : Nat, t ≤ n ∧ i = .int .i64 t ∧ Aside0 (RowO wt A' c' (inn f L t)) ∧ Aside0 (wt.heap[Q]? = some (.cells bcs 33 (0, 0))) ∧ Aside0 (Below w.heap.size w wt)) (fun i _ => n - (intOf i).toNat)
      case atStart => exact ⟨0, Nat.zero_le _, rfl, ⟨by rw [inn_zero]; exact hrow2.out⟩, hbox, HB2⟩
      case round =>
        clear hrow2 hbox HB2
        obtain ⟨t, ht, rfl, hrow, hbox, HB⟩ := hrel
        by_cases htn : t < n
        · have htl : t < L.length := by omega
          rcases hrow.out with he | ⟨G, rfl, hr⟩
          · have := inn_length f L t
            rw [he] at this
            simp at this
            omega
          · clear hrow
            have hGb : w1.heap.size ≤ w1.heap.size := Nat.le_refl _
            have hwG : w.heap.size ≤ G := hbase.out G rfl
            have hst := inn_step f L t htl
            have hsm := inn_same f L t htl
            have hgd := inn_get f L t htl
            have hil := inn_length f L t
            have hput := fun (W : World) (h : Row W G c' (inn f L t)) x => h.put (i := t) (by omega) x
            rw [hgd] at hput
            have x0 := hr.cell (i := t) (j := 0) (by omega) (by omega)
            have x1 := hr.cell (i := t) (j := 1) (by omega) (by omega)
            have x2 := hr.cell (i := t) (j := 2) (by omega) (by omega)
            have x3 := hr.cell (i := t) (j := 3) (by omega) (by omega)
            have x4 := hr.cell (i := t) (j := 4) (by omega) (by omega)
            have x5 := hr.cell (i := t) (j := 5) (by omega) (by omega)
            have x6 := hr.cell (i := t) (j := 6) (by omega) (by omega)
            have x7 := hr.cell (i := t) (j := 7) (by omega) (by omega)
            have x8 := hr.cell (i := t) (j := 8) (by omega) (by omega)
            have h6 := fun (W : World) (h : Row W G c' (inn f L t)) => h.cell (i := t) (j := 6) (by omega) (by omega)
            rw [hgd] at x0 x1 x2 x3 x4 x5 x6 x7 x8 h6
            have hfp : f L[t] = bF kk bx by_ L[t] := by rw [hf]
            generalize L[t] = p at *
            simp [cells] at x0 x1 x2 x3 x4 x5 x6 x7 x8
            have z0 := blk_cell hbox.out 0
            have z13 := blk_cell hbox.out 13
            have z14 := blk_cell hbox.out 14
            rw [hq0.out] at z0
            rw [hq13.out] at z13
            rw [hq14.out] at z14
            have b0 : (0 : Int) ≤ (t : Int) := by omega
            have b1 : (t : Int) < (n : Int) := by omega
            replace hst := Aside0.mk hst
            replace hsm := Aside0.mk hsm
            replace hput := Aside0.mk hput
            replace h6 := Aside0.mk h6
            replace hr := Aside0.mk hr
            clear hgd hil
            unfold bF at hfp
            by_cases hk2 : kk = 2
            · by_cases hp1 : p.f1 = 1
              · have kn := near_c p bx by_ 128
                generalize nearB p bx by_ 128 = nb at *
                simp only [hp1] at kn
                replace kn := Aside0.mk kn
                have hne : Aside0 (Q ≠ G) := ⟨by
                  rintro rfl
                  obtain ⟨cur, hcu, _⟩ := hr.out
                  have := hbox.out
                  rw [hcu] at this
                  injection this with this
                  injection this with _ h2
                  exact absurd h2 (by decide)⟩
                go_wp2_with fail
                cases nb with
                | true =>
                  rw [if_pos ⟨hk2, hp1, rfl⟩] at hfp
                  have k15 := fun W => fixed_Sub.calls p.f6 10 _ W (pc_sub p.f6 10)
                  generalize sub p.f6 10 = th at *
                  replace hfp := Aside0.mk hfp
                  replace k15 := Aside0.mk k15
                  go_still_tail 18, (by kernel_rfl)
                  go_wp2_with (first
                    | (go_at_call 23; (with_reducible refine (kn.out _).mono ?_); rintro e w3 ⟨rfl, hb3⟩; (have HB3 := Aside0.mk (below_then (below_drew HB.out) (below_drew HB.out).size hb3); have hr3 := Aside0.mk (Row.below (w := wr) (w' := w3) hr.out (below_then (below_drew (Below.refl wr.heap.size wr)) (Nat.le_refl _) hb3)); have hbox3 := Aside0.mk ((hb3.block Q (blk_lt' hbox.out)).trans hbox.out)); clear hb3 x0 x1 x2 x3 x4 x5 x6 x7 x8; have g6 := h6.out _ hr3.out; simp [cells] at g6; have fG := hr3.out.f)
                    | (go_at_call 15; (with_reducible refine (k15.out _).mono ?_); rintro e w4 ⟨rfl, ⟨q, rfl⟩⟩)
                    | fail)
                  go_roundw
                  case rel => exact ⟨t + 1, by omega, by go_num, ⟨.inr ⟨G, rfl, by rw [hst.out, hfp.out]; exact hput.out _ (hr3.out.drewN q) th⟩⟩, ⟨(Below.heap_setCell _ _ _ _ (by exact hne.out)).trans hbox3.out⟩, ⟨(pw_below_drewN HB3.out _).setCell hwG _⟩⟩
                  case measure => simp [intOf]; omega
                | false =>
                  rw [if_neg (fun h => by simp at h)] at hfp
                  replace hfp := Aside0.mk hfp
                  go_still_tail 18, (by kernel_rfl)
                  go_wp2_with (first
                    | (go_at_call 23; (with_reducible refine (kn.out _).mono ?_); rintro e w3 ⟨rfl, hb3⟩; (have HB3 := Aside0.mk (below_then (below_drew HB.out) (below_drew HB.out).size hb3); have hr3 := Aside0.mk (Row.below (w := wr) (w' := w3) hr.out (below_then (below_drew (Below.refl wr.heap.size wr)) (Nat.le_refl _) hb3)); have hbox3 := Aside0.mk ((hb3.block Q (blk_lt' hbox.out)).trans hbox.out)); clear hb3 x0 x1 x2 x3 x4 x5 x6 x7 x8)
                    | fail)
                  go_roundw
                  case rel => exact ⟨t + 1, by omega, by go_num, ⟨.inr ⟨G, rfl, by rw [hsm.out hfp.out]; exact hr3.out⟩⟩, hbox3, HB3⟩
                  case measure => simp [intOf]; omega
              · rw [if_neg (fun h => hp1 h.2.1)] at hfp
                replace hfp := Aside0.mk hfp
                have hpb : (p.f1 == 1) = false := beq_eq_false_iff_ne.2 hp1
                clear hp1
                go_wp2_with fail
                go_quiet (fail)
                go_wp2_with fail
                go_roundw
                case rel => exact ⟨t + 1, by omega, by go_num, ⟨.inr ⟨G, rfl, by rw [hsm.out hfp.out]; exact hr.out.drewN _⟩⟩, ⟨hbox.out⟩, ⟨pw_below_drewN HB.out _⟩⟩
                case measure => simp [intOf]; omega
            · rw [if_neg (fun h => hk2 h.1)] at hfp
              replace hfp := Aside0.mk hfp
              have hkb : (kk == 2) = false := beq_eq_false_iff_ne.2 hk2
              clear hk2
              go_wp2_with fail
              go_quiet (fail)
              go_wp2_with fail
              go_roundw
              case rel => exact ⟨t + 1, by omega, by go_num, ⟨.inr ⟨G, rfl, by rw [hsm.out hfp.out]; exact hr.out.drewN _⟩⟩, ⟨hbox.out⟩, ⟨pw_below_drewN HB.out _⟩⟩
              case measure => simp [intOf]; omega
        · go_wp2_with fail
          have htn' : t = n := by omega
          have hX : inn f L t = blastsF g l (k + 1) := by rw [hsucc, htn', ← hlen, inn_all]
          go_roundw
          case rel => exact ⟨k + 1, by omega, by go_num, ⟨by rw [← hX]; exact hrow.out⟩, HB⟩
          case measure => simp [intOf]; omega
    · go_wp2_with fail
      have hkm : k = m := by omega
      subst hkm
      go_ret
      have hr := hrow.out.reads
      rw [blastsF_length, hl.out] at hr
      exact ⟨⟨A', c', rfl, hr⟩, HB.out⟩
end Go.Proofs.Ytjgedonhfiifmaa.Hit
