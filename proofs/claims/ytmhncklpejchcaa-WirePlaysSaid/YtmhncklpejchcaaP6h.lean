/- WirePlays' round that pushes up to five (high). -/
import Derived.Test.YtmhncklpejchcaaPb
namespace Go.Proofs.Ytmhncklpejchcaa.Wir
open Go Go.RowKit Go.Proofs.Ytmhncklpejchcaa.PWirePlays Go.Proofs.YtmhncklpejchcaaW.PrintWords Go.Proofs.YtmhncklpejchcaaW.PrintLast Go.Proofs.YtmhncklpejchcaaW.PrintMore
set_option linter.unusedVariables false
set_option linter.unusedSimpArgs false
set_option maxRecDepth 1000000 in
set_option maxHeartbeats 16000000 in
theorem pushhigh (w wq : World) (K : Act → World → Prop) (Q0 : Exit → Act → World → Prop) (ad : Addr) (n cap k B : Nat) (v : Value) (Al : Option Addr) (cl : Nat) (L : List (List Int)) (hn : n ≤ 2 ^ 63 - 1) (hcap : n ≤ cap) (hk : k < n) (hk80 : k < 80)
    (hP : Aside0 (Pl w.heap.size wq B v (.slice Al L.length cl) L L)) (HB : Aside0 (Below w.heap.size w wq)) (hL : Aside0 (L.length ≤ 6 * k)) (hs : Aside0 (∀ x ∈ L, x.length ≤ 140737488351232))
    (kd oi oa ob : Int) (A' : Option Addr) (n' c' : Nat) (Lo : List (List Int)) (hOp : OpAt wq (ad.add (k * 5)) kd oi oa ob A' n' c' Lo) (z0 : 0 ≤ oi) (z1 : (L.length : Int) ≤ oi) (z2 : ¬ (oi < (L.length : Int))) (n1 : ¬ (kd = 1)) (n2 : ¬ (kd = 2)) (n3 : ¬ (kd = 3)) (n4 : ¬ (kd = 4)) (n5 : ¬ (kd = 5)) (hz : ¬ ((5 : Int) < (n' : Int))) (hzd : decide ((5 : Int) < (n' : Int)) = false) (hCw : Aside0 (Kd.C kbs w A' n' Lo))
    (hK : Aside0 (∀ a' w'', WI w ad n cap (k + 1) a' w'' → K a' w'')) (hR : Aside0 (∀ a' w'', WR w ad n cap k a' w'' → Q0 .ret a' w'')) (hpq : Aside0 (∀ (x : List PanicEntry) (a a' : Act) (w : World), a.defers = a'.defers → Q0 (.panic x) a w → Q0 (.panic x) a' w))
    (u2 u6 u7 u8 u9 u10 u11 u12 u13 u14 u15 u16 u17 u28 u29 u30 u31 u32 u33 u34 u35 u36 u37 u38 u39 u40 u41 u42 u43 u44 u45 u46 u47 u48 u49 u50 u51 u52 u53 u54 u55 u56 u57 u58 u59 u60 u61 u62 u63 u64 u65 u66 u67 u68 u69 u70 u71 u72 u73 u74 u75 u76 u77 u78 u79 u80 u81 u82 u83 u84 u85 u86 u87 u88 u89 u90 u91 u92 u93 u94 u95 u96 u97 u98 u99 u100 u101 u102 u103 u104 u105 u106 u107 u108 u109 u110 u111 u112 u113 u114 u115 u116 u117 u118 u119 u120 u121 u122 u123 u124 u125 u126 u127 u128 u129 u130 u131 u132 u133 u134 u135 u136 u137 u138 u139 u140 u141 u142 u143 u144 u145 u146 u147 u148 u149 u150 u151 u152 u153 u154 u155 u156 u157 u158 u159 u160 u161 u162 u163 u164 u165 u166 u167 u168 u169 u170 u171 u172 u173 u174 u175 u176 u177 u178 u179 u180 u181 u182 u183 u184 u185 u186 u187 u188 u189 u190 u191 u192 u193 u194 u195 u196 u197 u198 u199 u200 u201 u202 u203 u204 u205 u206 u207 u208 u209 u210 u211 u212 u213 u214 u215 u216 u217 u218 u219 u220 u221 u222 u223 u224 u225 u226 u227 u228 u229 u230 u231 u232 u233 u234 u235 u236 u237 u238 u239 u240 u241 u242 u243 u244 u245 u246 u247 u248 u249 u250 u251 u252 u253 u254 u255 u256 u257 u258 u259 u260 : Value) :
    Code.wp Try.prog body1 (Exit.then K Q0) ⟨#[.slice (some ad) n cap, undef, u2, .pointer (some ⟨B, 0, none⟩), .slice Al L.length cl, .int .i64 k, u6, u7, u8, u9, u10, u11, u12, u13, u14, u15, u16, u17, undef, undef, undef, .pointer (some ⟨w.heap.size, 0, none⟩), .bool true, .bool false, .bool false, .pointer (some ⟨w.heap.size, 0, none⟩), .bool false, .bool false, u28, u29, u30, u31, u32, u33, u34, u35, u36, u37, u38, u39, u40, u41, u42, u43, u44, u45, u46, u47, u48, u49, u50, u51, u52, u53, u54, u55, u56, u57, u58, u59, u60, u61, u62, u63, u64, u65, u66, u67, u68, u69, u70, u71, u72, u73, u74, u75, u76, u77, u78, u79, u80, u81, u82, u83, u84, u85, u86, u87, u88, u89, u90, u91, u92, u93, u94, u95, u96, u97, u98, u99, u100, u101, u102, u103, u104, u105, u106, u107, u108, u109, u110, u111, u112, u113, u114, u115, u116, u117, u118, u119, u120, u121, u122, u123, u124, u125, u126, u127, u128, u129, u130, u131, u132, u133, u134, u135, u136, u137, u138, u139, u140, u141, u142, u143, u144, u145, u146, u147, u148, u149, u150, u151, u152, u153, u154, u155, u156, u157, u158, u159, u160, u161, u162, u163, u164, u165, u166, u167, u168, u169, u170, u171, u172, u173, u174, u175, u176, u177, u178, u179, u180, u181, u182, u183, u184, u185, u186, u187, u188, u189, u190, u191, u192, u193, u194, u195, u196, u197, u198, u199, u200, u201, u202, u203, u204, u205, u206, u207, u208, u209, u210, u211, u212, u213, u214, u215, u216, u217, u218, u219, u220, u221, u222, u223, u224, u225, u226, u227, u228, u229, u230, u231, u232, u233, u234, u235, u236, u237, u238, u239, u240, u241, u242, u243, u244, u245, u246, u247, u248, u249, u250, u251, u252, u253, u254, u255, u256, u257, u258, u259, u260, undef, undef, undef, undef, undef, undef, undef, undef, undef, undef, undef, undef, undef, undef, undef, undef, undef, undef, undef, undef, undef, undef, undef], []⟩ wq := by
  obtain ⟨x0, y1, y2, y3, y4, hn', HCo, hso⟩ := hOp
  replace y1 : wq.cell? ⟨(ad.add (k * 5)).block, (ad.add (k * 5)).off + 1, none⟩ = some (.int .i64 oi) := y1
  replace y2 : wq.cell? ⟨(ad.add (k * 5)).block, (ad.add (k * 5)).off + 2, none⟩ = some (.int .i64 oa) := y2
  replace y3 : wq.cell? ⟨(ad.add (k * 5)).block, (ad.add (k * 5)).off + 3, none⟩ = some (.int .u8 ob) := y3
  replace y4 : wq.cell? ⟨(ad.add (k * 5)).block, (ad.add (k * 5)).off + 4, none⟩ = some (.slice A' n' c') := y4
  replace HCo := Aside0.mk HCo
  replace hso := Aside0.mk hso
  have b0 : (0 : Int) ≤ (k : Int) := by omega
  have b1 : (k : Int) < (n : Int) := by omega
  have b2 : (k : Int) < 80 := by omega
  have klen : Aside0 (∀ (W : World) (B : Nat) (v : Value) (L' : List (List Int)), Wi W B w.heap.size v L' → Calls Try.prog 13 #[.pointer (some ⟨B, 0, none⟩)] W fun e w' => e = .returned (.int .i64 (L'.length : Int)) ∧ w' = W) := ⟨fun W B v L' h => len_c B w.heap.size v L' W h⟩
  have hP1 : Aside0 (Pl w.heap.size (wq.alloc (Obj.cells #[.int .i64 kd, .int .i64 oi, .int .i64 oa, .int .u8 ob, .slice A' n' c'] 40)) B v (.slice Al L.length cl) L L) := ⟨hP.out.below ((Below.refl _ _).alloc (Nat.le_refl _) _)⟩
  have HB1 : Aside0 (Below w.heap.size w (wq.alloc (Obj.cells #[.int .i64 kd, .int .i64 oi, .int .i64 oa, .int .u8 ob, .slice A' n' c'] 40))) := ⟨HB.out.alloc HB.out.size _⟩
  have hbase : Aside0 (w.heap.size ≤ (wq.alloc (Obj.cells #[.int .i64 kd, .int .i64 oi, .int .i64 oa, .int .u8 ob, .slice A' n' c'] 40)).heap.size) := ⟨HB1.out.size⟩
  have hL480 : Aside0 (L.length ≤ 480) := ⟨by have := hL.out; omega⟩
  have hlcl : L.length ≤ cl := (Kd.R_reads' hP.out.row).2.1
  have hn5 : n' ≤ 5 := by omega
  have hP1d := Aside0.mk (hP1.out.below (below_drew (Below.refl (wq.alloc (Obj.cells #[.int .i64 kd, .int .i64 oi, .int .i64 oa, .int .u8 ob, .slice A' n' c'] 40)).heap.size (wq.alloc (Obj.cells #[.int .i64 kd, .int .i64 oi, .int .i64 oa, .int .u8 ob, .slice A' n' c'] 40)))))
  have HB1d := Aside0.mk (below_drew HB1.out)
  have hlo : Aside0 (Lo.length = n') := ⟨hCw.out.1⟩
  have kp := push_c B w.heap.size v L Lo A' n' c' w (wq.alloc (Obj.cells #[.int .i64 kd, .int .i64 oi, .int .i64 oa, .int .u8 ob, .slice A' n' c'] 40)).drew (by omega) (by have := hL480.out; omega) hP1d.out.wi HB1d.out hbase.out hn'.2 (fun W _ hB _ => Kd.C_below hCw.out hB) hso.out
  rw [show min n' (4000 - L.length) = n' by have := hL480.out; omega, List.take_of_length_le (by rw [hlo.out]; exact Nat.le_refl _)] at kp
  replace kp := Aside0.mk kp
  have hnc := hn'.2
  clear hn'
  conv => arg 2; whnf
  go_wp2_with fail
  have q4 : (wq.alloc (Obj.cells #[.int .i64 kd, .int .i64 oi, .int .i64 oa, .int .u8 ob, .slice A' n' c'] 40)).drew.cell? ⟨wq.heap.size, 4, none⟩ = some (.slice A' n' c') := by
    have h := blk_cell' (heap_alloc_new wq (Obj.cells #[.int .i64 kd, .int .i64 oi, .int .i64 oa, .int .u8 ob, .slice A' n' c'] 40)) 4
    exact h
  refine start_ (n := 14) (S := fun w' => w'.cell? ⟨wq.heap.size, 4, none⟩ = some (.slice A' n' c')) (ds := []) #[false, false, false, false, false, false, false, false, false, false, false, false, false, false] (by kernel_rfl) rfl rfl (q4) (fun hHeld => ?_)
  refine pure_ (i := 0) (N := some 54) (v := ?_) (a' := ?_) #[true, false, false, false, false, false, false, false, false, false, false, false, false, false] rfl rfl (by kernel_rfl) (fun _ _ _ h => hpq.out _ _ _ _ (by rfl) h) (Or.inl ⟨by rfl, ?_⟩) ?_ ?_
  rotate_left
  · intro w'
    go_simp
    with_reducible rfl
  rotate_left
  · simp only [Act.put, List.setIfInBounds_toArray, List.set_cons_zero, List.set_cons_succ, i64_w, i32_w]
    rfl
  refine take_ (i := 1) (N := some 55) (v := ?_) (a' := ?_) #[true, true, false, false, false, false, false, false, false, false, false, false, false, false] rfl rfl (by kernel_rfl) (fun _ _ _ h => hpq.out _ _ _ _ (by rfl) h) (Or.inl ⟨by rfl, ?_⟩) hHeld ?_ ?_
  rotate_left
  · intro w' s0
    go_simp
    with_reducible rfl
  rotate_left
  · simp only [Act.put, List.setIfInBounds_toArray, List.set_cons_zero, List.set_cons_succ, i64_w, i32_w]
    rfl
  refine pure_ (i := 2) (N := some 56) (v := ?_) (a' := ?_) #[true, true, true, false, false, false, false, false, false, false, false, false, false, false] rfl rfl (by kernel_rfl) (fun _ _ _ h => hpq.out _ _ _ _ (by rfl) h) (Or.inl ⟨by rfl, ?_⟩) ?_ ?_
  rotate_left
  · intro w'
    go_simp
    with_reducible rfl
  rotate_left
  · simp only [Act.put, List.setIfInBounds_toArray, List.set_cons_zero, List.set_cons_succ, i64_w, i32_w]
    rfl
  refine pure_ (i := 3) (N := some 57) (v := ?_) (a' := ?_) #[true, true, true, true, false, false, false, false, false, false, false, false, false, false] rfl rfl (by kernel_rfl) (fun _ _ _ h => hpq.out _ _ _ _ (by rfl) h) (Or.inl ⟨by rfl, ?_⟩) ?_ ?_
  rotate_left
  · intro w'
    go_simp
    with_reducible rfl
  rotate_left
  · simp only [Act.put, List.setIfInBounds_toArray, List.set_cons_zero, List.set_cons_succ, i64_w, i32_w]
    rfl
  refine pure_ (i := 4) (N := some 58) (v := ?_) (a' := ?_) #[true, true, true, true, true, false, false, false, false, false, false, false, false, false] rfl rfl (by kernel_rfl) (fun _ _ _ h => hpq.out _ _ _ _ (by rfl) h) (Or.inl ⟨by rfl, ?_⟩) ?_ ?_
  rotate_left
  · intro w'
    go_simp
    with_reducible rfl
  rotate_left
  · simp only [Act.put, List.setIfInBounds_toArray, List.set_cons_zero, List.set_cons_succ, i64_w, i32_w]
    rfl
  refine pure_ (i := 5) (N := some 59) (v := ?_) (a' := ?_) #[true, true, true, true, true, true, false, false, false, false, false, false, false, false] rfl rfl (by kernel_rfl) (fun _ _ _ h => hpq.out _ _ _ _ (by rfl) h) (Or.inl ⟨by rfl, ?_⟩) ?_ ?_
  rotate_left
  · intro w'
    go_simp
    with_reducible rfl
  rotate_left
  · simp only [Act.put, List.setIfInBounds_toArray, List.set_cons_zero, List.set_cons_succ, i64_w, i32_w]
    rfl
  refine pure_ (i := 6) (N := some 60) (v := ?_) (a' := ?_) #[true, true, true, true, true, true, true, false, false, false, false, false, false, false] rfl rfl (by kernel_rfl) (fun _ _ _ h => hpq.out _ _ _ _ (by rfl) h) (Or.inl ⟨by rfl, ?_⟩) ?_ ?_
  rotate_left
  · intro w'
    go_simp
    with_reducible rfl
  rotate_left
  · simp only [Act.put, List.setIfInBounds_toArray, List.set_cons_zero, List.set_cons_succ, i64_w, i32_w]
    rfl
  refine pure_ (i := 9) (N := some 63) (v := ?_) (a' := ?_) #[true, true, true, true, true, true, true, false, false, true, false, false, false, false] rfl rfl (by kernel_rfl) (fun _ _ _ h => hpq.out _ _ _ _ (by rfl) h) (Or.inl ⟨by rfl, ?_⟩) ?_ ?_
  rotate_left
  · intro w'
    go_simp
    with_reducible rfl
  rotate_left
  · simp only [Act.put, List.setIfInBounds_toArray, List.set_cons_zero, List.set_cons_succ, i64_w, i32_w]
    rfl
  refine take_ (i := 7) (N := some 61) (v := ?_) (a' := ?_) #[true, true, true, true, true, true, true, true, false, true, false, false, false, false] rfl rfl (by kernel_rfl) (fun _ _ _ h => hpq.out _ _ _ _ (by rfl) h) (Or.inl ⟨by rfl, ?_⟩) hHeld ?_ ?_
  rotate_left
  · intro w' s0
    go_simp
    with_reducible rfl
  rotate_left
  · simp only [Act.put, List.setIfInBounds_toArray, List.set_cons_zero, List.set_cons_succ, i64_w, i32_w]
    rfl
  refine take_ (i := 10) (N := some 64) (v := ?_) (a' := ?_) #[true, true, true, true, true, true, true, true, false, true, true, false, false, false] rfl rfl (by kernel_rfl) (fun _ _ _ h => hpq.out _ _ _ _ (by rfl) h) (Or.inl ⟨by rfl, ?_⟩) hHeld ?_ ?_
  rotate_left
  · intro w' s0
    go_simp
    with_reducible rfl
  rotate_left
  · simp only [Act.put, List.setIfInBounds_toArray, List.set_cons_zero, List.set_cons_succ, i64_w, i32_w]
    rfl
  refine pure_ (i := 11) (N := some 65) (v := ?_) (a' := ?_) #[true, true, true, true, true, true, true, true, false, true, true, true, false, false] rfl rfl (by kernel_rfl) (fun _ _ _ h => hpq.out _ _ _ _ (by rfl) h) (Or.inl ⟨by rfl, ?_⟩) ?_ ?_
  rotate_left
  · intro w'
    go_simp
    with_reducible rfl
  rotate_left
  · simp only [Act.put, List.setIfInBounds_toArray, List.set_cons_zero, List.set_cons_succ, i64_w, i32_w]
    rfl
  refine one_ (i := 8) (N := some 62) #[true, true, true, true, true, true, true, true, true, true, true, true, false, false] rfl rfl (by kernel_rfl) (by decide) (fun K hK => ?_)
  refine goes_ Try.func9 (by kernel_rfl) rfl #[.pointer (some ⟨B, 0, none⟩), .slice A' n' c'] (by rfl) rfl rfl (by simp only [List.map_toArray, List.map_cons, List.map_nil]; rfl) ?_
  with_reducible refine (kp.out).mono ?_
  rintro e w3 ⟨rfl, v3, hW3, hv3, HB3, hF3, hs3⟩
  refine ⟨_, rfl, ?_⟩
  have ho3 := Aside0.mk ((hP.out.made (w' := w3) (o := (Obj.cells #[.int .i64 kd, .int .i64 oi, .int .i64 oa, .int .u8 ob, .slice A' n' c'] 40)) hF3))
  have hP3 := Aside0.mk (hP1d.out.wire hW3 hF3 hv3)
  replace HB3 := Aside0.mk HB3
  clear hW3 hF3 hv3 hs3
  refine hK.out _ _ ((blk_cell' ho3.out 4).trans rfl) (fun hHeld => ?_)
  clear hK K
  refine norm_ (a' := ?_) ?_ ?_
  rotate_left
  · show Act.put _ (some 62) _ = _
    simp only [Act.put, List.setIfInBounds_toArray, List.set_cons_zero, List.set_cons_succ, i64_w, i32_w]
    rfl
  refine pure_ (i := 12) (N := some 66) (v := ?_) (a' := ?_) #[true, true, true, true, true, true, true, true, true, true, true, true, true, false] rfl rfl (by kernel_rfl) (fun _ _ _ h => hpq.out _ _ _ _ (by rfl) h) (Or.inl ⟨by rfl, ?_⟩) ?_ ?_
  rotate_left
  · intro w'
    go_simp
    with_reducible rfl
  rotate_left
  · simp only [Act.put, List.setIfInBounds_toArray, List.set_cons_zero, List.set_cons_succ, i64_w, i32_w]
    rfl
  refine pure_ (i := 13) (N := some 67) (v := ?_) (a' := ?_) #[true, true, true, true, true, true, true, true, true, true, true, true, true, true] rfl rfl (by kernel_rfl) (fun _ _ _ h => hpq.out _ _ _ _ (by rfl) h) (Or.inl ⟨by rfl, ?_⟩) ?_ ?_
  rotate_left
  · intro w'
    go_simp
    with_reducible rfl
  rotate_left
  · simp only [Act.put, List.setIfInBounds_toArray, List.set_cons_zero, List.set_cons_succ, i64_w, i32_w]
    rfl
  refine done_ (by kernel_rfl) ?_
  have q4 := blk_cell' ho3.out 4
  simp at q4
  have hL6 : Aside0 ((L ++ Lo).length ≤ 6 * (k + 1)) := ⟨by rw [List.length_append, hlo.out]; have := hL.out; omega⟩
  have hs2 : Aside0 (∀ x ∈ L ++ Lo, x.length ≤ 140737488351232) := ⟨fun x hx => by
    rcases List.mem_append.1 hx with h | h
    · exact hs.out x h
    · exact hso.out x h⟩
  clear hP1 HB1 hP1d HB1d kp hbase
  go_wp2_with fail
  go_loopw [4, 17] (fun lv iv wr => ∃ (j : Nat) (Lj : List (List Int)), j ≤ n' ∧ iv = .int .i64 j ∧ Aside0 (Lj = L ++ Lo.take j) ∧ Aside0 (Pl w.heap.size wr B v3 lv (L ++ Lo) Lj) ∧ Aside0 (Below w.heap.size w wr) ∧ Aside0 (wr.heap[wq.heap.size]? = some (Obj.cells #[.int .i64 kd, .int .i64 oi, .int .i64 oa, .int .u8 ob, .slice A' n' c'] 40))) (fun _ iv _ => n' - (intOf iv).toNat)
  case atStart => exact ⟨0, L, Nat.zero_le _, rfl, ⟨by rw [List.take_zero, List.append_nil]⟩, hP3, HB3, ho3⟩
  case round =>
    clear q4
    obtain ⟨j, Lj, hj, rfl, hLj, hPj, HBj, hOj⟩ := hrel
    obtain ⟨Aj, cj, rfl⟩ := Kd.R_slice hPj.out.row
    have q4 := blk_cell' hOj.out 4
    simp at q4
    by_cases hjn : j < n'
    · obtain ⟨ad2, A1, c1, e1, hx, hx1, hx2⟩ := at_L1 (Kd.C_below hCw.out HBj.out) (j : Int) (by omega) (by omega)
      rw [Int.toNat_natCast] at hx
      subst e1
      have hlk : j < Lo.length := by rw [hlo.out]; omega
      have hrd : rd_L1 Lo (j : Int) = Lo[j] := by simp [rd_L1, List.getD_eq_getElem?_getD, List.getElem?_eq_getElem hlk]
      have htk : Lo.take (j + 1) = Lo.take j ++ [Lo[j]] := List.take_succ_eq_append_getElem hlk
      have hxl := hso.out _ (List.getElem_mem hlk)
      have hlj : Lj.length ≤ 480 + j := by rw [hLj.out, List.length_append, List.length_take]; have := hL480.out; omega
      have hnext : Aside0 (Lj ++ [Lo[j]] = L ++ Lo.take (j + 1)) := ⟨by rw [htk, hLj.out, List.append_assoc]⟩
      rw [hrd] at hx hx1 hx2
      clear hrd htk
      generalize Lo[j] = xs at *
      replace hx2 : Aside0 (Kd.C kb wr A1 xs.length xs) := ⟨hx2⟩
      replace hxl := Aside0.mk hxl
      replace hlj := Aside0.mk hlj
      replace hlk := Aside0.mk hlk
      have j0 : (0 : Int) ≤ (j : Int) := by omega
      have j1 : (j : Int) < (n' : Int) := by omega
      have j2 : (n' : Int) ≤ (c' : Int) := by omega
      go_wp2_with (first
        | ((with_reducible refine gate_dst (N := 85) rfl ?_); go_loud (refine Kd.R_append_rows kb (w0 := wr) wr.heap.size rfl (.const (.slice none 0 0)) (.tmp 84) 27 5 _ 1 rfl Try.underlying27 info5 rfl (by decide) (by omega) (.slice none 0 0) [] xs A1 xs.length c1 (fun _ => True) (fun _ => False) rfl rfl (Kd.R_nil _ _ _ _ _) hx2.out (fun _ _ h => kb_KM h) (fun _ h => h.elim) (fun _ _ => trivial) (Below.refl _ _) (Nat.le_refl _) (by simp; have := hxl.out; omega) ?_); intro v9 w9 hR9 hb9 hg9 hat9; rw [List.nil_append] at hR9; obtain ⟨A9, c9, e9⟩ := Kd.R_slice hR9; subst e9; have hP9 := Aside0.mk (hPj.out.below hb9); have HB9 := Aside0.mk (below_then HBj.out HBj.out.size hb9); have hR9b : Aside0 (Kd.R kb 5 w9 w.heap.size (fun q => wr.heap.size ≤ q) (.slice A9 xs.length c9) xs) := ⟨Kd.R_lower (Kd.R_mono (Kd.R_bound hR9) (fun q hq => hq.2.1)) HBj.out.size⟩; have hO9 := Aside0.mk ((hb9.block _ (blk_lt' hOj.out)).trans hOj.out); have hs9 : Aside0 (∀ q, (Value.slice Aj Lj.length cj).ownBlock = some q → q < wr.heap.size) := ⟨fun q hq => ((Kd.R_bound hPj.out.row).1 q hq).2.2.1⟩; clear hg9 hat9 hR9 hb9)
        | ((with_reducible refine gate_dst (N := 87) rfl ?_); go_loud (refine Kd.R_append kbs (w0 := w) (W := w9) w.heap.size rfl (.tmp 79) (.tmp 86) 22 27 _ 24 rfl Try.underlying22 info27 rfl (by decide) (by omega) (.slice Aj Lj.length cj) Lj xs [.slice A9 xs.length c9] (fun _ => True) (fun q => wr.heap.size ≤ q) rfl rfl ⟨_, rfl, hR9b.out⟩ (fun q hq => ⟨trivial, fun e => by have := hs9.out q e.symm; omega⟩) (fun _ _ => trivial) hP9.out.row HB9.out HB9.out.size (by have := hlj.out; omega) ?_); intro v4 w4 hR4 hB4 hg4 hat4; have hP4 := Aside0.mk (hP9.out.list hR4 hg4 hat4); have hO4 := Aside0.mk ((hg4.block _ (blk_lt' hO9.out) (Kd.R_ne hP9.out.row hO9.out (by decide))).trans hO9.out); replace hB4 := Aside0.mk hB4; clear hR4 hg4 hat4)
        | fail)
      go_roundw
      case rel => exact ⟨j + 1, _, by omega, by go_num, hnext, hP4, hB4, hO4⟩
      case measure => simp [intOf]; omega
    · have hjj : j = n' := by omega
      subst hjj
      obtain rfl : Lj = L ++ Lo := by rw [hLj.out, List.take_of_length_le (by rw [hlo.out]; exact Nat.le_refl _)]
      generalize hLL : L ++ Lo = LL at *
      go_wp2_with (first
        | (go_at_call 13; (with_reducible refine (klen.out _ _ _ _ hPj.out.wi).mono ?_); rintro e w' ⟨rfl, hw⟩; subst w')
        | fail)
      refine hK.out _ _ (WI.mk_ B v3 _ LL hPj.out HBj.out hL6.out hs2.out rfl)
end Go.Proofs.Ytmhncklpejchcaa.Wir
