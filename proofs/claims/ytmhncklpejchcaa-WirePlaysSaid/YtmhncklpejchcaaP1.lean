/- WirePlays' round that takes a message. -/
import Derived.Test.YtmhncklpejchcaaPb
namespace Go.Proofs.Ytmhncklpejchcaa.Wir
open Go Go.RowKit Go.Proofs.Ytmhncklpejchcaa.PWirePlays Go.Proofs.YtmhncklpejchcaaW.PrintWords Go.Proofs.YtmhncklpejchcaaW.PrintLast Go.Proofs.YtmhncklpejchcaaW.PrintMore
set_option linter.unusedVariables false
set_option linter.unusedSimpArgs false
set_option maxRecDepth 1000000 in
set_option maxHeartbeats 16000000 in
theorem in1 (w wr : World) (K : Act → World → Prop) (Q0 : Exit → Act → World → Prop) (ad : Addr) (n cap k B : Nat) (v : Value) (Al : Option Addr) (cl : Nat) (L : List (List Int)) (hn : n ≤ 2 ^ 63 - 1) (hcap : n ≤ cap) (hk : k < n) (hk80 : k < 80)
    (hP : Aside0 (Pl w.heap.size wr B v (.slice Al L.length cl) L L)) (HB : Aside0 (Below w.heap.size w wr)) (hL : Aside0 (L.length ≤ 6 * k)) (hs : Aside0 (∀ x ∈ L, x.length ≤ 140737488351232))
    (t : Nat) (ht : t < L.length) (oa ob : Int) (A' : Option Addr) (n' c' : Nat) (Lo : List (List Int)) (hOp : OpAt wr (ad.add (k * 5)) 1 (t : Int) oa ob A' n' c' Lo) 
    (hK : Aside0 (∀ a' w'', WI w ad n cap (k + 1) a' w'' → K a' w'')) (hR : Aside0 (∀ a' w'', WR w ad n cap k a' w'' → Q0 .ret a' w'')) (hpq : Aside0 (∀ (x : List PanicEntry) (a a' : Act) (w : World), a.defers = a'.defers → Q0 (.panic x) a w → Q0 (.panic x) a' w))
    (u2 u6 u7 u8 u9 u10 u11 u12 u13 u14 u15 u16 u17 u28 u29 u30 u31 u32 u33 u34 u35 u36 u37 u38 u39 u40 u41 u42 u43 u44 u45 u46 u47 u48 u49 u50 u51 u52 u53 u54 u55 u56 u57 u58 u59 u60 u61 u62 u63 u64 u65 u66 u67 u68 u69 u70 u71 u72 u73 u74 u75 u76 u77 u78 u79 u80 u81 u82 u83 u84 u85 u86 u87 u88 u89 u90 u91 u92 u93 u94 u95 u96 u97 u98 u99 u100 u101 u102 u103 u104 u105 u106 u107 u108 u109 u110 u111 u112 u113 u114 u115 u116 u117 u118 u119 u120 u121 u122 u123 u124 u125 u126 u127 u128 u129 u130 u131 u132 u133 u134 u135 u136 u137 u138 u139 u140 u141 u142 u143 u144 u145 u146 u147 u148 u149 u150 u151 u152 u153 u154 u155 u156 u157 u158 u159 u160 u161 u162 u163 u164 u165 u166 u167 u168 u169 u170 u171 u172 u173 u174 u175 u176 u177 u178 u179 u180 u181 u182 u183 u184 u185 u186 u187 u188 u189 u190 u191 u192 u193 u194 u195 u196 u197 u198 u199 u200 u201 u202 u203 u204 u205 u206 u207 u208 u209 u210 u211 u212 u213 u214 u215 u216 u217 u218 u219 u220 u221 u222 u223 u224 u225 u226 u227 u228 u229 u230 u231 u232 u233 u234 u235 u236 u237 u238 u239 u240 u241 u242 u243 u244 u245 u246 u247 u248 u249 u250 u251 u252 u253 u254 u255 u256 u257 u258 u259 u260 : Value) :
    Code.wp Try.prog body1 (Exit.then K Q0) ⟨#[.slice (some ad) n cap, undef, u2, .pointer (some ⟨B, 0, none⟩), .slice Al L.length cl, .int .i64 k, u6, u7, u8, u9, u10, u11, u12, u13, u14, u15, u16, u17, undef, undef, undef, .pointer (some ⟨w.heap.size, 0, none⟩), .bool true, .bool false, .bool false, .pointer (some ⟨w.heap.size, 0, none⟩), .bool false, .bool false, u28, u29, u30, u31, u32, u33, u34, u35, u36, u37, u38, u39, u40, u41, u42, u43, u44, u45, u46, u47, u48, u49, u50, u51, u52, u53, u54, u55, u56, u57, u58, u59, u60, u61, u62, u63, u64, u65, u66, u67, u68, u69, u70, u71, u72, u73, u74, u75, u76, u77, u78, u79, u80, u81, u82, u83, u84, u85, u86, u87, u88, u89, u90, u91, u92, u93, u94, u95, u96, u97, u98, u99, u100, u101, u102, u103, u104, u105, u106, u107, u108, u109, u110, u111, u112, u113, u114, u115, u116, u117, u118, u119, u120, u121, u122, u123, u124, u125, u126, u127, u128, u129, u130, u131, u132, u133, u134, u135, u136, u137, u138, u139, u140, u141, u142, u143, u144, u145, u146, u147, u148, u149, u150, u151, u152, u153, u154, u155, u156, u157, u158, u159, u160, u161, u162, u163, u164, u165, u166, u167, u168, u169, u170, u171, u172, u173, u174, u175, u176, u177, u178, u179, u180, u181, u182, u183, u184, u185, u186, u187, u188, u189, u190, u191, u192, u193, u194, u195, u196, u197, u198, u199, u200, u201, u202, u203, u204, u205, u206, u207, u208, u209, u210, u211, u212, u213, u214, u215, u216, u217, u218, u219, u220, u221, u222, u223, u224, u225, u226, u227, u228, u229, u230, u231, u232, u233, u234, u235, u236, u237, u238, u239, u240, u241, u242, u243, u244, u245, u246, u247, u248, u249, u250, u251, u252, u253, u254, u255, u256, u257, u258, u259, u260, undef, undef, undef, undef, undef, undef, undef, undef, undef, undef, undef, undef, undef, undef, undef, undef, undef, undef, undef, undef, undef, undef, undef], []⟩ wr := by
  obtain ⟨x0, y1, y2, y3, y4, hn', HCo, hso⟩ := hOp
  replace y1 : wr.cell? ⟨(ad.add (k * 5)).block, (ad.add (k * 5)).off + 1, none⟩ = some (.int .i64 (t : Int)) := y1
  replace y2 : wr.cell? ⟨(ad.add (k * 5)).block, (ad.add (k * 5)).off + 2, none⟩ = some (.int .i64 oa) := y2
  replace y3 : wr.cell? ⟨(ad.add (k * 5)).block, (ad.add (k * 5)).off + 3, none⟩ = some (.int .u8 ob) := y3
  replace y4 : wr.cell? ⟨(ad.add (k * 5)).block, (ad.add (k * 5)).off + 4, none⟩ = some (.slice A' n' c') := y4
  replace HCo := Aside0.mk HCo
  replace hso := Aside0.mk hso
  have b0 : (0 : Int) ≤ (k : Int) := by omega
  have b1 : (k : Int) < (n : Int) := by omega
  have b2 : (k : Int) < 80 := by omega
  have klen : Aside0 (∀ (W : World) (B : Nat) (v : Value) (L' : List (List Int)), Wi W B w.heap.size v L' → Calls Try.prog 13 #[.pointer (some ⟨B, 0, none⟩)] W fun e w' => e = .returned (.int .i64 (L'.length : Int)) ∧ w' = W) := ⟨fun W B v L' h => len_c B w.heap.size v L' W h⟩
  have hP1 : Aside0 (Pl w.heap.size (wr.alloc (Obj.cells #[.int .i64 1, .int .i64 (t : Int), .int .i64 oa, .int .u8 ob, .slice A' n' c'] 40)) B v (.slice Al L.length cl) L L) := ⟨hP.out.below ((Below.refl _ _).alloc (Nat.le_refl _) _)⟩
  have HB1 : Aside0 (Below w.heap.size w (wr.alloc (Obj.cells #[.int .i64 1, .int .i64 (t : Int), .int .i64 oa, .int .u8 ob, .slice A' n' c'] 40))) := ⟨HB.out.alloc HB.out.size _⟩
  have hbase : Aside0 (w.heap.size ≤ (wr.alloc (Obj.cells #[.int .i64 1, .int .i64 (t : Int), .int .i64 oa, .int .u8 ob, .slice A' n' c'] 40)).heap.size) := ⟨HB1.out.size⟩
  have hL480 : Aside0 (L.length ≤ 480) := ⟨by have := hL.out; omega⟩
  have hlcl : L.length ≤ cl := (Kd.R_reads' hP.out.row).2.1
  obtain ⟨g, c_, e⟩ : ∃ g c_, (Value.slice Al L.length cl) = .slice (some ⟨g, 0, none⟩) L.length c_ := by
    obtain ⟨g, c_, _, _, e, _⟩ := row_elemR hP.out.row t ht
    exact ⟨g, c_, e⟩
  injection e with e1 e2 e3
  subst e1
  clear e2 e3 c_
  have ht0 : (0 : Int) ≤ (t : Int) := by omega
  have ht1 : (t : Int) < (L.length : Int) := by omega
  have hxs : Aside0 (L[t].length ≤ 140737488351232) := ⟨hs.out _ (List.getElem_mem ht)⟩
  have kxo : Aside0 (∀ (W : World) (v3 : Value) (L' : List (List Int)), Wi W B w.heap.size v3 L' → Fr (wr.alloc (Obj.cells #[.int .i64 1, .int .i64 (t : Int), .int .i64 oa, .int .u8 ob, .slice A' n' c'] 40)) W B v → (v3.ownBlock = v.ownBlock ∨ ∃ b, v3.ownBlock = some b ∧ (wr.alloc (Obj.cells #[.int .i64 1, .int .i64 (t : Int), .int .i64 oa, .int .u8 ob, .slice A' n' c'] 40)).heap.size ≤ b) → W.heap[wr.heap.size]? = some (Obj.cells #[.int .i64 1, .int .i64 (t : Int), .int .i64 oa, .int .u8 ob, .slice A' n' c'] 40) ∧ Pl w.heap.size W B v3 (.slice (some ⟨g, 0, none⟩) L.length cl) L' L ∧ ∃ A1 c1, W.cell? ⟨g, t, none⟩ = some (.slice A1 L[t].length c1) ∧ L[t].length ≤ c1 ∧ Kd.R kb 5 W w.heap.size (fun k => k < W.heap.size ∧ some k ≠ (Value.slice (some ⟨g, 0, none⟩) L.length cl).ownBlock) (.slice A1 L[t].length c1) L[t]) := ⟨fun W v3 L' hW hF ho => by
    have hP3 := hP1.out.wire hW hF ho
    refine ⟨Pl.made hP.out hF, hP3, ?_⟩
    obtain ⟨g', c', A1, c1, e, hlc, hx, hx1, hx2⟩ := row_elemR hP3.row t ht
    injection e with e1 e2 e3
    injection e1 with e1
    injection e1 with e1
    subst e1
    exact ⟨A1, c1, hx, hx1, hx2⟩⟩
  have kx := Aside0.mk (take_c t B w.heap.size v L w _ hP1.out.wi HB1.out hbase.out ht (by have := hL480.out; omega) hxs.out)
  generalize hgx : L[t] = xs at *
  clear hgx
  conv => arg 2; whnf
  go_wp2_with (first
    | (go_at_call 11; (with_reducible refine kx.out.mono ?_); rintro e w7 ⟨⟨A7, c7, rfl, hc7, hC7⟩, ⟨v7, hW7, ho7⟩, HB7, hF7, hs7⟩; obtain ⟨ho, hP7, A1, c1, hx, hx1, hx2⟩ := kxo.out w7 v7 _ hW7 hF7 (.inl ho7); have q1 := blk_cell' ho 1; simp at q1; replace ho := Aside0.mk ho; replace hP7 := Aside0.mk hP7; replace hx2 := Aside0.mk hx2; replace hx1 := Aside0.mk hx1; replace HB7 := Aside0.mk HB7; replace hC7 := Aside0.mk hC7; replace hc7 := Aside0.mk hc7; clear hF7 ho7 hW7 hs7)
    | (go_at_call 12; go_loud (refine (bytes_c A7 c7 xs A1 c1 xs w7 hC7.out hc7.out (Kd.R_reads' hx2.out).2.2 hx1.out).mono ?_); rw [beq_self_eq_true]; rintro e w8 ⟨rfl, ⟨q8, hw8⟩⟩; (have hb8 := pw_below_drewN (Below.refl w7.heap.size w7) q8); rw [← hw8] at hb8; clear hw8; replace hb8 := Aside0.mk hb8)
    | fail)
  have hs2 : Aside0 (∀ x ∈ L.eraseIdx t, x.length ≤ 140737488351232) := ⟨fun x hx => hs.out x (List.mem_of_mem_eraseIdx hx)⟩
  have hP8 := Aside0.mk (hP7.out.below hb8.out)
  have HB8 := Aside0.mk (below_then HB7.out HB7.out.size hb8.out)
  have h8 : Aside0 (w7.heap.size ≤ w8.heap.size) := ⟨hb8.out.size⟩
  have kS : Aside0 (∀ w', Below w8.heap.size w8 w' → w'.cell? ⟨wr.heap.size, 1, none⟩ = some (.int .i64 (t : Int)) ∧ Aside0 (Below w8.heap.size w8 w')) := ⟨fun w' hb => ⟨(World.cell?_of_block ((hb.block wr.heap.size (Nat.lt_of_lt_of_le (blk_lt' ho.out) h8.out)).trans (hb8.out.block _ (blk_lt' ho.out)))).trans q1, ⟨hb⟩⟩⟩
  have hLr : Aside0 (∀ W, Below w8.heap.size w8 W → ReadsRow (kbs.M W w.heap.size (fun k => k < w8.heap.size)) 1 W (some ⟨g, 0, none⟩) L.length L) := ⟨fun W hb => by
    have hr2 : Kd.R kbs 27 W w.heap.size (fun k => k < w8.heap.size) (.slice (some ⟨g, 0, none⟩) L.length cl) L := Kd.R_below (Kd.R_mono (Kd.R_bound hP8.out.row) (fun k hk => hk.2.2.1)) hb
    obtain ⟨A2, c2, e2, hl2, hrd⟩ := OwnRow.reads hr2.2
    injection e2 with ea en ec
    subst ea
    exact ReadsRow.imp_ hrd (Below.refl _ _) (fun p c hp => kbs.M_mono (fun k hk => hk.1) hp)⟩
  have z0 : (L.length : Int) ≤ 480 := by have := hL480.out; omega
  have z1 : (t : Int) ≤ (cl : Int) := by omega
  have z2 : (t : Int) + 1 ≤ (L.length : Int) := by omega
  have z3 : (t : Int) + 1 ≤ (cl : Int) := by omega
  have z4 : (L.length : Int) ≤ (cl : Int) := by omega
  have z5 : ¬ ((t : Int) = (t : Int) + 1) := by omega
  have z6 : (t : Int) ≤ (t : Int) + 1 := by omega
  have z7 : wrap64 ((t : Int) + 1) = (t : Int) + 1 := by unfold wrap64; omega
  have z8 : (0 : Int) ≤ (t : Int) + 1 := by omega
  have z9 : ((t : Int) + 1).toNat = t + 1 := by omega
  have hsz8 : Aside0 (w.heap.size ≤ w8.heap.size) := ⟨HB8.out.size⟩
  clear q1 hx
  refine start_ (n := 12) (S := fun w' => w'.cell? ⟨wr.heap.size, 1, none⟩ = some (.int .i64 (t : Int)) ∧ Aside0 (Below w8.heap.size w8 w')) (ds := [10]) #[false, false, false, false, false, false, false, false, false, false, false, false] (by kernel_rfl) rfl rfl ⟨(kS.out _ (below_drew (Below.refl _ _))).1, (kS.out _ (below_drew (Below.refl _ _))).2⟩ (fun hHeld => ?_)
  refine pure_ (i := 0) (N := some 128) (v := ?_) (a' := ?_) #[true, false, false, false, false, false, false, false, false, false, false, false] rfl rfl (by kernel_rfl) (fun _ _ _ h => hpq.out _ _ _ _ (by rfl) h) (Or.inl ⟨by rfl, ?_⟩) ?_ ?_
  rotate_left
  · intro w'
    go_simp
    with_reducible rfl
  rotate_left
  · simp only [Act.put, List.setIfInBounds_toArray, List.set_cons_zero, List.set_cons_succ, i64_w, i32_w]
    rfl
  refine pure_ (i := 1) (N := some 129) (v := ?_) (a' := ?_) #[true, true, false, false, false, false, false, false, false, false, false, false] rfl rfl (by kernel_rfl) (fun _ _ _ h => hpq.out _ _ _ _ (by rfl) h) (Or.inl ⟨by rfl, ?_⟩) ?_ ?_
  rotate_left
  · intro w'
    go_simp
    with_reducible rfl
  rotate_left
  · simp only [Act.put, List.setIfInBounds_toArray, List.set_cons_zero, List.set_cons_succ, i64_w, i32_w]
    rfl
  refine pure_ (i := 5) (N := some 133) (v := ?_) (a' := ?_) #[true, true, false, false, false, true, false, false, false, false, false, false] rfl rfl (by kernel_rfl) (fun _ _ _ h => hpq.out _ _ _ _ (by rfl) h) (Or.inl ⟨by rfl, ?_⟩) ?_ ?_
  rotate_left
  · intro w'
    go_simp
    with_reducible rfl
  rotate_left
  · simp only [Act.put, List.setIfInBounds_toArray, List.set_cons_zero, List.set_cons_succ, i64_w, i32_w]
    rfl
  refine pure_ (i := 6) (N := some 134) (v := ?_) (a' := ?_) #[true, true, false, false, false, true, true, false, false, false, false, false] rfl rfl (by kernel_rfl) (fun _ _ _ h => hpq.out _ _ _ _ (by rfl) h) (Or.inl ⟨by rfl, ?_⟩) ?_ ?_
  rotate_left
  · intro w'
    go_simp
    with_reducible rfl
  rotate_left
  · simp only [Act.put, List.setIfInBounds_toArray, List.set_cons_zero, List.set_cons_succ, i64_w, i32_w]
    rfl
  refine take_ (i := 2) (N := some 130) (v := ?_) (a' := ?_) #[true, true, true, false, false, true, true, false, false, false, false, false] rfl rfl (by kernel_rfl) (fun _ _ _ h => hpq.out _ _ _ _ (by rfl) h) (Or.inl ⟨by rfl, ?_⟩) hHeld ?_ ?_
  rotate_left
  · rintro w' ⟨s0, s1⟩
    go_simp
    with_reducible rfl
  rotate_left
  · simp only [Act.put, List.setIfInBounds_toArray, List.set_cons_zero, List.set_cons_succ, i64_w, i32_w]
    rfl
  refine pure_ (i := 3) (N := some 131) (v := ?_) (a' := ?_) #[true, true, true, true, false, true, true, false, false, false, false, false] rfl rfl (by kernel_rfl) (fun _ _ _ h => hpq.out _ _ _ _ (by rfl) h) (Or.inl ⟨by rfl, ?_⟩) ?_ ?_
  rotate_left
  · intro w'
    go_simp
    with_reducible rfl
  rotate_left
  · simp only [Act.put, List.setIfInBounds_toArray, List.set_cons_zero, List.set_cons_succ, i64_w, i32_w]
    rfl
  refine take_ (i := 7) (N := some 135) (v := ?_) (a' := ?_) #[true, true, true, true, false, true, true, true, false, false, false, false] rfl rfl (by kernel_rfl) (fun _ _ _ h => hpq.out _ _ _ _ (by rfl) h) (Or.inl ⟨by rfl, ?_⟩) hHeld ?_ ?_
  rotate_left
  · rintro w' ⟨s0, s1⟩
    go_simp
    with_reducible rfl
  rotate_left
  · simp only [Act.put, List.setIfInBounds_toArray, List.set_cons_zero, List.set_cons_succ, i64_w, i32_w]
    rfl
  refine pure_ (i := 8) (N := some 136) (v := ?_) (a' := ?_) #[true, true, true, true, false, true, true, true, true, false, false, false] rfl rfl (by kernel_rfl) (fun _ _ _ h => hpq.out _ _ _ _ (by rfl) h) (Or.inl ⟨by rfl, ?_⟩) ?_ ?_
  rotate_left
  · intro w'
    go_simp
    with_reducible rfl
  rotate_left
  · simp only [Act.put, List.setIfInBounds_toArray, List.set_cons_zero, List.set_cons_succ, i64_w, i32_w]
    rfl
  refine pure_ (i := 9) (N := some 137) (v := ?_) (a' := ?_) #[true, true, true, true, false, true, true, true, true, true, false, false] rfl rfl (by kernel_rfl) (fun _ _ _ h => hpq.out _ _ _ _ (by rfl) h) (Or.inl ⟨by rfl, ?_⟩) ?_ ?_
  rotate_left
  · intro w'
    go_simp
    with_reducible rfl
  rotate_left
  · simp only [Act.put, List.setIfInBounds_toArray, List.set_cons_zero, List.set_cons_succ, i64_w, i32_w]
    rfl
  refine one_ (i := 4) (N := some 132) #[true, true, true, true, true, true, true, true, true, true, false, false] rfl rfl (by kernel_rfl) (by decide) (fun K hK => ?_)
  have HB_ := hHeld.2.out
  refine Kd.R_append_rows_step kbs (w0 := w) w.heap.size (by rfl) (.const (.slice none 0 0)) (.tmp 131) 22 27 _ 24 (by rfl) Try.underlying22 info27 (by rfl) (by decide) (by omega) (.slice none 0 0) [] (L.take t) (some ⟨g, 0, none⟩) t cl (fun _ => True) (fun k => k < w8.heap.size) (by rfl) (by rfl) (Kd.R_nil _ _ _ _ _) (reads_take (hLr.out _ HB_) (by omega)) (fun _ _ h => h) (fun k _ => ⟨trivial, by simp [Value.ownBlock]⟩) (fun _ _ => trivial) (below_then HB8.out hsz8.out HB_) (Nat.le_trans hsz8.out HB_.size) (by simp; have := hL480.out; omega) ?_
  intro v1 w1 hR1 hB1 hg1 hat1
  rw [List.nil_append] at hR1
  have HB1_ := Aside0.mk (HB_.grown hg1 HB_.size (fun k hk => by cases hk))
  have hv1 : Aside0 (∀ k, v1.ownBlock = some k → w8.heap.size ≤ k) := ⟨fun k hk => by
          rcases hat1 with h | ⟨b, h1, h2⟩
          · rw [hk] at h; cases h
          · rw [hk] at h1; injection h1 with h1; have := HB_.size; omega⟩
  obtain ⟨A1', c1', e1'⟩ := Kd.R_slice hR1
  subst e1'
  replace hR1 := Aside0.mk hR1
  replace hB1 := Aside0.mk hB1
  clear hg1 hat1
  refine hK.out _ _ ⟨(kS.out _ HB1_.out).1, (kS.out _ HB1_.out).2⟩ (fun hHeld => ?_)
  clear hK K
  refine norm_ (a' := ?_) ?_ ?_
  rotate_left
  · show Act.put _ (some 132) _ = _
    simp only [Act.put, List.setIfInBounds_toArray, List.set_cons_zero, List.set_cons_succ, i64_w, i32_w]
    rfl
  refine last_ (i := 10) (N := some 138) #[true, true, true, true, true, true, true, true, true, true, true, false] rfl rfl (by kernel_rfl) (by decide) (fun K hK => ?_)
  have HB2_ := hHeld.2.out
  refine Kd.R_append_rows_step kbs (w0 := w) w.heap.size (by rfl) (.tmp 132) (.tmp 137) 22 27 _ 24 (by rfl) Try.underlying22 info27 (by rfl) (by decide) (by omega) (.slice A1' (L.take t).length c1') (L.take t) (L.drop (t + 1)) (if cl = t + 1 then some ⟨g, 0, none⟩ else some ⟨g, t + 1, none⟩) (L.length - (t + 1)) (cl - (t + 1)) (fun _ => True) (fun k => k < w8.heap.size) (by rfl) (by first | rfl | simp [Addr.add_lit]) hR1.out (reads_drop (hLr.out _ HB1_.out) (by omega) hlcl) (fun _ _ h => h) (fun k hk => ⟨trivial, fun e => by have := hv1.out k e.symm; omega⟩) (fun _ _ => trivial) hB1.out hB1.out.size (by have := hL480.out; rw [List.length_take]; omega) ?_
  intro v2 w2 hR2 hB9 hg2 hat2
  have hb9 := HB1_.out.grown hg2 HB1_.out.size hv1.out
  have hv2 : ∀ k, v2.ownBlock = some k → w8.heap.size ≤ k := fun k hk => by
          rcases hat2 with h | ⟨b, h1, h2⟩
          · exact hv1.out k (h.symm.trans hk)
          · rw [hk] at h1; injection h1 with h1; have := HB1_.out.size; omega
  have hP9 := hP8.out.anew hb9 hR2 hv2
  rw [← List.eraseIdx_eq_take_drop_succ] at hP9
  obtain ⟨A2, c2, e2⟩ := Kd.R_slice hP9.row
  subst e2
  replace hP9 := Aside0.mk hP9
  replace hB9 := Aside0.mk hB9
  clear hR2 hg2 hat2 hb9 hv2
  refine hK.out _ _ ?_
  clear hK K
  refine norm_ (a' := ?_) ?_ ?_
  rotate_left
  · show Act.put _ (some 138) _ = _
    simp only [Act.put, List.setIfInBounds_toArray, List.set_cons_zero, List.set_cons_succ, i64_w, i32_w]
    rfl
  refine pure_ (i := 11) (N := some 4) (v := ?_) (a' := ?_) #[true, true, true, true, true, true, true, true, true, true, true, true] rfl rfl (by kernel_rfl) (fun _ _ _ h => hpq.out _ _ _ _ (by rfl) h) (Or.inl ⟨by rfl, ?_⟩) ?_ ?_
  rotate_left
  · intro w'
    go_simp
    with_reducible rfl
  rotate_left
  · simp only [Act.put, List.setIfInBounds_toArray, List.set_cons_zero, List.set_cons_succ, i64_w, i32_w]
    rfl
  refine done_ (by kernel_rfl) ?_
  go_wp2_with (first
    | (go_at_call 13; (with_reducible refine (klen.out _ _ _ _ hP9.out.wi).mono ?_); rintro e w' ⟨rfl, hw⟩; subst w')
    | fail)
  all_goals
    refine hK.out _ _ (WI.mk_ B _ _ (L.eraseIdx t) hP9.out hB9.out (by have := hL.out; rw [List.length_eraseIdx_of_lt ht]; omega) hs2.out rfl)
end Go.Proofs.Ytmhncklpejchcaa.Wir
