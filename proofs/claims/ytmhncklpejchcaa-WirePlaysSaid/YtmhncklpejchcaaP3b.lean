/- WirePlays' round that corrupts a message. -/
import Derived.Test.YtmhncklpejchcaaPb
namespace Go.Proofs.Ytmhncklpejchcaa.Wir
open Go Go.RowKit Go.Proofs.Ytmhncklpejchcaa.PWirePlays Go.Proofs.YtmhncklpejchcaaW.PrintWords Go.Proofs.YtmhncklpejchcaaW.PrintLast Go.Proofs.YtmhncklpejchcaaW.PrintMore
set_option linter.unusedVariables false
set_option linter.unusedSimpArgs false
set_option maxRecDepth 1000000 in
set_option maxHeartbeats 16000000 in
theorem in3 (w wr : World) (K : Act → World → Prop) (Q0 : Exit → Act → World → Prop) (ad : Addr) (n cap k B : Nat) (v : Value) (Al : Option Addr) (cl : Nat) (L : List (List Int)) (hn : n ≤ 2 ^ 63 - 1) (hcap : n ≤ cap) (hk : k < n) (hk80 : k < 80)
    (hP : Aside0 (Pl w.heap.size wr B v (.slice Al L.length cl) L L)) (HB : Aside0 (Below w.heap.size w wr)) (hL : Aside0 (L.length ≤ 6 * k)) (hs : Aside0 (∀ x ∈ L, x.length ≤ 140737488351232))
    (t : Nat) (ht : t < L.length) (a : Nat) (ha : a < L[t].length) (ob : Int) (A' : Option Addr) (n' c' : Nat) (Lo : List (List Int)) (hOp : OpAt wr (ad.add (k * 5)) 3 (t : Int) (a : Int) ob A' n' c' Lo) 
    (hK : Aside0 (∀ a' w'', WI w ad n cap (k + 1) a' w'' → K a' w'')) (hR : Aside0 (∀ a' w'', WR w ad n cap k a' w'' → Q0 .ret a' w'')) (hpq : Aside0 (∀ (x : List PanicEntry) (a a' : Act) (w : World), a.defers = a'.defers → Q0 (.panic x) a w → Q0 (.panic x) a' w))
    (u2 u6 u7 u8 u9 u10 u11 u12 u13 u14 u15 u16 u17 u28 u29 u30 u31 u32 u33 u34 u35 u36 u37 u38 u39 u40 u41 u42 u43 u44 u45 u46 u47 u48 u49 u50 u51 u52 u53 u54 u55 u56 u57 u58 u59 u60 u61 u62 u63 u64 u65 u66 u67 u68 u69 u70 u71 u72 u73 u74 u75 u76 u77 u78 u79 u80 u81 u82 u83 u84 u85 u86 u87 u88 u89 u90 u91 u92 u93 u94 u95 u96 u97 u98 u99 u100 u101 u102 u103 u104 u105 u106 u107 u108 u109 u110 u111 u112 u113 u114 u115 u116 u117 u118 u119 u120 u121 u122 u123 u124 u125 u126 u127 u128 u129 u130 u131 u132 u133 u134 u135 u136 u137 u138 u139 u140 u141 u142 u143 u144 u145 u146 u147 u148 u149 u150 u151 u152 u153 u154 u155 u156 u157 u158 u159 u160 u161 u162 u163 u164 u165 u166 u167 u168 u169 u170 u171 u172 u173 u174 u175 u176 u177 u178 u179 u180 u181 u182 u183 u184 u185 u186 u187 u188 u189 u190 u191 u192 u193 u194 u195 u196 u197 u198 u199 u200 u201 u202 u203 u204 u205 u206 u207 u208 u209 u210 u211 u212 u213 u214 u215 u216 u217 u218 u219 u220 u221 u222 u223 u224 u225 u226 u227 u228 u229 u230 u231 u232 u233 u234 u235 u236 u237 u238 u239 u240 u241 u242 u243 u244 u245 u246 u247 u248 u249 u250 u251 u252 u253 u254 u255 u256 u257 u258 u259 u260 : Value) :
    Code.wp Try.prog body1 (Exit.then K Q0) ⟨#[.slice (some ad) n cap, undef, u2, .pointer (some ⟨B, 0, none⟩), .slice Al L.length cl, .int .i64 k, u6, u7, u8, u9, u10, u11, u12, u13, u14, u15, u16, u17, undef, undef, undef, .pointer (some ⟨w.heap.size, 0, none⟩), .bool true, .bool false, .bool false, .pointer (some ⟨w.heap.size, 0, none⟩), .bool false, .bool false, u28, u29, u30, u31, u32, u33, u34, u35, u36, u37, u38, u39, u40, u41, u42, u43, u44, u45, u46, u47, u48, u49, u50, u51, u52, u53, u54, u55, u56, u57, u58, u59, u60, u61, u62, u63, u64, u65, u66, u67, u68, u69, u70, u71, u72, u73, u74, u75, u76, u77, u78, u79, u80, u81, u82, u83, u84, u85, u86, u87, u88, u89, u90, u91, u92, u93, u94, u95, u96, u97, u98, u99, u100, u101, u102, u103, u104, u105, u106, u107, u108, u109, u110, u111, u112, u113, u114, u115, u116, u117, u118, u119, u120, u121, u122, u123, u124, u125, u126, u127, u128, u129, u130, u131, u132, u133, u134, u135, u136, u137, u138, u139, u140, u141, u142, u143, u144, u145, u146, u147, u148, u149, u150, u151, u152, u153, u154, u155, u156, u157, u158, u159, u160, u161, u162, u163, u164, u165, u166, u167, u168, u169, u170, u171, u172, u173, u174, u175, u176, u177, u178, u179, u180, u181, u182, u183, u184, u185, u186, u187, u188, u189, u190, u191, u192, u193, u194, u195, u196, u197, u198, u199, u200, u201, u202, u203, u204, u205, u206, u207, u208, u209, u210, u211, u212, u213, u214, u215, u216, u217, u218, u219, u220, u221, u222, u223, u224, u225, u226, u227, u228, u229, u230, u231, u232, u233, u234, u235, u236, u237, u238, u239, u240, u241, u242, u243, u244, u245, u246, u247, u248, u249, u250, u251, u252, u253, u254, u255, u256, u257, u258, u259, u260, undef, undef, undef, undef, undef, undef, undef, undef, undef, undef, undef, undef, undef, undef, undef, undef, undef, undef, undef, undef, undef, undef, undef], []⟩ wr := by
  obtain ⟨x0, y1, y2, y3, y4, hn', HCo, hso⟩ := hOp
  replace y1 : wr.cell? ⟨(ad.add (k * 5)).block, (ad.add (k * 5)).off + 1, none⟩ = some (.int .i64 (t : Int)) := y1
  replace y2 : wr.cell? ⟨(ad.add (k * 5)).block, (ad.add (k * 5)).off + 2, none⟩ = some (.int .i64 (a : Int)) := y2
  replace y3 : wr.cell? ⟨(ad.add (k * 5)).block, (ad.add (k * 5)).off + 3, none⟩ = some (.int .u8 ob) := y3
  replace y4 : wr.cell? ⟨(ad.add (k * 5)).block, (ad.add (k * 5)).off + 4, none⟩ = some (.slice A' n' c') := y4
  replace HCo := Aside0.mk HCo
  replace hso := Aside0.mk hso
  have b0 : (0 : Int) ≤ (k : Int) := by omega
  have b1 : (k : Int) < (n : Int) := by omega
  have b2 : (k : Int) < 80 := by omega
  have klen : Aside0 (∀ (W : World) (B : Nat) (v : Value) (L' : List (List Int)), Wi W B w.heap.size v L' → Calls Try.prog 13 #[.pointer (some ⟨B, 0, none⟩)] W fun e w' => e = .returned (.int .i64 (L'.length : Int)) ∧ w' = W) := ⟨fun W B v L' h => len_c B w.heap.size v L' W h⟩
  have hP1 : Aside0 (Pl w.heap.size (wr.alloc (Obj.cells #[.int .i64 3, .int .i64 (t : Int), .int .i64 (a : Int), .int .u8 ob, .slice A' n' c'] 40)) B v (.slice Al L.length cl) L L) := ⟨hP.out.below ((Below.refl _ _).alloc (Nat.le_refl _) _)⟩
  have HB1 : Aside0 (Below w.heap.size w (wr.alloc (Obj.cells #[.int .i64 3, .int .i64 (t : Int), .int .i64 (a : Int), .int .u8 ob, .slice A' n' c'] 40))) := ⟨HB.out.alloc HB.out.size _⟩
  have hbase : Aside0 (w.heap.size ≤ (wr.alloc (Obj.cells #[.int .i64 3, .int .i64 (t : Int), .int .i64 (a : Int), .int .u8 ob, .slice A' n' c'] 40)).heap.size) := ⟨HB1.out.size⟩
  have hL480 : Aside0 (L.length ≤ 480) := ⟨by have := hL.out; omega⟩
  have hlcl : L.length ≤ cl := (Kd.R_reads' hP.out.row).2.1
  obtain ⟨g, c_, e⟩ : ∃ g c_, (Value.slice Al L.length cl) = .slice (some ⟨g, 0, none⟩) L.length c_ := by
    obtain ⟨g, c_, _, _, e, _⟩ := row_elemR hP.out.row t ht
    exact ⟨g, c_, e⟩
  injection e with e1 e2 e3
  subst e1
  clear e2 e3 c_
  have ht0 : (0 : Int) ≤ (t : Int) := by omega
  have ht1 : (t : Int) < (L.length : Int) := by omega
  have hxs : Aside0 (L[t].length ≤ 140737488351232) := ⟨hs.out _ (List.getElem_mem ht)⟩
  have kxo : Aside0 (∀ (W : World) (v3 : Value) (L' : List (List Int)), Wi W B w.heap.size v3 L' → Fr (wr.alloc (Obj.cells #[.int .i64 3, .int .i64 (t : Int), .int .i64 (a : Int), .int .u8 ob, .slice A' n' c'] 40)) W B v → (v3.ownBlock = v.ownBlock ∨ ∃ b, v3.ownBlock = some b ∧ (wr.alloc (Obj.cells #[.int .i64 3, .int .i64 (t : Int), .int .i64 (a : Int), .int .u8 ob, .slice A' n' c'] 40)).heap.size ≤ b) → W.heap[wr.heap.size]? = some (Obj.cells #[.int .i64 3, .int .i64 (t : Int), .int .i64 (a : Int), .int .u8 ob, .slice A' n' c'] 40) ∧ Pl w.heap.size W B v3 (.slice (some ⟨g, 0, none⟩) L.length cl) L' L ∧ ∃ A1 c1, W.cell? ⟨g, t, none⟩ = some (.slice A1 L[t].length c1) ∧ L[t].length ≤ c1 ∧ Kd.R kb 5 W w.heap.size (fun k => k < W.heap.size ∧ some k ≠ (Value.slice (some ⟨g, 0, none⟩) L.length cl).ownBlock) (.slice A1 L[t].length c1) L[t]) := ⟨fun W v3 L' hW hF ho => by
    have hP3 := hP1.out.wire hW hF ho
    refine ⟨Pl.made hP.out hF, hP3, ?_⟩
    obtain ⟨g', c', A1, c1, e, hlc, hx, hx1, hx2⟩ := row_elemR hP3.row t ht
    injection e with e1 e2 e3
    injection e1 with e1
    injection e1 with e1
    subst e1
    exact ⟨A1, c1, hx, hx1, hx2⟩⟩
  have kx := corrupt_c t a ob B w.heap.size v L w _ hP1.out.wi HB1.out hbase.out ht ha (by have := hL480.out; omega) hxs.out
  have kxb : Aside0 (∀ (W : World) (C1 : Option Addr) (c1 : Nat), Kd.R kb 5 W w.heap.size (fun k => k < W.heap.size ∧ some k ≠ (Value.slice (some ⟨g, 0, none⟩) L.length cl).ownBlock) (.slice C1 L[t].length c1) L[t] → Kd.C kb W C1 L[t].length L[t]) := ⟨fun W C1 c1 h => (Kd.R_reads' h).2.2⟩
  have hs2 : Aside0 (∀ z, ∀ x ∈ L.set t (L[t].set a z), x.length ≤ 140737488351232) := ⟨fun z x hx => by
    rcases List.mem_or_eq_of_mem_set hx with h | h
    · exact hs.out x h
    · rw [h, List.length_set]; exact hxs.out⟩
  generalize hxe : L[t] = xs at *
  replace hxe := Aside0.mk hxe
  have ha0 : (0 : Int) ≤ (a : Int) := by omega
  have ha1 : (a : Int) < (xs.length : Int) := by omega
  generalize hxz : bits BinOp.xor IntKind.u8 xs[a] ob = z at *
  replace hxz := Aside0.mk hxz
  generalize hxa : xs[a] = xa at *
  replace hxa := Aside0.mk hxa
  replace kx := Aside0.mk kx
  conv => arg 2; whnf
  go_wp2_with (first
    | (go_at_call 10; (with_reducible refine kx.out.mono ?_); rintro e w7 ⟨rfl, ⟨v7, hW7, ho7⟩, HB7, hF7, hs7⟩; obtain ⟨ho, hP7, A1, c1, hx, hx1, hx2⟩ := kxo.out w7 v7 _ hW7 hF7 (.inl ho7); have q1 := blk_cell' ho 1; have q2 := blk_cell' ho 2; have q3 := blk_cell' ho 3; simp at q1 q2 q3; replace ho := Aside0.mk ho; replace hP7 := Aside0.mk hP7; replace hx2 := Aside0.mk hx2; replace hx1 := Aside0.mk hx1; replace HB7 := Aside0.mk HB7; clear hF7 ho7 hW7 hs7)
    | fail)
  go_quiet (fail)
  have hb8 := Aside0.mk (pw_below_drewN (Below.refl w7.heap.size w7) nq)
  have hP8 := Aside0.mk (hP7.out.below hb8.out)
  have HB8 := Aside0.mk (pw_below_drewN HB7.out nq)
  have p1 := cell_later hb8.out q1
  have p2 := cell_later hb8.out q2
  have p3 := cell_later hb8.out q3
  have px := cell_later hb8.out hx
  have hC8 := Aside0.mk (Kd.C_below (kxb.out _ _ _ hx2.out) hb8.out)
  have ho8 := Aside0.mk ((hb8.out.block _ (blk_lt' ho.out)).trans ho.out)
  generalize w7.drewN nq = w8 at *
  have hsz8 : Aside0 (w.heap.size ≤ w8.heap.size) := ⟨HB8.out.size⟩
  clear q1 q2 q3 hx
  go_wp2_with (first
    | ((with_reducible refine gate_dst (N := 199) rfl ?_); go_loud (refine Kd.R_append_rows kb (w0 := w8) w8.heap.size rfl (.const (.slice none 0 0)) (.tmp 198) 27 5 _ 1 rfl Try.underlying27 info5 rfl (by decide) (by omega) (.slice none 0 0) [] xs A1 xs.length c1 (fun _ => True) (fun _ => False) rfl rfl (Kd.R_nil _ _ _ _ _) hC8.out (fun _ _ h => kb_KM h) (fun _ h => h.elim) (fun _ _ => trivial) (Below.refl _ _) (Nat.le_refl _) (by simp; have := hxs.out; omega) ?_); intro v9 w9 hR9 hb9 hg9 hat9; rw [List.nil_append] at hR9; obtain ⟨A9, c9, e9⟩ := Kd.R_slice hR9; subst e9; replace hR9 := Aside0.mk hR9; replace hb9 := Aside0.mk hb9; clear hg9 hat9)
    | fail)
  have hx0 : 0 < xs.length := by omega
  obtain ⟨g9, rfl⟩ : ∃ g9, A9 = some ⟨g9, 0, none⟩ := by
    obtain ⟨ad9, he, _⟩ := (Kd.R_reads' hR9.out).2.2.2.2 hx0
    subst he
    obtain ⟨g9, rfl⟩ := R_home hR9.out
    exact ⟨g9, rfl⟩
  have hg9 : Aside0 (w8.heap.size ≤ g9 ∧ g9 < w9.heap.size) := ⟨⟨((Kd.R_bound hR9.out).1 g9 rfl).2.1, ((Kd.R_bound hR9.out).1 g9 rfl).2.2.1⟩⟩
  have hgl : Aside0 (g < w8.heap.size) := ⟨((Kd.R_bound hP8.out.row).1 g rfl).2.2.1⟩
  have hgg : g ≠ g9 := by have := hg9.out; have := hgl.out; omega
  have hol : Aside0 (wr.heap.size < w8.heap.size) := ⟨blk_lt' ho8.out⟩
  have hog : wr.heap.size ≠ g9 := by have := hg9.out; have := hol.out; omega
  obtain ⟨d1, d2⟩ := Kd.R_celln (h1 := fun _ => rfl) (0 : Int) hR9.out (a : Int) (by omega) (by omega)
  rw [Int.toNat_natCast] at d1 d2
  have hrx : rdOf 0 xs (a : Int) = xa := by rw [← hxa.out]; simp [rdOf, List.getD_eq_getElem?_getD, List.getElem?_eq_getElem ha]
  rw [hrx] at d1
  have e1 := cell_later hb9.out p1
  have e2 := cell_later hb9.out p2
  have e3 := cell_later hb9.out p3
  have ex := cell_later hb9.out px
  have kS : Aside0 (∀ w', Below w9.heap.size w9 w' → w'.cell? ⟨wr.heap.size, 2, none⟩ = some (.int .i64 (a : Int)) ∧ w'.cell? ⟨wr.heap.size, 3, none⟩ = some (.int .u8 ob) ∧ w'.cell? ⟨g9, a, none⟩ = some (.int .u8 xa) ∧ w'.frozen? ⟨g9, a, none⟩ = false ∧ Aside0 (Below w9.heap.size w9 w')) := ⟨fun w' hb => ⟨cell_later hb e2, cell_later hb e3, cell_later hb d1, (World.frozen?_of_block (hb.block g9 hg9.out.2)).trans d2, ⟨hb⟩⟩⟩
  have hF10 : Aside0 (∃ cells, (w9.setCell ⟨g9, a, none⟩ (.int .u8 z)).drew.heap[g]? = some (.cells cells 27 (0, 0))) := ⟨by
    obtain ⟨cells, hc⟩ := R_typed27 (Kd.R_below hP8.out.row hb9.out) g rfl
    exact ⟨cells, (Below.heap_setCell w9 ⟨g9, a, none⟩ _ g hgg).trans hc⟩⟩
  have hf10 : (w9.setCell ⟨g9, a, none⟩ (.int .u8 z)).drew.frozen? ⟨g, t, none⟩ = false := by
    obtain ⟨cells, hc⟩ := hF10.out
    simp [World.frozen?, hc]
  have n1 : (w9.setCell ⟨g9, a, none⟩ (.int .u8 z)).drew.cell? ⟨wr.heap.size, 1, none⟩ = some (.int .i64 (t : Int)) := (World.cell?_of_block (Below.heap_setCell w9 ⟨g9, a, none⟩ _ wr.heap.size hog)).trans e1
  have nx : (w9.setCell ⟨g9, a, none⟩ (.int .u8 z)).drew.cell? ⟨g, t, none⟩ = some (.slice A1 xs.length c1) := (World.cell?_of_block (Below.heap_setCell w9 ⟨g9, a, none⟩ _ g hgg)).trans ex
  have hb10 : Aside0 (Below w8.heap.size w8 (w9.setCell ⟨g9, a, none⟩ (.int .u8 z)).drew) := ⟨below_drew (hb9.out.setCell (p := ⟨g9, a, none⟩) hg9.out.1 _)⟩
  have hA10 := Kd.R_drew (Kd.R_putn (h1 := fun _ => rfl) hR9.out (a : Int) z)
  rw [Int.toNat_natCast] at hA10
  replace hA10 := Aside0.mk hA10
  have hxw := hxz.out
  clear p1 p2 p3 px e1 e2 e3 ex hrx d1 d2
  refine start_ (n := 13) (S := fun w' => w'.cell? ⟨wr.heap.size, 2, none⟩ = some (.int .i64 (a : Int)) ∧ w'.cell? ⟨wr.heap.size, 3, none⟩ = some (.int .u8 ob) ∧ w'.cell? ⟨g9, a, none⟩ = some (.int .u8 xa) ∧ w'.frozen? ⟨g9, a, none⟩ = false ∧ Aside0 (Below w9.heap.size w9 w')) (ds := [12]) #[false, false, false, false, false, false, false, false, false, false, false, false, false] (by kernel_rfl) rfl rfl ⟨(kS.out _ (below_drew (Below.refl _ _))).1, (kS.out _ (below_drew (Below.refl _ _))).2.1, (kS.out _ (below_drew (Below.refl _ _))).2.2.1, (kS.out _ (below_drew (Below.refl _ _))).2.2.2.1, (kS.out _ (below_drew (Below.refl _ _))).2.2.2.2⟩ (fun hHeld => ?_)
  refine pure_ (i := 0) (N := some 200) (v := ?_) (a' := ?_) #[true, false, false, false, false, false, false, false, false, false, false, false, false] rfl rfl (by kernel_rfl) (fun _ _ _ h => hpq.out _ _ _ _ (by rfl) h) (Or.inl ⟨by rfl, ?_⟩) ?_ ?_
  rotate_left
  · intro w'
    go_simp
    with_reducible rfl
  rotate_left
  · simp only [Act.put, List.setIfInBounds_toArray, List.set_cons_zero, List.set_cons_succ, i64_w, i32_w]
    rfl
  refine pure_ (i := 1) (N := some 201) (v := ?_) (a' := ?_) #[true, true, false, false, false, false, false, false, false, false, false, false, false] rfl rfl (by kernel_rfl) (fun _ _ _ h => hpq.out _ _ _ _ (by rfl) h) (Or.inl ⟨by rfl, ?_⟩) ?_ ?_
  rotate_left
  · intro w'
    go_simp
    with_reducible rfl
  rotate_left
  · simp only [Act.put, List.setIfInBounds_toArray, List.set_cons_zero, List.set_cons_succ, i64_w, i32_w]
    rfl
  refine pure_ (i := 3) (N := some 203) (v := ?_) (a' := ?_) #[true, true, false, true, false, false, false, false, false, false, false, false, false] rfl rfl (by kernel_rfl) (fun _ _ _ h => hpq.out _ _ _ _ (by rfl) h) (Or.inl ⟨by rfl, ?_⟩) ?_ ?_
  rotate_left
  · intro w'
    go_simp
    with_reducible rfl
  rotate_left
  · simp only [Act.put, List.setIfInBounds_toArray, List.set_cons_zero, List.set_cons_succ, i64_w, i32_w]
    rfl
  refine pure_ (i := 4) (N := some 204) (v := ?_) (a' := ?_) #[true, true, false, true, true, false, false, false, false, false, false, false, false] rfl rfl (by kernel_rfl) (fun _ _ _ h => hpq.out _ _ _ _ (by rfl) h) (Or.inl ⟨by rfl, ?_⟩) ?_ ?_
  rotate_left
  · intro w'
    go_simp
    with_reducible rfl
  rotate_left
  · simp only [Act.put, List.setIfInBounds_toArray, List.set_cons_zero, List.set_cons_succ, i64_w, i32_w]
    rfl
  refine pure_ (i := 8) (N := some 208) (v := ?_) (a' := ?_) #[true, true, false, true, true, false, false, false, true, false, false, false, false] rfl rfl (by kernel_rfl) (fun _ _ _ h => hpq.out _ _ _ _ (by rfl) h) (Or.inl ⟨by rfl, ?_⟩) ?_ ?_
  rotate_left
  · intro w'
    go_simp
    with_reducible rfl
  rotate_left
  · simp only [Act.put, List.setIfInBounds_toArray, List.set_cons_zero, List.set_cons_succ, i64_w, i32_w]
    rfl
  refine take_ (i := 2) (N := some 202) (v := ?_) (a' := ?_) #[true, true, true, true, true, false, false, false, true, false, false, false, false] rfl rfl (by kernel_rfl) (fun _ _ _ h => hpq.out _ _ _ _ (by rfl) h) (Or.inl ⟨by rfl, ?_⟩) hHeld ?_ ?_
  rotate_left
  · rintro w' ⟨s0, s1, s2, s3, s4⟩
    go_simp
    with_reducible rfl
  rotate_left
  · simp only [Act.put, List.setIfInBounds_toArray, List.set_cons_zero, List.set_cons_succ, i64_w, i32_w]
    rfl
  refine take_ (i := 5) (N := some 205) (v := ?_) (a' := ?_) #[true, true, true, true, true, true, false, false, true, false, false, false, false] rfl rfl (by kernel_rfl) (fun _ _ _ h => hpq.out _ _ _ _ (by rfl) h) (Or.inl ⟨by rfl, ?_⟩) hHeld ?_ ?_
  rotate_left
  · rintro w' ⟨s0, s1, s2, s3, s4⟩
    go_simp
    with_reducible rfl
  rotate_left
  · simp only [Act.put, List.setIfInBounds_toArray, List.set_cons_zero, List.set_cons_succ, i64_w, i32_w]
    rfl
  refine pure_ (i := 6) (N := some 206) (v := ?_) (a' := ?_) #[true, true, true, true, true, true, true, false, true, false, false, false, false] rfl rfl (by kernel_rfl) (fun _ _ _ h => hpq.out _ _ _ _ (by rfl) h) (Or.inl ⟨by rfl, ?_⟩) ?_ ?_
  rotate_left
  · intro w'
    go_simp
    with_reducible rfl
  rotate_left
  · simp only [Act.put, List.setIfInBounds_toArray, List.set_cons_zero, List.set_cons_succ, i64_w, i32_w]
    rfl
  refine take_ (i := 7) (N := some 207) (v := ?_) (a' := ?_) #[true, true, true, true, true, true, true, true, true, false, false, false, false] rfl rfl (by kernel_rfl) (fun _ _ _ h => hpq.out _ _ _ _ (by rfl) h) (Or.inl ⟨by rfl, ?_⟩) hHeld ?_ ?_
  rotate_left
  · rintro w' ⟨s0, s1, s2, s3, s4⟩
    go_simp
    with_reducible rfl
  rotate_left
  · simp only [Act.put, List.setIfInBounds_toArray, List.set_cons_zero, List.set_cons_succ, i64_w, i32_w]
    rfl
  refine take_ (i := 9) (N := some 209) (v := ?_) (a' := ?_) #[true, true, true, true, true, true, true, true, true, true, false, false, false] rfl rfl (by kernel_rfl) (fun _ _ _ h => hpq.out _ _ _ _ (by rfl) h) (Or.inl ⟨by rfl, ?_⟩) hHeld ?_ ?_
  rotate_left
  · rintro w' ⟨s0, s1, s2, s3, s4⟩
    go_simp
    with_reducible rfl
  rotate_left
  · simp only [Act.put, List.setIfInBounds_toArray, List.set_cons_zero, List.set_cons_succ, i64_w, i32_w]
    rfl
  refine pure_ (i := 10) (N := some 210) (v := ?_) (a' := ?_) #[true, true, true, true, true, true, true, true, true, true, true, false, false] rfl rfl (by kernel_rfl) (fun _ _ _ h => hpq.out _ _ _ _ (by rfl) h) (Or.inl ⟨by rfl, ?_⟩) ?_ ?_
  rotate_left
  · intro w'
    go_simp
    with_reducible rfl
  rotate_left
  · simp only [Act.put, List.setIfInBounds_toArray, List.set_cons_zero, List.set_cons_succ, i64_w, i32_w]
    rfl
  refine pure_ (i := 11) (N := some 211) (v := ?_) (a' := ?_) #[true, true, true, true, true, true, true, true, true, true, true, true, false] rfl rfl (by kernel_rfl) (fun _ _ _ h => hpq.out _ _ _ _ (by rfl) h) (Or.inl ⟨by rfl, ?_⟩) ?_ ?_
  rotate_left
  · intro w'
    go_simp
    with_reducible rfl
  rotate_left
  · simp only [Act.put, List.setIfInBounds_toArray, List.set_cons_zero, List.set_cons_succ, i64_w, i32_w]
    rfl
  refine last_ (i := 12) (N := none) #[true, true, true, true, true, true, true, true, true, true, true, true, true] rfl rfl (by kernel_rfl) (by decide) (fun K hK => ?_)
  have s2 := hHeld.2.2.1
  have s3 := hHeld.2.2.2.1
  refine skip_ (w1 := ?_) (by rfl) rfl ?_ ?_
  rotate_left
  · go_simp
    rfl
  refine hK.out _ _ ?_
  clear hK K
  refine done_ (by kernel_rfl) ?_
  rw [hxw] at *
  generalize hw10 : (w9.setCell ⟨g9, a, none⟩ (.int .u8 z)).drew = w10 at *
  clear hw10 hHeld
  have hP10 := Aside0.mk (hP8.out.below hb10.out)
  have hsg := Kd.R_seg hP10.out.row (t : Int) (by omega) (by omega) (c := [.slice A1 xs.length c1]) (seg := [.slice (some ⟨g9, 0, none⟩) xs.length c9]) (j := 0) rfl (fun j u hj => by
    cases j with
    | zero =>
      simp at hj
      subst hj
      rw [Int.toNat_natCast]
      show World.cell? _ ⟨g, t * 1 + 0, none⟩ = _
      rw [Nat.mul_one, Nat.add_zero]
      exact nx
    | succ j => simp at hj) (by show 0 + 1 ≤ 1; omega) (x' := xs.set a z) (okp := fun k => k ≠ g) ⟨_, rfl, (by
      rw [show (.slice (some ⟨g9, 0, none⟩) xs.length c9 : Value) = .slice (some ⟨g9, 0, none⟩) xs.length c9 from rfl]
      exact Kd.R_mono (Kd.R_lower (Kd.R_bound hA10.out) hsz8.out) (fun k hk => by have := hk.2.1; have := hgl.out; omega))⟩ (fun k hk => ⟨trivial, hk⟩)
  obtain ⟨hRX, hgX⟩ := hsg
  rw [Int.toNat_natCast] at hRX hgX
  have et : t * kbs.sz + 0 = t := by show t * 1 + 0 = t; omega
  rw [et] at hRX hgX
  have hP12 : Aside0 (Pl w.heap.size (w10.setCell ⟨g, t, none⟩ (.slice (some ⟨g9, 0, none⟩) xs.length c9)) B v7 (.slice (some ⟨g, 0, none⟩) L.length cl) (L.set t (xs.set a z)) (L.set t (xs.set a z))) := ⟨hP10.out.list hRX hgX (.inl rfl)⟩
  have hB12 : Aside0 (Below w.heap.size w (w10.setCell ⟨g, t, none⟩ (.slice (some ⟨g9, 0, none⟩) xs.length c9))) := ⟨(below_then HB8.out hsz8.out hb10.out).setCell (p := ⟨g, t, none⟩) ((Kd.R_bound hP8.out.row).1 g rfl).2.1 _⟩
  clear hRX hgX
  go_wp2_with (first
    | (go_at_call 13; (with_reducible refine (klen.out _ _ _ _ hP12.out.wi).mono ?_); rintro e w' ⟨rfl, hw⟩; subst w')
    | fail)
  try simp only [List.length_set] at *
  refine hK.out _ _ (WI.mk_ B _ _ (L.set t (xs.set a z)) hP12.out hB12.out (by have := hL.out; rw [List.length_set]; omega) (hs2.out z) rfl)
end Go.Proofs.Ytmhncklpejchcaa.Wir
