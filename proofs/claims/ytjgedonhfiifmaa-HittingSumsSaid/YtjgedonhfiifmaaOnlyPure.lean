/- HittingOnly in plain words: who is left stands in order; players have another health alone; the law's greedy search finds it so. -/
import Derived.Test.YtjgedonhfiifmaaBlast
namespace Go.Proofs.Ytjgedonhfiifmaa.Hit
open Go.RowKit Go.Proofs.Ytjgedonhfiifmaa.PHittingOnly Go.Proofs.YtjgedonhfiifmaaW.PrintWords Go.Proofs.YtjgedonhfiifmaaW.PrintLast Go.Proofs.YtjgedonhfiifmaaW.PrintMore
set_option linter.unusedVariables false

inductive Keep : List S25 → List S25 → Prop
  | nil : Keep [] []
  | gone (e : S25) (l x : List S25) : (e.f1 = 2 ∨ e.f1 = 3) → Keep l x → Keep (e :: l) x
  | same (e : S25) (l x : List S25) : Keep l x → Keep (e :: l) (e :: x)
  | hurt (e : S25) (h : Int) (l x : List S25) : e.f1 = 1 → Keep l x → Keep (e :: l) (withH e h :: x)

theorem withH_withH (e : S25) (h h' : Int) : withH (withH e h) h' = withH e h' := rfl
theorem withH_self (e : S25) : withH e e.f6 = e := rfl

theorem Keep.trans {l x : List S25} (h : Keep l x) : ∀ {y}, Keep x y → Keep l y := by
  induction h with
  | nil => intro y h; exact h
  | gone e l x he _ ih => intro y h; exact .gone e l y he (ih h)
  | same e l x _ ih =>
    intro y h
    cases h with
    | gone _ _ _ he h2 => exact .gone e l y he (ih h2)
    | same _ _ z h2 => exact .same e l z (ih h2)
    | hurt _ k _ z he h2 => exact .hurt e k l z he (ih h2)
  | hurt e k l x he _ ih =>
    intro y h
    cases h with
    | gone _ _ _ h1 h2 =>
      have h3 : e.f1 = 2 ∨ e.f1 = 3 := h1
      omega
    | same _ _ z h2 => exact .hurt e k l z he (ih h2)
    | hurt _ k2 _ z _ h2 => exact .hurt e k2 l z he (ih h2)

theorem Keep.map (f : S25 → S25) (hf : ∀ p, f p = p ∨ (p.f1 = 1 ∧ ∃ h, f p = withH p h)) (l : List S25) : Keep l (l.map f) := by
  induction l with
  | nil => exact .nil
  | cons e l ih =>
    rw [List.map_cons]
    rcases hf e with h | ⟨h1, k, h⟩
    · rw [h]; exact .same e l _ ih
    · rw [h]; exact .hurt e k l _ h1 ih
theorem Keep.refl (l : List S25) : Keep l l := by
  induction l with
  | nil => exact .nil
  | cons e l ih => exact .same e l l ih
theorem keep_blasts (g : Nat → Nat → Int) (l : List S25) (m : Nat) : Keep l (blastsF g l m) := by
  induction m with
  | zero => exact Keep.refl l
  | succ m ih =>
    refine ih.trans (Keep.map _ (fun p => ?_) _)
    unfold bF
    by_cases h : g m 0 = 2 ∧ p.f1 = 1 ∧ nearB p (g m 13) (g m 14) 128 = true
    · rw [if_pos h]; exact .inr ⟨h.2.1, _, rfl⟩
    · rw [if_neg h]; exact .inl rfl

/-- one thing, what it is now, is it gone? -/
def One (kind : Int) (e o : S25) (b : Bool) : Prop := (o = e ∨ (e.f1 = 1 ∧ ∃ h, o = withH e h)) ∧ (b = true → e.f1 = kind)
theorem keep_left (kind : Int) (hk : kind = 2 ∨ kind = 3) : ∀ (l out : List S25) (gone : List Bool), out.length = l.length → gone.length = l.length →
    (∀ i, i < l.length → One kind (l.getD i z25) (out.getD i z25) (gone.getD i false)) → Keep l (leftOf out gone)
  | [], [], [], _, _, _ => .nil
  | e :: l, o :: out, b :: gone, h1, h2, h => by
    have ih := keep_left kind hk l out gone (by simpa using h1) (by simpa using h2) (fun i hi => by
      have := h (i + 1) (by simpa using hi)
      simpa using this)
    obtain ⟨ho, hb⟩ := h 0 (by simp)
    simp at ho hb
    unfold leftOf at ih ⊢
    cases b with
    | true =>
      rw [List.zip_cons_cons, List.filter_cons]
      simp only [Bool.not_true]
      exact .gone e l _ (by rw [hb rfl]; exact hk) ih
    | false =>
      rw [List.zip_cons_cons, List.filter_cons]
      simp only [Bool.not_false, if_true, List.map_cons]
      rcases ho with rfl | ⟨he, k, rfl⟩
      · exact .same _ l _ ih
      · exact .hurt e k l _ he ih
  | [], _ :: _, _, h, _, _ => by simp at h
  | [], [], _ :: _, _, h, _ => by simp at h
  | _ :: _, [], _, h, _, _ => by simp at h
  | _ :: _, _ :: _, [], _, h, _ => by simp at h

theorem one_iter (P : S25 → S25 → Bool) (kind : Int) (hk : kind = 2 ∨ kind = 3) (hP : ∀ t p, P t p = true → p.f1 = 1) (turn : Int → Int) (l : List S25) (k : Nat) (hkl : k ≤ l.length) :
    ∀ i, i < l.length → One kind (l.getD i z25) ((iterM P kind turn l k).1.getD i z25) ((iterM P kind turn l k).2.getD i false) := by
  induction k with
  | zero =>
    intro i hi
    refine ⟨.inl rfl, fun h => ?_⟩
    exfalso
    revert h
    show (List.replicate l.length false).getD i false = true → False
    simp [List.getD_eq_getElem?_getD, hi]
  | succ k ih =>
    have ih := ih (by omega)
    have hlen := iterM_length P kind turn l k
    intro i hi
    show One kind _ ((stepM P kind turn (iterM P kind turn l k) k).1.getD i z25) ((stepM P kind turn (iterM P kind turn l k) k).2.getD i false)
    have hi1 := ih i hi
    have hik := ih k (by omega)
    generalize iterM P kind turn l k = s at *
    obtain ⟨s1, s2⟩ := s
    simp only at hlen hi1 hik
    unfold stepM
    simp only
    by_cases hc : (s1.getD k z25).f1 = kind ∧ s1.any (P (s1.getD k z25)) = true
    · rw [if_pos hc]
      simp only
      have hf : s1.findIdx (P (s1.getD k z25)) < s1.length := List.findIdx_lt_length.2 (List.any_eq_true.1 hc.2)
      have hpf : P (s1.getD k z25) (s1.getD (s1.findIdx (P (s1.getD k z25))) z25) = true := by
        have := List.findIdx_getElem (w := hf)
        have e : s1.getD (s1.findIdx (P (s1.getD k z25))) z25 = s1[s1.findIdx (P (s1.getD k z25))] := by
          rw [List.getD_eq_getElem?_getD, List.getElem?_eq_getElem hf]; rfl
        rw [e]
        exact this
      have h1 := hP _ _ hpf
      generalize s1.findIdx (P (s1.getD k z25)) = f at *
      unfold upd
      constructor
      · by_cases hif : i = f
        · subst hif
          have hv : (s1.set i (withH (s1.getD i z25) (turn (s1.getD i z25).f6))).getD i z25 = withH (s1.getD i z25) (turn (s1.getD i z25).f6) := by simp [List.getD_eq_getElem?_getD, hf]
          rw [hv]
          rcases hi1.1 with h | ⟨h, z, hz⟩
          · rw [h] at h1 ⊢
            exact .inr ⟨h1, _, rfl⟩
          · rw [hz]
            exact .inr ⟨h, _, rfl⟩
        · have hv : (s1.set f (withH (s1.getD f z25) (turn (s1.getD f z25).f6))).getD i z25 = s1.getD i z25 := by simp [List.getD_eq_getElem?_getD, Ne.symm hif]
          rw [hv]
          exact hi1.1
      · by_cases hik' : i = k
        · subst hik'
          intro _
          rcases hik.1 with h | ⟨h, z, hz⟩
          · rw [← h]; exact hc.1
          · exfalso
            have := hc.1
            rw [hz] at this
            have h3 : (l.getD i z25).f1 = kind := this
            omega
        · have hv : (s2.set k true).getD i false = s2.getD i false := by simp [List.getD_eq_getElem?_getD, Ne.symm hik']
          rw [hv]
          exact hi1.2
    · rw [if_neg hc]
      exact hi1
theorem keep_meet (P : S25 → S25 → Bool) (kind : Int) (hk : kind = 2 ∨ kind = 3) (hP : ∀ t p, P t p = true → p.f1 = 1) (turn : Int → Int) (l : List S25) : Keep l (meetF P kind turn l) :=
  keep_left kind hk l _ _ (iterM_length P kind turn l l.length).1 (iterM_length P kind turn l l.length).2 (one_iter P kind hk hP turn l l.length (Nat.le_refl _))
theorem keep_shot (l : List S25) : Keep l (shotF l) := keep_meet _ 2 (.inl rfl) (fun t p h => by unfold Pshot at h; simp at h; exact h.1.1) _ l
theorem keep_gem (l : List S25) : Keep l (gemF l) := keep_meet _ 3 (.inr rfl) (fun t p h => by unfold Pgem at h; simp at h; exact h.1) _ l
theorem keep_all (g : Nat → Nat → Int) (l : List S25) (m : Nat) : Keep l (blastsF g (gemF (shotF l)) m) := (keep_shot l).trans ((keep_gem _).trans (keep_blasts g _ m))
theorem Keep.le {l x : List S25} (h : Keep l x) : x.length ≤ l.length := by
  induction h with
  | nil => exact Nat.le_refl _
  | gone e l x _ _ ih => simp; omega
  | same e l x _ ih => simp; omega
  | hurt e k l x _ _ ih => simp; omega

/-- how far the law's search is -/
def Search (l x : List S25) (i k : Nat) : Prop := k ≤ x.length ∧ ∃ t, t ≤ k ∧ Keep (l.drop i) (x.drop t) ∧ ∀ j, t ≤ j → j < k → (x.getD j z25).f1 = 2 ∨ (x.getD j z25).f1 = 3
theorem Search.zero {l x : List S25} (h : Keep l x) : Search l x 0 0 := ⟨Nat.zero_le _, 0, Nat.le_refl _, by simpa using h, fun j h1 h2 => by omega⟩
theorem Search.done {l x : List S25} {k : Nat} (h : Search l x l.length k) : k = x.length := by
  obtain ⟨h1, t, h2, h3, _⟩ := h
  rw [List.drop_length] at h3
  generalize hd : x.drop t = y at h3
  cases h3
  have := congrArg List.length hd
  rw [List.length_drop] at this
  simp at this
  omega
def Fits (x : List S25) (k : Nat) (e : S25) : Prop := k < x.length ∧ withH (x.getD k z25) e.f6 = e ∧ (e.f1 = 1 ∨ x.getD k z25 = e)

theorem Search.step {l x : List S25} {i k : Nat} (h : Search l x i k) (hi : i < l.length) :
    (Fits x k (l.getD i z25) → Search l x (i + 1) (k + 1)) ∧ (¬ Fits x k (l.getD i z25) → ((l.getD i z25).f1 = 2 ∨ (l.getD i z25).f1 = 3) ∧ Search l x (i + 1) k) := by
  obtain ⟨h1, t, h2, h3, h4⟩ := h
  have he : l.getD i z25 = l[i] := by simp [List.getD_eq_getElem?_getD, hi]
  rw [he]
  rw [List.drop_eq_getElem_cons hi] at h3
  generalize l[i] = e at *
  -- what stands at the place that the search should be at
  have key : ∀ (q : S25) (y : List S25), x.drop t = q :: y → t < x.length ∧ x.getD t z25 = q ∧ x.drop (t + 1) = y := by
    intro q y hq
    have hl := congrArg List.length hq
    rw [List.length_drop] at hl
    simp at hl
    have ht : t < x.length := by omega
    have hq2 := hq
    rw [List.drop_eq_getElem_cons ht] at hq2
    injection hq2 with ha hb
    exact ⟨ht, by simp [List.getD_eq_getElem?_getD, ht, ha], hb⟩
  have ahead : ∀ (hsg : e.f1 = 2 ∨ e.f1 = 3) (t' : Nat), t ≤ t' → t' ≤ k → Keep (l.drop (i + 1)) (x.drop t') → (Fits x k e → Search l x (i + 1) (k + 1)) ∧ (¬ Fits x k e → (e.f1 = 2 ∨ e.f1 = 3) ∧ Search l x (i + 1) k) := by
    intro hsg t' ht1 ht2 hK
    refine ⟨fun hF => ⟨hF.1, t', by omega, hK, fun j hj1 hj2 => ?_⟩, fun _ => ⟨hsg, h1, t', ht2, hK, fun j hj1 hj2 => h4 j (by omega) hj2⟩⟩
    rcases Nat.lt_or_ge j k with hjk | hjk
    · exact h4 j (by omega) hjk
    · obtain rfl : j = k := by omega
      rcases hF.2.2 with h | h
      · omega
      · rw [h]; exact hsg
  generalize hx : x.drop t = X at h3
  cases h3 with
  | gone _ _ _ hsg hK => exact ahead hsg t (Nat.le_refl _) h2 (by rw [hx]; exact hK)
  | same _ _ y hK =>
    obtain ⟨k1, k2, k3⟩ := key e y hx
    rcases Nat.lt_or_ge t k with htk | htk
    · exact ahead (by rw [← k2]; exact h4 t (Nat.le_refl _) htk) (t + 1) (by omega) htk (by rw [k3]; exact hK)
    · obtain rfl : t = k := by omega
      refine ⟨fun _ => ⟨k1, t + 1, Nat.le_refl _, by rw [k3]; exact hK, fun j _ _ => by omega⟩, fun hF => absurd ⟨k1, by rw [k2]; rfl, .inr k2⟩ hF⟩
  | hurt _ hh _ y he1 hK =>
    obtain ⟨k1, k2, k3⟩ := key (withH e hh) y hx
    rcases Nat.lt_or_ge t k with htk | htk
    · exfalso
      have := h4 t (Nat.le_refl _) htk
      rw [k2] at this
      have h5 : e.f1 = 2 ∨ e.f1 = 3 := this
      omega
    · obtain rfl : t = k := by omega
      refine ⟨fun _ => ⟨k1, t + 1, Nat.le_refl _, by rw [k3]; exact hK, fun j _ _ => by omega⟩, fun hF => absurd ⟨k1, by rw [k2]; rfl, .inl he1⟩ hF⟩
end Go.Proofs.Ytjgedonhfiifmaa.Hit
