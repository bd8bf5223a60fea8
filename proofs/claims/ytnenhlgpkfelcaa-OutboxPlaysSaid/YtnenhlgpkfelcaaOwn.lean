/- Own and Kept over messages: a copy with room behind it is made, and a copy that is as it was is told to be so. -/
import Derived.Test.YtnenhlgpkfelcaaSame
import Derived.Test.YtnenhlgpkfelcaaOpenOut
import Derived.ArgAppend
import Derived.Laws.MakeOwn
namespace Go.Proofs.Ytnenhlgpkfelcaa.Box2
open Go.Proofs.Ytnenhlgpkfelcaa.Box
open Go Go.RowKit Go.Maps Go.Proofs.Ytnenhlgpkfelcaa.POutboxPlays Go.Proofs.YtnenhlgpkfelcaaW.PrintWords Go.Proofs.YtnenhlgpkfelcaaW.PrintLast Go.Proofs.YtnenhlgpkfelcaaW.PrintMore
set_option linter.unusedVariables false
set_option linter.unusedSimpArgs false
/-- what is written behind a row that has room -/
theorem R_app {α : Type} {d : Kd α} {e g n c base : Nat} {W : World} {ok okp : Nat → Prop} {xs ys : List α} (h : d.R e W base ok (.slice (some ⟨g, 0, none⟩) n c) xs) (us : List Value) (hu : Reps (d.M W base okp) d.sz ys us) (hokp : ∀ k, okp k → ok k ∧ k ≠ g) (hc : n + ys.length ≤ c) :
    d.R e (W.setCells g (n * d.sz) us) base ok (.slice (some ⟨g, 0, none⟩) (n + ys.length) c) (xs ++ ys) ∧ W.grownBy (W.setCells g (n * d.sz) us) (some g) := by
  obtain ⟨hn0, hnc0, _⟩ := Kd.R_reads' h
  obtain ⟨hok, inner, hown, hr⟩ := h
  obtain ⟨s1, s2, s3, s4⟩ := setCells_same g us (n * d.sz) W
  have hgr : W.grownBy (W.setCells g (n * d.sz) us) (some g) := ⟨s1, s2, s3, by rw [s4]; exact Nat.le_refl _, fun k hk hne => setCells_far us (n * d.sz) k (fun e => hne (by rw [e]))⟩
  have hul : us.length = ys.length * d.sz := hu.1
  refine ⟨⟨hok, inner ++ us, ⟨?_, ?_⟩, ?_⟩, hgr⟩
  · rw [List.length_append, List.length_append, hown.1, hul, Nat.add_mul]
  · rcases hown.2 with ⟨hv, _⟩ | ⟨g', cap', cur, hv2, hb, hh, hnc, hcm, hcs, htake⟩
    · cases hv
    · injection hv2 with ha hn2 hc2
      injection ha with ha
      injection ha with hg
      subst hg; subst hc2
      have hfit : n * d.sz + us.length ≤ cur.size := by rw [hcs, hul, ← Nat.add_mul]; exact Nat.mul_le_mul_right _ hc
      obtain ⟨cur', h1, h2, h3⟩ := setCells_row (g := g) (e := e) us (n * d.sz) W cur hh hfit
      refine .inr ⟨g, c, cur', by rw [List.length_append, hn0], hb, h1, by rw [List.length_append, ← hn0]; exact hc, hcm, by rw [h2, hcs], ?_⟩
      rw [← hn0] at htake
      rw [h3, htake, List.length_append, ← hn0, Nat.add_mul, ← hul]
      have hil : inner.length = n * d.sz := by rw [hown.1, ← hn0]
      rw [← hil, ← List.length_append]
      exact List.take_left
  · have hstep : ∀ {q : α} {cc : List Value} {o : Nat → Prop}, d.M W base o q cc → (∀ k, o k → ok k ∧ k ≠ g) → d.M (W.setCells g (n * d.sz) us) base (fun k => ok k ∧ some k ≠ (Value.slice (some ⟨g, 0, none⟩) (n + ys.length) c).ownBlock) q cc := fun hq ho =>
      d.M_mono (fun k hk => ⟨(ho k hk).1, fun e => (ho k hk).2 (by injection e)⟩) (Kd.M_step hq (fun k hk _ => setCells_far us (n * d.sz) k (ho k hk).2))
    exact Kd.reps_append (hr.imp_ (fun p cc hp => hstep hp (fun k hk => ⟨hk.1, fun e => hk.2 (by rw [e]; rfl)⟩))) (hu.imp_ (fun p cc hp => hstep hp hokp))
theorem size36 : (Try.prog.info? 36).map (·.size) = some 15 := by kernel_rfl
theorem wpList_append_run {P : Program} {ops : Array Oper} {rest : List Oper} {o : Oper} {a : Act} {Q : Exit → Act → World → Prop} {w w' : World} {v vs vx : Value} (hgd : o.guard = none) (s x : Operand) (t : TypeId)
    (ho : o.op = .call { callee := .builtin .append, args := #[s, x], argTypes := #[t, t] }) (hs : a.eval s = vs) (hx : a.eval x = vx) (hrun : (Builtin.append_ #[t, t] o.type #[vs, vx]).run P w = .ok v w')
    (h : wpList P ops Q rest (a.put o.dst v) w') : wpList P ops Q (o :: rest) a w :=
  wpList_plain hgd fun K hK => by
    unfold Oper.wp execOp
    simp only [ho, resolve, invoke, builtin, Sem.run_bind, Sem.run_pure, Result.andThen_ok, List.map_toArray, List.map_cons, List.map_nil, hs, hx, hrun]
    exact hK _ _ h
theorem exec_store {P : Program} {oi : Oper} {a : Act} {w w1 : World} {t : TypeId} {p x : Operand} {q : Value} {u : Value} (ho : oi.op = .store t p x) (hp : a.eval p = q) (hx : a.eval x = u) (hrun : (Instr.storeAt t q u).run P w = .ok () w1) : (execOp a.eval oi).run P w = .ok .skip w1 := by
  unfold execOp
  simp only [ho, hp, hx, Sem.run_bind, Sem.run_pure, Result.andThen_ok, hrun]
theorem wpList_store_run {P : Program} {ops : Array Oper} {rest : List Oper} {o : Oper} {a : Act} {Q : Exit → Act → World → Prop} {w w' : World} {q u : Value} (hgd : o.guard = none) (hN : o.dst = none) (t : TypeId) (p x : Operand)
    (ho : o.op = .store t p x) (hp : a.eval p = q) (hx : a.eval x = u) (hrun : (Instr.storeAt t q u).run P w = .ok () w')
    (h : wpList P ops Q rest a w') : wpList P ops Q (o :: rest) a w :=
  wpList_plain hgd fun K hK => by
    unfold Oper.wp
    rw [exec_store ho hp hx hrun]
    have h2 := hK _ _ (show wpList P ops Q rest (a.put none undef) w' from h)
    show K (a.put o.dst undef) w'
    rw [hN]
    exact h2
theorem store36 {q : S36} {g n c base : Nat} {W : World} {ok : Nat → Prop} {xs : List S36} (h : Kd.R k36 36 W base ok (.slice (some ⟨g, 0, none⟩) n c) xs) (o : Nat) (ho : o + 15 ≤ c * 15) :
    (Instr.storeAt 36 (.pointer (some ⟨g, o, none⟩)) (.agg #[.int .i64 q.f0, .int .i64 q.f1, .int .i64 q.f2, .int .i64 q.f3, .int .i64 q.f4.f0, .int .i64 q.f4.f1, .int .i64 q.f4.f2, .int .i64 q.f4.f3, .int .i64 q.f4.f4, .int .i64 q.f4.f5, .int .i64 q.f4.f6, .int .i64 q.f4.f7, .int .i64 q.f4.f8, .int .i64 q.f5, .int .i64 q.f6])).run Try.prog W = .ok () (W.setCells g o (crow q)) := by
  obtain ⟨_, inner, hown, hr⟩ := h
  rcases hown.2 with ⟨hv, _⟩ | ⟨g', cap', cur, hv, hb, hh, hnc, hcm, hcs, _⟩
  · cases hv
  injection hv with ha hn hc
  injection ha with ha
  injection ha with hg'
  subst hg'; subst hc
  refine run_store_run 36 _ (crow q) hh rfl (by rw [size36]; rfl) ?_ ?_
  · have h4 : cur.size = c * 15 := hcs
    simp [crow]
    omega
  · intro v hv
    simp [crow] at hv
    rcases hv with rfl | rfl | rfl | rfl | rfl | rfl | rfl | rfl | rfl | rfl | rfl | rfl | rfl | rfl | rfl <;> rfl
end Go.Proofs.Ytnenhlgpkfelcaa.Box2
