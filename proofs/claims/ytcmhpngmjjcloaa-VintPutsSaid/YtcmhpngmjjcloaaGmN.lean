/- A part of a reader of loaded code that is proved sound; no condition. -/
import Derived.Test.YtcmhpngmjjcloaaGmM
namespace Go.Proofs.YtcmhpngmjjcloaaGm

/-- WHAT IS KNOWN OF A FUNCTION THAT READS AND ANSWERS. -/
structure PureOk (P : Program) (f : Nat) (go : Ans) : Prop where
  cps : PureCps go
  fn : ∃ fn, P.funcs[f]? = some fn ∧ (fn.name == "runtime.NumGoroutine") = false ∧ fn.body.isNone = false
  calls : ∀ (args : List AV) (r : AV) (objs : List AObj), go (Option (AV × List AObj)) none args (fun r o => some (r, o)) = some (r, objs) → ∀ (w : World) (M : Nat → Prop) (cargs : List Value), (∀ b, M b → b < w.heap.size) → RepL w M [] args cargs →
    Calls P f cargs.toArray w fun e w' => ∃ v ρr tt, e = .returned v ∧ Env tt w' M ρr objs ∧ RepV w' (Mof M ρr) ρr r v ∧ Grew w w' ∧
      ∀ (i : Nat) (c : CObj) (b : Nat), ρr[i]? = some c → c.block? = some b → w.heap.size ≤ b

def SpecsOk (P : Program) (sg : List (Nat × Spec)) : Prop := ∀ f s, sget sg f = some s → match s with
  | .pure go => PureOk P f go
  | .eff _ _ => True

theorem SpecsOk.cps {P : Program} {sg : List (Nat × Spec)} (h : SpecsOk P sg) : SpecsCps sg := by
  intro f s hf
  have := h f s hf
  cases s with
  | pure go => exact this.cps
  | eff _ _ => trivial

theorem SpecsOk.nil {P : Program} : SpecsOk P [] := fun f s h => by cases h
theorem SpecsOk.cons {P : Program} {f : Nat} {go : Ans} {sg : List (Nat × Spec)} (h : PureOk P f go) (t : SpecsOk P sg) : SpecsOk P ((f, .pure go) :: sg) := by
  intro g s hs
  simp only [sget] at hs
  cases hb : Nat.beq f g with
  | true =>
    rw [hb, cond_true] at hs
    cases hs
    have := Nat.eq_of_beq_eq_true hb
    subst this
    exact h
  | false =>
    rw [hb, cond_false] at hs
    exact t g s hs

section
variable {P : Program} {tt : Tab} {w w' w0 : World} {FP Mx : Nat → Prop} {ρ ρ0 : List CObj} {hp : List AObj} {s : St} {a : Act}

theorem Mof_nil {Mx : Nat → Prop} {b : Nat} : Mof Mx [] b ↔ Mx b := by simp [Mof]

theorem Env.none {tt : Tab} {w : World} {M : Nat → Prop} (h : ∀ b, M b → b < w.heap.size) : Env tt w M [] [] :=
  ⟨rfl, fun i o c h => by simp at h, fun i j ci cj b _ h => by simp at h, fun i c b h => by simp at h, h⟩

/-- Who calls need not own what is answered. -/
theorem PureOk.lent {f : Nat} {go : Ans} (h : PureOk P f go) : PureOk P f (lentGo go) where
  cps := h.cps.lent
  fn := h.fn
  calls := by
    intro args r objs hr w M cargs hM hargs
    have hr' : go (Option (AV × List AObj)) none args (fun r objs => some (mapv (lendL (ownIn 3 r) objs) 3 r, [])) = some (r, objs) := hr
    rw [h.cps] at hr'
    obtain ⟨⟨r0, objs0⟩, h1, h2⟩ := elim_some hr'
    cases h2
    refine (h.calls args r0 objs0 h1 w M cargs hM hargs).mono ?_
    rintro e w' ⟨v, ρr, tt, rfl, hE, hv, hg, hfr⟩
    refine ⟨v, [], tt, rfl, .none fun b hb => hE.lt b hb, ?_, hg, fun i c b hi => by simp at hi⟩
    have e0 : Mof M [] = M := by funext b; exact propext Mof_nil
    rw [e0]
    have hL : Later w' (Mof M ρr) w' M := ⟨Nat.le_refl _, fun _ _ _ => rfl, fun b _ hb => .inl hb⟩
    exact hv.mapv _ hL (lend_rep hE hL (fun i _ E p c b _ hc hb => ⟨fun hm => hE.mx i c b hc hb hm, rfl⟩) []) 3

theorem call_step (h : Rel tt w0 FP Mx ρ0 ρ s a w) {f : Nat} {go : Ans} (hgo : PureOk P f go) {args : List AV} {cargs : List Value}
    (hargs : RepL w (Mof Mx ρ) ρ args cargs) {d : Option Nat} {s' : St} (hs : callPure (R := Option St) none tt s.hp go args (fun r objs frz => some (St.joined (s.freezeAll frz) objs d r)) = some s') :
    Calls P f cargs.toArray w fun e w' => ∃ v, e = .returned v ∧ Goes tt w0 FP Mx ρ0 s' (a.put d v) w' := by
  unfold callPure at hs
  rw [hgo.cps] at hs
  obtain ⟨⟨r, objs⟩, hr, hs⟩ := elim_some hs
  cases hfit : objs.all (objFits tt) with
  | false => simp only [hfit, cond_false] at hs; cases hs
  | true =>
  simp only [hfit, cond_true] at hs
  let L := args.flatMap (ownIn 3)
  let M : Nat → Prop := fun b => Mof Mx ρ b ∧ ∀ i ∈ L, ∀ E p c, hget s.hp i = .arr E p → ρ[i]? = some c → c.block? ≠ some b
  have hL : Later w (Mof Mx ρ) w M := ⟨Nat.le_refl _, fun _ _ _ => rfl, fun b _ hb => hb.1⟩
  have hlend : RepL w M [] (args.map (mapv (lendL L s.hp) 3)) cargs :=
    hargs.mapv _ hL (lend_rep h.env hL (fun i hi E p c b hE hc hb => ⟨fun hm => hm.2 i hi E p c hE hc hb, rfl⟩) []) 3
  refine (hgo.calls _ r objs hr w M cargs (fun b hb => h.env.mof_lt hb.1) hlend).mono ?_
  rintro e w1 ⟨v, ρr, tt', rfl, hE, hv, hg, hfr⟩
  refine ⟨v, rfl, ?_⟩
  cases hro : hasRo 3 r || objs.any objRo with
  | false =>
    rw [hro] at hs
    simp only [cond_false, St.freezeAll, Option.some.injEq] at hs
    subst hs
    simp only [Bool.or_eq_false_iff] at hro
    exact h.join hg hE hfit hfr hv (.inr hro) d
  | true =>
    rw [hro] at hs
    simp only [cond_true, Option.some.injEq] at hs
    subst hs
    obtain ⟨ρ', h2, hsub, hnot⟩ := h.freezeAll L
    refine h2.join hg hE hfit hfr hv (.inl fun b hb => ⟨hsub b hb, fun i hi E p c hE' hc hcb => hnot i hi E p c b hE' hc hcb hb⟩) d

theorem target_rep {v : AV} {u : Value} {f : Nat} {caps : List AV} {M : Nat → Prop} (h : RepV w M ρ v u) (ht : target v = some (f, caps)) : ∃ vs, u = .func (.func f) #[] vs.toArray ∧ RepL w M ρ caps vs := by
  cases v <;> simp only [target] at ht <;> cases ht
  cases h with | fn hl => exact ⟨_, rfl, hl⟩

/-- What an operation asks of what follows. -/
def StepOk (P : Program) (tt : Tab) (w0 : World) (FP Mx : Nat → Prop) (ρ0 : List CObj) (o : Oper) (a : Act) (w : World) (s' : St) : Prop :=
  ∀ (K : Act → World → Prop) (Q : Exit → Act → World → Prop), (∀ a' w', Goes tt w0 FP Mx ρ0 s' a' w' → K a' w') → o.wp P a w K Q

theorem StepOk.value {o : Oper} {s' : St} {u : Value} (h : (execOp a.eval o).run P w = .ok (.value u) w') (hg : Goes tt w0 FP Mx ρ0 s' (a.put o.dst u) w') : StepOk P tt w0 FP Mx ρ0 o a w s' := by
  intro K Q hK
  unfold Oper.wp
  rw [h]
  exact hK _ _ hg

theorem StepOk.skip {o : Oper} {s' : St} (h : (execOp a.eval o).run P w = .ok .skip w') (hg : Goes tt w0 FP Mx ρ0 s' (a.put o.dst undef) w') : StepOk P tt w0 FP Mx ρ0 o a w s' := by
  intro K Q hK
  unfold Oper.wp
  rw [h]
  exact hK _ _ hg

theorem callv_step (h : Rel tt w0 FP Mx ρ0 ρ s a w) (o : Oper) {cl : Call} (ho : o.op = .call cl) {x : Operand} (hcal : cl.callee = .value x) {f : Nat} {caps : List AV}
    (ht : target (aval s.fr x) = some (f, caps)) {go : Ans} (hgo : PureOk P f go) {s' : St}
    (hs : callPure (R := Option St) none tt s.hp go ((cl.args.toList.map (aval s.fr)).map deN ++ caps) (fun r objs frz => some (St.joined (s.freezeAll frz) objs o.dst r)) = some s') : StepOk P tt w0 FP Mx ρ0 o a w s' := by
  intro K Q hK
  obtain ⟨vs, hu, hl⟩ := target_rep (aval_rep h.fr x) ht
  obtain ⟨fn, hfn, hname, hbody⟩ := hgo.fn
  have hargs := (repL_map h.fr cl.args.toList).deN.append hl
  have hrun : (execOp a.eval o).run P w = .ok (.enter f (cl.args.toList.map a.eval ++ vs).toArray) w := by
    have hn : fn.name ≠ "runtime.NumGoroutine" := by simpa using hname
    have hb : fn.body ≠ none := by intro e; rw [e] at hbody; cases hbody
    simp [execOp, ho, resolve, hcal, hu, Deferred.ofValue, invoke, callFunc, hfn, hn, hb]
  unfold Oper.wp
  rw [hrun]
  refine (call_step h hgo hargs hs).mono ?_
  rintro e w1 ⟨v, rfl, hg⟩
  exact hK _ _ hg

/-- One element written: the cells behind it. -/
theorem setAt_rep {M : Nat → Prop} {p p' : Pay AV} {us : List Value} {i off : Nat} {ls : List AV} {vs : List Value} (hl : RepL w M ρ p.cells us) (hls : RepL w M ρ ls vs) (hw : p.wf) (hi : i < p.len)
    (hoff : off + ls.length ≤ p.sz) (h : p.setAt i off ls = some p') :
    RepL w M ρ p'.cells (vs.zipIdx.foldl (fun c x => c.set ((i * p.sz + off) + x.2) x.1) us) ∧ p'.len = p.len ∧ p'.sz = p.sz ∧ p'.wf ∧ (∀ e, kindOfPay e p = true → kindOfPay e p' = true) ∧
      ((∀ a ∈ p.cells, pureLeaf a = true) → (∀ a ∈ ls, pureLeaf a = true) → ∀ a ∈ p'.cells, pureLeaf a = true) := by
  cases p with
  | bytes l =>
    simp only [Pay.setAt] at h
    split at h
    case h_2 => cases h
    rename_i n
    cases h
    cases hls with | cons hv ht =>
    cases ht
    cases hv with | int hn =>
    simp only [Pay.sz, List.length_singleton] at hoff
    obtain rfl : off = 0 := by omega
    have e : (UInt8.ofNat n.toNat).toNat = n.toNat := by
      have := hn.2
      simp [IntKind.max, IntKind.signed, IntKind.bits] at this
      simp; omega
    have e2 : ((n.toNat : Nat) : Int) = n := by
      have := hn.1
      simp [IntKind.min, IntKind.signed] at this
      omega
    refine ⟨?_, by simp [Pay.len], rfl, trivial, fun e he => by cases e <;> simp_all [kindOfPay], ?_⟩
    · simp only [Pay.cells, Pay.sz, Nat.mul_one, Nat.add_zero, List.zipIdx_cons, List.zipIdx_nil, List.foldl_cons, List.foldl_nil, List.map_set]
      rw [e, e2, ← setN_eq]
      exact hl.set i (.int hn)
    · intro hp _ a ha
      simp only [Pay.cells, List.map_set] at ha
      rcases List.mem_or_eq_of_mem_set ha with ha | rfl
      · exact hp a ha
      · rfl
  | ints k l =>
    simp only [Pay.setAt] at h
    split at h
    case h_2 => cases h
    rename_i k' n
    cases hk : ikEq k k' <;> simp only [hk, cond_true, cond_false] at h <;> cases h
    have := ikEq_eq hk; subst this
    cases hls with | cons hv ht =>
    cases ht
    cases hv with | int hn =>
    simp only [Pay.sz, List.length_singleton] at hoff
    obtain rfl : off = 0 := by omega
    refine ⟨?_, by simp [Pay.len], rfl, trivial, fun e he => by cases e <;> simp_all [kindOfPay], ?_⟩
    · simp only [Pay.cells, Pay.sz, Nat.mul_one, Nat.add_zero, List.zipIdx_cons, List.zipIdx_nil, List.foldl_cons, List.foldl_nil, List.map_set]
      rw [← setN_eq]
      exact hl.set i (.int hn)
    · intro hp _ a ha
      simp only [Pay.cells, List.map_set] at ha
      rcases List.mem_or_eq_of_mem_set ha with ha | rfl
      · exact hp a ha
      · rfl
  | rows s l =>
    simp only [Pay.setAt, Option.some.injEq] at h
    subst h
    simp only [Pay.len] at hi
    simp only [Pay.sz] at hoff
    have hget : l.getD i [] = l[i] := by simp [List.getD, hi]
    have hli : (l[i]).length = s := hw.2 _ (List.getElem_mem hi)
    have hflat : (l.set i (setRange (l.getD i []) off ls)).flatten = setRange l.flatten (i * s + off) ls := by
      have split : l = l.take i ++ l[i] :: l.drop (i + 1) := by
        rw [← List.drop_eq_getElem_cons hi, List.take_append_drop]
      have e1 : (l.set i (setRange (l.getD i []) off ls)) = l.take i ++ setRange (l.getD i []) off ls :: l.drop (i + 1) := by
        rw [List.set_eq_take_append_cons_drop, if_pos hi]
      rw [e1, hget]
      have hpre : (l.take i).flatten.length = i * s := by
        rw [flatten_len (s := s) fun x hx => hw.2 x (List.mem_of_mem_take hx), List.length_take, Nat.min_eq_left (Nat.le_of_lt hi)]
      have key : ∀ (ls : List AV) (pre x post : List AV) (off : Nat), off + ls.length ≤ x.length → setRange (pre ++ (x ++ post)) (pre.length + off) ls = pre ++ (setRange x off ls ++ post) := by
        intro ls
        induction ls with
        | nil => intro pre x post off _; rfl
        | cons v ls ih =>
          intro pre x post off ho
          simp only [List.length_cons] at ho
          simp only [setRange, setN_eq]
          rw [List.set_append_right _ _ (by omega), show pre.length + off - pre.length = off by omega, List.set_append_left _ _ (by omega)]
          exact ih pre (x.set off v) post (off + 1) (by simp; omega)
      have := key ls (l.take i).flatten l[i] (l.drop (i + 1)).flatten off (by omega)
      rw [hpre] at this
      conv => rhs; rw [split]
      simp only [List.flatten_append, List.flatten_cons]
      rw [this]
    have hlen : (setRange (l.getD i []) off ls).length = s := by rw [setRange_length, hget, hli]
    refine ⟨?_, by simp [Pay.len], rfl, ⟨hw.1, ?_⟩, fun e he => by cases e <;> simp_all [kindOfPay], ?_⟩
    · simp only [Pay.cells, Pay.sz]
      rw [hflat]
      exact setRange_rep _ hl hls
    · intro x hx
      rcases List.mem_or_eq_of_mem_set hx with hx | rfl
      · exact hw.2 x hx
      · exact hlen
    · intro hp hq a ha
      simp only [Pay.cells] at ha hp
      rw [hflat] at ha
      have key : ∀ (ls cs : List AV) (n : Nat), (∀ a ∈ cs, pureLeaf a = true) → (∀ a ∈ ls, pureLeaf a = true) → ∀ a ∈ setRange cs n ls, pureLeaf a = true := by
        intro ls
        induction ls with
        | nil => intro cs n h _; exact h
        | cons v ls ih =>
          intro cs n h1 h2
          simp only [setRange, setN_eq]
          refine ih _ _ (fun a ha => ?_) fun a ha => h2 a (by simp [ha])
          rcases List.mem_or_eq_of_mem_set ha with ha | rfl
          · exact h1 a ha
          · exact h2 _ (by simp)
      exact key ls _ _ hp hq a ha
end
end Go.Proofs.YtcmhpngmjjcloaaGm
