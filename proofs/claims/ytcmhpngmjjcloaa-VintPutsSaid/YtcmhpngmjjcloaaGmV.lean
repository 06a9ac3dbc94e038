/- A part of a reader of loaded code that is proved sound; no condition. -/
import Derived.Test.YtcmhpngmjjcloaaGmU
import Derived.Scope
namespace Go.Proofs.YtcmhpngmjjcloaaGm

def exOf : Ex → Exit
  | .normal => .normal
  | .exit id => .exit id
  | .ret => .ret

/-- A loop of which it is known how many rounds it has at most. -/
theorem wp_loop_rounds {P : Program} {Q : Exit → Act → World → Prop} {a : Act} {w : World} {c : Code} (I : Nat → Act → World → Prop) (n : Nat) (h0 : I n a w) (h00 : ∀ a w, ¬ I 0 a w)
    (round : ∀ n a w, I (n + 1) a w → c.wp P (Exit.then (I n) Q) a w) : (Code.loop c).wp P Q a w := by
  intro b k cs
  have key : ∀ n a w, I n a w → ∃ e a' w', Q e a' w' ∧ Arrives P (lone (b.at a (.code c :: .inLoop c :: k)) cs w) b k cs e a' w' := by
    intro n
    induction n with
    | zero => intro a w h; exact absurd h (h00 a w)
    | succ n ih =>
      intro a w hI
      obtain ⟨e, a₁, w₁, hq, harr⟩ := round n a w hI b (.inLoop c :: k) cs
      cases e with
      | normal =>
        obtain ⟨e₂, a₂, w₂, hq₂, harr₂⟩ := ih a₁ w₁ hq
        exact ⟨e₂, a₂, w₂, hq₂, .of_steps (Steps.trans harr (.one step_inLoop)) harr₂⟩
      | exit id => exact ⟨_, a₁, w₁, hq, .pass (x := .inLoop c) rfl (fun _ _ => .inl (by simp)) harr⟩
      | goto l => exact ⟨_, a₁, w₁, hq, .pass (x := .inLoop c) rfl (fun _ _ => .inl (by simp)) harr⟩
      | ret => exact ⟨_, a₁, w₁, hq, .pass (x := .inLoop c) rfl (fun _ _ => .inl (by simp)) harr⟩
      | panic ch => exact ⟨_, a₁, w₁, hq, .pass (x := .inLoop c) rfl (fun _ _ => .inl (by simp)) harr⟩
      | outgrown => exact ⟨_, a₁, w₁, hq, .pass (x := .inLoop c) rfl (fun _ _ => .inl (by simp)) harr⟩
  obtain ⟨e, a', w', hq, harr⟩ := key _ a w h0
  exact ⟨e, a', w', hq, .of_steps (.one step_loop) harr⟩

theorem refine_same {fr : List AV} {x : Operand} {b : Bool} (h : aval fr x = .bool b) : refine fr x b = fr := by
  cases x with
  | tmp t => exact setN_same h
  | _ => rfl

theorem bool_rep {w : World} {M : Nat → Prop} {ρ : List CObj} {b : Bool} {v : Value} (h : RepV w M ρ (.bool b) v) : v = .bool b := by cases h; rfl

section
variable {P : Program} {w w0 : World} {FP Mx : Nat → Prop} {ρ0 : List CObj} {a : Act}

/-- THE CODE: what the reading comes to, the machine comes to. -/
theorem acode_sound (c : Cfg) (hT : TabOk P c.tt) (hS : SpecsOk P c.sg) (hm : P.follows .mixedOrders = true) (hh : ρ0.length = c.h0) :
    ∀ (code : Code) {n : Nat} {s : St} {e : Ex} {s' : St} {ρ : List CObj} {a : Act} {w : World} {Q : Exit → Act → World → Prop}, Rel c.tt w0 FP Mx ρ0 ρ s a w → acodeO c code n s = some (e, s') →
      (∀ a' w', Goes c.tt w0 FP Mx ρ0 s' a' w' → Q (exOf e) a' w') → code.wp P Q a w
  | .skip, n, s, e, s', ρ, a, w, Q, h, hs, hQ => by
    cases hs
    exact wp_skip (hQ _ _ ⟨ρ, h⟩)
  | .region id ops draw, n, s, e, s', ρ, a, w, Q, h, hs, hQ => by
    simp only [acodeO, acode] at hs
    cases draw with
    | true =>
      rw [cond_true] at hs
      cases hd : drawOk ops.toList with
      | false => rw [hd, cond_false] at hs; cases hs
      | true =>
        rw [hd, cond_true, aopsQ_cps (R := Option (Ex × St)) none c hS.cps] at hs
        obtain ⟨s1, h1, h2⟩ := elim_some hs
        cases h2
        exact aopsQ_sound c hT hS hm hd h h1 hQ
    | false =>
      rw [cond_false, aops_cps (R := Option (Ex × St)) none c hS.cps] at hs
      obtain ⟨s1, h1, h2⟩ := elim_some hs
      cases h2
      refine wp_region (arun_sound c hT hS (List.range ops.size) h ?_ hQ)
      have := arun_range c hS.cps ops.toList ops.toList 0 s rfl
      rw [← h1, ← this, List.range_eq_range']
      simp
  | .seq x y, n, s, e, s', ρ, a, w, Q, h, hs, hQ => by
    simp only [acodeO, acode] at hs
    rw [acode_cps c hS.cps x] at hs
    obtain ⟨⟨e1, s1⟩, h1, h2⟩ := elim_some hs
    refine wp_seq (acode_sound c hT hS hm hh x h h1 ?_)
    rintro a1 w1 ⟨ρ1, hr1⟩
    cases e1 with
    | normal =>
      show y.wp P Q a1 w1
      have : Goes c.tt w0 FP Mx ρ0 (match keyOf x with | some i => maskAt c.tt c.h0 c.jm i s1 | none => s1) a1 w1 := by
        split
        · exact hr1.maskAt hh _ _
        · exact ⟨ρ1, hr1⟩
      obtain ⟨ρ2, hr2⟩ := this
      exact acode_sound c hT hS hm hh y hr2 h2 hQ
    | exit id => cases h2; exact hQ _ _ ⟨ρ1, hr1⟩
    | ret => cases h2; exact hQ _ _ ⟨ρ1, hr1⟩
  | .cond x thn els, n, s, e, s', ρ, a, w, Q, h, hs, hQ => by
    simp only [acodeO, acode] at hs
    split at hs
    · rename_i t ht
      have hv := aval_rep h.fr x
      rw [ht] at hv
      refine wp_cond (bool_rep hv) ?_
      cases t with
      | true =>
        rw [cond_true, refine_same ht] at hs
        exact acode_sound c hT hS hm hh thn h hs hQ
      | false =>
        rw [cond_false, refine_same ht] at hs
        exact acode_sound c hT hS hm hh els h hs hQ
    · cases hs
  | .block id b, n, s, e, s', ρ, a, w, Q, h, hs, hQ => by
    simp only [acodeO, acode] at hs
    rw [acode_cps c hS.cps b] at hs
    obtain ⟨⟨e1, s1⟩, h1, h2⟩ := elim_some hs
    refine wp_block (acode_sound c hT hS hm hh b h h1 ?_)
    rintro a1 w1 hr1
    cases e1 with
    | normal => cases h2; exact hQ _ _ hr1
    | exit j =>
      dsimp only at h2
      cases hj : Nat.beq j id with
      | true =>
        rw [hj, cond_true] at h2
        cases h2
        show (if j = id then _ else _)
        rw [if_pos (Nat.eq_of_beq_eq_true hj)]
        exact hQ _ _ hr1
      | false =>
        rw [hj, cond_false] at h2
        cases h2
        show (if j = id then _ else _)
        rw [if_neg (Nat.ne_of_beq_eq_false hj)]
        exact hQ _ _ hr1
    | ret => cases h2; exact hQ _ _ hr1
  | .loop b, n, s, e, s', ρ, a, w, Q, h, hs, hQ => by
    simp only [acodeO, acode] at hs
    obtain ⟨ρ1, h1⟩ := h.maskAt hh c.lm n
    refine wp_loop_rounds (fun k a w => ∃ s ρ, Rel c.tt w0 FP Mx ρ0 ρ s a w ∧
      aiter (R := Option (Ex × St)) none k (fun s kn => acode none c b n s fun e s' => match e with | .normal => kn s' | e => some (e, s')) (maskAt c.tt c.h0 c.lm n) s = some (e, s')) c.F ⟨_, ρ1, h1, hs⟩ ?_ ?_
    · rintro a w ⟨s, ρ, _, hz⟩
      cases hz
    · rintro k a w ⟨s, ρ, hr, hz⟩
      have hz' : (acode (R := Option (Ex × St)) none c b n s fun e1 s1 => match e1 with
        | .normal => aiter (R := Option (Ex × St)) none k (fun s kn => acode none c b n s fun e s' => match e with | .normal => kn s' | e => some (e, s')) (maskAt c.tt c.h0 c.lm n) (maskAt c.tt c.h0 c.lm n s1)
        | e1 => some (e1, s1)) = some (e, s') := hz
      rw [acode_cps c hS.cps b] at hz'
      obtain ⟨⟨e1, s1⟩, h3, h4⟩ := elim_some hz'
      refine acode_sound c hT hS hm hh b hr h3 ?_
      rintro a1 w1 ⟨ρ2, hr2⟩
      cases e1 with
      | normal =>
        obtain ⟨ρ3, hr3⟩ := hr2.maskAt hh c.lm n
        exact ⟨_, ρ3, hr3, h4⟩
      | exit id => cases h4; exact hQ _ _ ⟨ρ2, hr2⟩
      | ret => cases h4; exact hQ _ _ ⟨ρ2, hr2⟩
  | .scope b, n, s, e, s', ρ, a, w, Q, h, hs, hQ => by
    have hs' : acodeO c b n s = some (e, s') := hs
    refine wp_scope_straight (acode_sound c hT hS hm hh b h hs' ?_)
    intro a' w' hg
    cases e <;> exact hQ _ _ hg
  | .exit id, n, s, e, s', ρ, a, w, Q, h, hs, hQ => by
    cases hs
    exact wp_exit (hQ _ _ ⟨ρ, h⟩)
  | .ret, n, s, e, s', ρ, a, w, Q, h, hs, hQ => by
    cases hs
    exact wp_ret (hQ _ _ ⟨ρ, h⟩)

theorem resVals_rep {fr : List AV} {M : Nat → Prop} {ρ : List CObj} (h : RepL w M ρ fr a.tmps.toList) {g : ResultVar → Sem Value} (hg : ∀ t, g (.tmp t) = pure (a.tmps.getD t undef)) :
    ∀ {rs : List ResultVar} {l : List AV}, resVals fr rs = some l → ∃ vs, RepL w M ρ l vs ∧ (rs.mapM g).run P w = .ok vs w
  | [], l, h1 => by cases h1; exact ⟨[], .nil, by simp⟩
  | .tmp t :: rs, l, h1 => by
    simp only [resVals] at h1
    split at h1
    · rename_i l' h2
      cases h1
      obtain ⟨vs, hr, hrun⟩ := resVals_rep h hg h2
      refine ⟨a.tmps.getD t undef :: vs, .cons ?_ hr, ?_⟩
      · have := h.nth t
        have e : a.tmps.toList.getD t undef = a.tmps.getD t undef := by simp [List.getD, Array.getD_eq_getD_getElem?]
        rw [← e]; exact this
      · rw [List.mapM_cons, hg]
        generalize a.tmps.getD t undef = v
        simp [hrun]
    · cases h1
  | .cell _ _ :: rs, l, h1 => by cases h1

theorem resVal_rep {fr : List AV} {M : Nat → Prop} {ρ : List CObj} (h : RepL w M ρ fr a.tmps.toList) {fn : Func} {r : AV} (hr : resVal fr fn.results.toList = some r) :
    ∃ v, (results fn a.tmps).run P w = .ok v w ∧ RepV w M ρ r v := by
  unfold resVal at hr
  have key : ∀ l, resVals fr fn.results.toList = some l → ∃ vs : List Value, RepL w M ρ l vs ∧ (results fn a.tmps).run P w = .ok (if h : vs.toArray.size = 1 then vs.toArray[0] else .tuple vs.toArray) w := by
    intro l hl
    unfold results
    rw [← Array.toArray_toList (xs := fn.results), List.mapM_toArray]
    generalize hgg : (fun (x : ResultVar) => match x with
      | .tmp t => (pure (a.tmps.getD t undef) : Sem Value)
      | .cell x t => do loadVar t (← asAddr (a.tmps.getD x undef))) = g
    obtain ⟨vs, h1, h2⟩ := resVals_rep (P := P) h (g := g) (fun t => by rw [← hgg]) hl
    refine ⟨vs, h1, ?_⟩
    simp [h2]
  split at hr
  · rename_i v hv
    cases hr
    obtain ⟨vs, h1, h2⟩ := key _ hv
    cases h1 with | cons hv1 ht =>
    cases ht
    exact ⟨_, h2, hv1⟩
  · rename_i l hne hl
    cases hr
    obtain ⟨vs, h1, h2⟩ := key _ hl
    refine ⟨_, h2, ?_⟩
    have hlen : ¬ vs.toArray.size = 1 := by
      intro hx
      have hx' : vs.length = 1 := by simpa using hx
      rw [← h1.length] at hx'
      obtain ⟨y, rfl⟩ := List.length_eq_one_iff.1 hx'
      exact hne y rfl
    rw [dif_neg hlen]
    exact .tup h1
  · cases hr

theorem padTo_rep {M : Nat → Prop} {ρ : List CObj} : ∀ (n : Nat) {args : List AV} {cargs : List Value}, RepL w M ρ args cargs → args.length ≤ n → RepL w M ρ (padTo n args) (cargs ++ List.replicate (n - cargs.length) undef)
  | 0, _, _, .nil, _ => by simpa [padTo] using RepL.nil
  | 0, _, _, .cons _ _, hn => by simp at hn
  | n + 1, _, _, .nil, _ => by
    have := padTo_rep (M := M) (ρ := ρ) n (args := []) (cargs := []) .nil (Nat.zero_le _)
    have h0 : RepV w M ρ undefA undef := .tup .nil
    simpa [padTo, List.replicate_succ] using RepL.cons h0 this
  | n + 1, _, _, .cons (l := l) (vs := vs) hv ht, hn => by
    have := padTo_rep n ht (by simpa using hn)
    simpa [padTo] using RepL.cons hv this

/-- A FUNCTION. -/
theorem afun_calls (c : Cfg) (hT : TabOk P c.tt) (hS : SpecsOk P c.sg) (hm : P.follows .mixedOrders = true) (hh : ρ0.length = c.h0) {f : Nat} {fn : Func} (hf : P.funcs[f]? = some fn)
    {args : List AV} {hp hp' : List AObj} {r : AV} (hrun : afun c fn args hp = .ret r hp') {cargs : List Value} (hE : Env c.tt w Mx ρ0 hp) (hargs : RepL w (Mof Mx ρ0) ρ0 args cargs)
    (hfp : ∀ (i : Nat) (d : CObj) (b : Nat), ρ0[i]? = some d → d.block? = some b → FP b) :
    Calls P f cargs.toArray w fun e w' => ∃ v ρ', e = .returned v ∧ Env c.tt w' Mx ρ' hp' ∧ RepV w' (Mof Mx ρ') ρ' r v ∧ Keeps w w' FP ∧
      (∀ (i : Nat) (d : CObj) (b : Nat), ρ'[i]? = some d → d.block? = some b → FP b ∨ w.heap.size ≤ b) ∧ (∀ (i b : Nat), ρ0[i]? = some (.blk b) → ρ'[i]? = some (.blk b)) := by
  unfold afun at hrun
  cases hb : fn.body with
  | none => rw [hb] at hrun; cases hrun
  | some body =>
    rw [hb] at hrun
    dsimp only at hrun
    cases hn : Nat.ble args.length fn.ntmps with
    | false => rw [hn, cond_false] at hrun; cases hrun
    | true =>
      rw [hn, cond_true, acode_cps c hS.cps] at hrun
      cases ho : acodeO c body 0 ⟨padTo fn.ntmps args, hp⟩ with
      | none => rw [ho] at hrun; cases hrun
      | some x =>
        obtain ⟨e, s'⟩ := x
        rw [ho] at hrun
        simp only [Option.elim] at hrun
        refine calls_of_wp hf hb (acode_sound c hT hS hm hh body (w0 := w) (FP := FP) (Mx := Mx) (ρ0 := ρ0) (ρ := ρ0) ⟨hE, ?_, rfl, .refl _ _, fun i d b hi hd => .inl (hfp i d b hi hd), fun _ _ h => h, Nat.le_refl _⟩ ho ?_)
        · have := padTo_rep fn.ntmps hargs (Nat.le_of_ble_eq_true hn)
          simpa using this
        · rintro a' w' ⟨ρ', hR⟩
          have fin : ∀ v, resVal s'.fr fn.results.toList = some v → Res.ret v s'.hp = .ret r hp' → a'.defers = [] ∧ ∃ v, (results fn a'.tmps).run P w' = .ok v w' ∧
              ∃ u ρ', Ending.returned v = .returned u ∧ Env c.tt w' Mx ρ' hp' ∧ RepV w' (Mof Mx ρ') ρ' r u ∧ Keeps w w' FP ∧
              (∀ (i : Nat) (d : CObj) (b : Nat), ρ'[i]? = some d → d.block? = some b → FP b ∨ w.heap.size ≤ b) ∧ (∀ (i b : Nat), ρ0[i]? = some (.blk b) → ρ'[i]? = some (.blk b)) := by
            intro v hv hx
            cases hx
            obtain ⟨u, h1, h2⟩ := resVal_rep (P := P) hR.fr hv
            exact ⟨hR.defers, u, h1, u, ρ', rfl, hR.env, h2, hR.keeps, hR.fresh, hR.hold⟩
          cases e with
          | normal =>
            simp only [aend] at hrun
            split at hrun
            · rename_i v hv; exact fin v hv hrun
            · cases hrun
          | ret =>
            simp only [aend] at hrun
            split at hrun
            · rename_i v hv; exact fin v hv hrun
            · cases hrun
          | exit id => cases hrun
end

theorem Keeps.grewOf {w w' : World} (h : Keeps w w' fun _ => False) : Grew w w' := ⟨h.os, h.tape, h.output, h.size, fun b hb => h.block b hb (fun x => x)⟩

/-- A slice that comes from outside is nil or it is not. -/
inductive Split : AV → AV → Prop
  | nil {p : Pay AV} (h : p.len = 0) : Split (.ro p) .nil
  | rn {p : Pay AV} : Split (.ro p) (.rn p)
  | keep {a : AV} (h : ∀ p, a ≠ .ro p) : Split a a

inductive SplitL : List AV → List AV → Prop
  | nil : SplitL [] []
  | cons {a b : AV} {l m : List AV} (h : Split a b) (t : SplitL l m) : SplitL (a :: l) (b :: m)

theorem split_rep {w : World} {M : Nat → Prop} {ρ : List CObj} {a : AV} {v : Value} (h : RepV w M ρ a v) : ∃ b, Split a b ∧ RepV w M ρ b v := by
  by_cases hr : ∃ p, a = .ro p
  · obtain ⟨p, rfl⟩ := hr
    cases h with
    | @roN _ x cap h0 hm hn =>
      cases x with
      | none =>
        have := hn rfl; subst this
        exact ⟨.nil, .nil h0, .nil⟩
      | some x => exact ⟨.rn p, .rn, .rn (.roN h0 hm hn)⟩
    | ro hl hc hb hlt h1 hp hw hcap hm => exact ⟨.rn p, .rn, .rn (.ro hl hc hb hlt h1 hp hw hcap hm)⟩
  · exact ⟨a, .keep fun p e => hr ⟨p, e⟩, h⟩

theorem split_repL {w : World} {M : Nat → Prop} {ρ : List CObj} : ∀ {l : List AV} {vs : List Value}, RepL w M ρ l vs → ∃ m, SplitL l m ∧ RepL w M ρ m vs
  | _, _, .nil => ⟨[], .nil, .nil⟩
  | _, _, .cons h t =>
    let ⟨b, h1, h2⟩ := split_rep h
    let ⟨m, h3, h4⟩ := split_repL t
    ⟨b :: m, .cons h1 h3, .cons h2 h4⟩

/-- The same, said more loosely. -/
inductive Weak (tt : Tab) : AV × List AObj → AV × List AObj → Prop
  | same {x : AV × List AObj} : Weak tt x x
  | lend {r : AV} {objs : List AObj} : Weak tt (r, objs) (mapv (lendL (ownIn 3 r) objs) 3 r, [])
  | rn {p : Pay AV} {objs : List AObj} : Weak tt (.rn p, objs) (.ro p, objs)
  | nil {p : Pay AV} {objs : List AObj} (h : p.len = 0) : Weak tt (.nil, objs) (.ro p, objs)
  | own {E : Nat} {p : Pay AV} (h0 : 0 < (emptyPay tt E).sz) (h : p = emptyPay tt E) : Weak tt (.nil, []) (.own 0, [.arr E p])
  | trans {x y z : AV × List AObj} (h : Weak tt x y) (k : Weak tt y z) : Weak tt x z

def Answers (tt : Tab) (w w' : World) (M : Nat → Prop) (r : AV) (objs : List AObj) (v : Value) : Prop :=
  ∃ ρr, Env tt w' M ρr objs ∧ RepV w' (Mof M ρr) ρr r v ∧ ∀ (i : Nat) (c : CObj) (b : Nat), ρr[i]? = some c → c.block? = some b → w.heap.size ≤ b

theorem Weak.rep {tt : Tab} {w w' : World} {M : Nat → Prop} {v : Value} {x y : AV × List AObj} (h : Weak tt x y) (hg : Grew w w') (hr : Answers tt w w' M x.1 x.2 v) : Answers tt w w' M y.1 y.2 v := by
  induction h with
  | same => exact hr
  | lend =>
    obtain ⟨ρr, hE, hv, hfr⟩ := hr
    refine ⟨[], .none fun b hb => hE.lt b hb, ?_, fun i c b hi => by simp at hi⟩
    have e0 : Mof M [] = M := by funext b; exact propext Mof_nil
    rw [e0]
    have hL : Later w' (Mof M ρr) w' M := ⟨Nat.le_refl _, fun _ _ _ => rfl, fun b _ hb => .inl hb⟩
    exact hv.mapv _ hL (lend_rep hE hL (fun i _ E p c b _ hc hb => ⟨fun hm => hE.mx i c b hc hb hm, rfl⟩) []) 3
  | rn =>
    obtain ⟨ρr, hE, hv, hfr⟩ := hr
    exact ⟨ρr, hE, by cases hv with | rn h => exact h, hfr⟩
  | nil h0 =>
    obtain ⟨ρr, hE, hv, hfr⟩ := hr
    exact ⟨ρr, hE, by cases hv with | nil => exact .roN h0 (by decide) (fun _ => rfl), hfr⟩
  | @own E p h0 hp =>
    subst hp
    obtain ⟨ρr, hE, hv, hfr⟩ := hr
    have hρ : ρr = [] := List.eq_nil_of_length_eq_zero (by rw [hE.len]; rfl)
    subst hρ
    generalize hx : (AV.nil, ([] : List AObj)).1 = x at hv
    cases hx
    cases hv with | nil =>
    refine ⟨[.row (.slice none 0 0) (emptyPay tt E).sz], ⟨rfl, ?_, ?_, ?_, hE.lt⟩, .own rfl rfl, ?_⟩
    · intro i o c ho hc
      cases i with
      | succ i => simp at ho
      | zero =>
        simp at ho hc
        subst ho; subst hc
        exact .arr (us := []) (by rw [emptyPay_len]; exact World.ownsRow_nil w' 0 E _) (by rw [emptyPay_cells]; exact .nil) (by simp) (by rw [emptyPay_cells]; simp) (emptyPay_wf h0) rfl (emptyPay_kind tt E)
    · intro i j ci cj b hne hi hj hb
      cases i with
      | succ i => simp at hi
      | zero => simp at hi; subst hi; cases hb
    · intro i c b hi hb
      cases i with
      | succ i => simp at hi
      | zero => simp at hi; subst hi; cases hb
    · intro i c b hi hb
      cases i with
      | succ i => simp at hi
      | zero => simp at hi; subst hi; cases hb
  | trans _ _ ih1 ih2 => exact ih2 (ih1 hr)

/-- WHAT IS READ OF A FUNCTION IS KNOWN OF IT. -/
theorem apure_calls {P : Program} (c : Cfg) (hT : TabOk P c.tt) (hS : SpecsOk P c.sg) (hm : P.follows .mixedOrders = true) (hh : c.h0 = 0) {f : Nat} {fn : Func} (hf : P.funcs[f]? = some fn)
    {args : List AV} {r : AV} {objs : List AObj} (h1 : apure c fn args = some (r, objs)) {w : World} {M : Nat → Prop} {cargs : List Value} (hM : ∀ b, M b → b < w.heap.size) (hargs : RepL w M [] args cargs) :
    Calls P f cargs.toArray w fun e w' => ∃ v, e = .returned v ∧ Answers c.tt w w' M r objs v ∧ Grew w w' := by
  unfold apure at h1
  split at h1
  · rename_i v hp hrun
    cases h1
    have hargs' : RepL w (Mof M []) [] args cargs := by
      have : Mof M [] = M := by funext b; exact propext Mof_nil
      rw [this]; exact hargs
    refine (afun_calls c hT hS hm (by simp [hh]) hf hrun (.none hM) hargs' (FP := fun _ => False) (fun i d b h => by simp at h)).mono ?_
    rintro e w' ⟨u, ρ', rfl, hE', hv, hk, hfr, _⟩
    have hR : Rel c.tt w (fun _ => False) M [] ρ' ⟨[v], hp⟩ { tmps := #[u], defers := [] } w' :=
      ⟨hE', .cons hv .nil, rfl, hk, hfr, fun _ _ h => by simp at h, by simp⟩
    obtain ⟨ρ2, h2⟩ := hR.gc (h0 := 0) rfl
    refine ⟨u, rfl, ⟨ρ2, h2.env, ?_, fun i c b hi hb => (h2.fresh i c b hi hb).resolve_left fun x => x⟩, hk.grewOf⟩
    have := h2.fr.nth 0
    simpa using this
  · cases h1

/-- That arguments are such as a call may have. -/
def Real (l : List AV) : Prop := ∃ w M vs, RepL w M [] l vs

theorem Real.tail {a : AV} {l : List AV} (h : Real (a :: l)) : Real l := by
  obtain ⟨w, M, vs, h⟩ := h
  cases h with | cons _ t => exact ⟨w, M, _, t⟩
theorem Real.int {k : IntKind} {n : Int} {l : List AV} (h : Real (.int k n :: l)) : k.has n := by
  obtain ⟨w, M, vs, h⟩ := h
  cases h with | cons h _ =>
  cases h with | int h => exact h
theorem Real.bytes {p : List UInt8} {l : List AV} (h : Real (.ro (.bytes p) :: l)) : p.length ≤ maxLen := by
  obtain ⟨w, M, vs, h⟩ := h
  cases h with | cons h _ =>
  cases h with
  | roN h0 => have : p.length = 0 := h0; rw [this]; exact Nat.zero_le _
  | ro _ _ _ _ _ _ _ hcap hm => exact Nat.le_trans hcap hm
theorem Real.str {p : List UInt8} {l : List AV} (h : Real (.str p :: l)) : p.length ≤ maxLen := by
  obtain ⟨w, M, vs, h⟩ := h
  cases h with | cons h _ =>
  cases h with | str h => simpa using h
theorem Real.cells {p : Pay AV} {l : List AV} (h : Real (.ro p :: l)) (hp : p.len ≠ 0) : ∃ w M us, RepL w M [] p.cells us := by
  obtain ⟨w, M, vs, h⟩ := h
  cases h with | cons h _ =>
  cases h with
  | roN h0 => exact absurd h0 hp
  | ro hl => exact ⟨w, M, _, hl⟩
theorem Real.ints {k : IntKind} {p : List Int} {l : List AV} (h : Real (.ro (.ints k p) :: l)) : ∀ x ∈ p, k.has x := by
  intro x hx
  have h0 : (Pay.ints k p : Pay AV).len ≠ 0 := by
    intro h0
    have : p.length = 0 := h0
    rw [List.eq_nil_of_length_eq_zero this] at hx; cases hx
  obtain ⟨w, M, us, hl⟩ := h.cells h0
  obtain ⟨i, hi⟩ := List.getElem?_of_mem hx
  obtain ⟨v, _, hv⟩ := hl.get' i (.int k x) (by simp [Pay.cells, hi])
  cases hv with | int h => exact h

theorem pureOk_split {P : Program} (c : Cfg) (hT : TabOk P c.tt) (hS : SpecsOk P c.sg) (hm : P.follows .mixedOrders = true) (hh : c.h0 = 0) {f : Nat} {fn : Func} (hf : P.funcs[f]? = some fn)
    (hname : (fn.name == "runtime.NumGoroutine") = false) (hbody : fn.body.isNone = false) {go : Ans} (hcps : PureCps go)
    (h : ∀ (args : List AV) (r : AV) (objs : List AObj), go (Option (AV × List AObj)) none args (fun r o => some (r, o)) = some (r, objs) → Real args → ∀ args', SplitL args args' → ∃ x, apure c fn args' = some x ∧ Weak c.tt x (r, objs)) : PureOk P f go where
  cps := hcps
  fn := ⟨fn, hf, hname, hbody⟩
  calls := by
    intro args r objs hr w M cargs hM hargs
    obtain ⟨args', hsp, hargs'⟩ := split_repL hargs
    obtain ⟨⟨r', objs'⟩, h1, hw⟩ := h args r objs hr ⟨w, M, cargs, hargs⟩ args' hsp
    refine (apure_calls c hT hS hm hh hf h1 hM hargs').mono ?_
    rintro e w' ⟨v, rfl, hv, hg⟩
    obtain ⟨ρr, hE, hv', hfr⟩ := hw.rep hg hv
    exact ⟨v, ρr, c.tt, rfl, hE, hv', hg, hfr⟩

theorem pureOk_of {P : Program} (c : Cfg) (hT : TabOk P c.tt) (hS : SpecsOk P c.sg) (hm : P.follows .mixedOrders = true) (hh : c.h0 = 0) {f : Nat} {fn : Func} (hf : P.funcs[f]? = some fn)
    (hname : (fn.name == "runtime.NumGoroutine") = false) (hbody : fn.body.isNone = false) {go : Ans} (hcps : PureCps go)
    (h : ∀ (args : List AV) (r : AV) (objs : List AObj), go (Option (AV × List AObj)) none args (fun r o => some (r, o)) = some (r, objs) → Real args → ∃ x, apure c fn args = some x ∧ Weak c.tt x (r, objs)) : PureOk P f go where
  cps := hcps
  fn := ⟨fn, hf, hname, hbody⟩
  calls := by
    intro args r objs hr w M cargs hM hargs
    obtain ⟨⟨r', objs'⟩, h1, hw⟩ := h args r objs hr ⟨w, M, cargs, hargs⟩
    refine (apure_calls c hT hS hm hh hf h1 hM hargs).mono ?_
    rintro e w' ⟨v, rfl, hv, hg⟩
    obtain ⟨ρr, hE, hv', hfr⟩ := hw.rep hg hv
    exact ⟨v, ρr, c.tt, rfl, hE, hv', hg, hfr⟩
end Go.Proofs.YtcmhpngmjjcloaaGm
