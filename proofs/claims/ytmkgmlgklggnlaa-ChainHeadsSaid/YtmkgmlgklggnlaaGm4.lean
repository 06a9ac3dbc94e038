/- A part of a reader of loaded code that is proved sound; no condition. -/
import Derived.Test.YtmkgmlgklggnlaaGm3
import Derived.OrdersIn
import Derived.LoopNIn
import Derived.OwnWalkIn
import Derived.RangeFuncCalls
import Derived.RangeFuncRecord
import Derived.RangeFuncIn
import Derived.RangeFuncKeeps
import Derived.RangeFuncLeaves
/-! # What holds of a walk holds inside a round of a range over a function, and with marks among the deferred calls. -/
namespace Go.Proofs.YtmkgmlgklggnlaaGm
/-- A fence that keeps nothing out. -/
structure FWide (F : Fence) : Prop where
  fn : F.fn = fun _ => True
  depth : F.depth = none
  alive : F.alive = false
theorem FWide.wide : FWide Fence.wide := ⟨rfl, rfl, rfl⟩
theorem FWide.inRound {F : Fence} (h : FWide F) (l : Nat) : FWide (F.inRound l) := ⟨h.fn, h.depth, h.alive⟩
def noDef (o : Oper) : Bool := match o.op with | .defer _ => false | _ => true
theorem noDef_op {o : Oper} (h : noDef o = true) : ∀ c, o.op ≠ .defer c := by
  intro c e
  unfold noDef at h
  rw [e] at h; cases h
def lft (ds : List Deferred) (a : Act) : Act := { a with defers := a.defers ++ ds }
theorem lft_eval (ds : List Deferred) (a : Act) : (lft ds a).eval = a.eval := by funext x; cases x <;> rfl
theorem lft_put (ds : List Deferred) (a : Act) (d : Option Tmp) (v : Value) : (lft ds a).put d v = lft ds (a.put d v) := by cases d <;> rfl
theorem calls_lift {F : Fence} (hF : FWide F) {n : Nat} {P : Program} {f : FuncId} {args : Array Value} {w : World} {R : Ending → World → Prop} (h : Calls P f args w R) : CallsIn F n P f args w R := by
  have h1 : CallsIn Fence.wide n P f args w R := callsIn_wide.2 h
  obtain ⟨fn, depth, alive, round⟩ := F
  obtain ⟨h2, h3, h4⟩ := hF
  dsimp only at h2 h3 h4
  subst h2; subst h3; subst h4
  exact h1
theorem rows_lift {F : Fence} (hF : FWide F) {n : Nat} {P : Program} {row : String} {args : Array Value} {w : World} {R : Value → World → Prop} (h : Rows P row args w R) : RowsIn F n P row args w R := by
  have h1 : RowsIn Fence.wide n P row args w R := by
    intro c cs _
    obtain ⟨v, w', h2, h3⟩ := h c cs
    exact ⟨v, w', h2, stepsIn_wide.2 h3⟩
  obtain ⟨fn, depth, alive, round⟩ := F
  obtain ⟨h2, h3, h4⟩ := hF
  dsimp only at h2 h3 h4
  subst h2; subst h3; subst h4
  exact h1
def SameT (T : Nat → Bool) (a a' : Act) : Prop := ∀ t, T t = true → a'.tmps[t]? = a.tmps[t]?
theorem SameT.refl (T : Nat → Bool) (a : Act) : SameT T a a := fun _ _ => rfl
theorem SameT.trans {T : Nat → Bool} {a b c : Act} (h : SameT T a b) (k : SameT T b c) : SameT T a c := fun t ht => (k t ht).trans (h t ht)
def opOk (T : Nat → Bool) (o : Oper) : Bool := noDef o && (match o.dst with | some t => !T t | none => true)
theorem opOk_same {T : Nat → Bool} {o : Oper} (h : opOk T o = true) {a a' : Act} (hs : ∀ t, o.dst ≠ some t → a'.tmps[t]? = a.tmps[t]?) : SameT T a a' := by
  intro t ht
  refine hs t fun e => ?_
  unfold opOk at h
  rw [e] at h
  simp [ht] at h
theorem opOk_put {T : Nat → Bool} {o : Oper} (h : opOk T o = true) (a : Act) (v : Value) : SameT T a (a.put o.dst v) := by
  refine opOk_same h fun t ht => ?_
  cases hd : o.dst with
  | none => rfl
  | some d =>
    have : d ≠ t := by rintro rfl; exact ht hd
    simp [Act.put, Array.getElem?_setIfInBounds, this]
theorem oper_lift {F : Fence} (hF : FWide F) {n : Nat} {P : Program} {ds : List Deferred} {T : Nat → Bool} {o : Oper} (ho : opOk T o = true) {a : Act} {w : World} {K K' : Act → World → Prop} {Q Q' : Exit → Act → World → Prop}
    (hK : ∀ a' w, K a' w → SameT T a a' → K' (lft ds a') w) (hQ : ∀ e a' w, Q e a' w → SameT T a a' → Q' e (lft ds a') w) (hout : ¬ LetsOut Q) (h : o.wp P a w K Q) : o.wpIn F n P (lft ds a) w K' Q' := by
  have h := wp_put h
  have hno : noDef o = true := by unfold opOk at ho; exact (Bool.and_eq_true _ _ ▸ ho).1
  replace hK : ∀ a' w, (K a' w ∧ (∀ t, o.dst ≠ some t → a'.tmps[t]? = a.tmps[t]?) ∧ a'.tmps.size = a.tmps.size) → K' (lft ds a') w := fun a' w hk => hK a' w hk.1 (opOk_same ho hk.2.1)
  unfold Oper.wp at h
  unfold Oper.wpIn
  refine ⟨fun f _ => by rw [hF.fn]; trivial, ?_⟩
  rw [Oper.semAt_plain F _ o (noDef_op hno), lft_eval]
  have hd : ∀ k : Prop, (F.depth.isSome = true → k) := fun k e => by rw [hF.depth] at e; cases e
  revert h
  generalize (execOp a.eval o).run P w = r
  intro h
  cases r with
  | ok x w' =>
    cases x with
    | value v => rw [Oper.uponIn_value, lft_put]; exact hK _ _ h
    | skip => rw [Oper.uponIn_skip, lft_put]; exact hK _ _ h
    | defer d => rw [Oper.uponIn_defer]; have := hK _ _ h; rw [← lft_put] at this; exact this
    | enter f args =>
      rw [Oper.uponIn_enter]
      refine ⟨hd _, calls_lift hF (Calls.mono h fun e w'' he => ?_)⟩
      cases e with
      | returned v => dsimp only at he ⊢; rw [lft_put]; exact hK _ _ he
      | panicked ch => exact hQ _ _ _ he (.refl _ _)
      | outgrown => exact absurd he hout
    | row row args =>
      rw [Oper.uponIn_row]
      refine ⟨hd _, rows_lift hF ?_⟩
      intro c cs
      obtain ⟨v, w2, h2, h3⟩ := h c cs
      exact ⟨v, w2, by show K' ((lft ds a).put o.dst v) w2; rw [lft_put]; exact hK _ _ h2, h3⟩
    | _ => exact h.elim
  | halt x w' =>
    cases x with
    | panic v => exact hQ _ _ _ h (.refl _ _)
    | _ => exact h.elim
theorem opOk_at {T : Nat → Bool} {ops : Array Oper} (ho : ops.toList.all (opOk T) = true) {i : Nat} {o : Oper} (hi : ops[i]? = some o) : opOk T o = true :=
  List.all_eq_true.1 ho o (by obtain ⟨hlt, e⟩ := Array.getElem?_eq_some_iff.1 hi; rw [← e]; exact Array.getElem_mem_toList hlt)
theorem wpOps_lift {F : Fence} (hF : FWide F) {n : Nat} {P : Program} {ds : List Deferred} {T : Nat → Bool} {ops : Array Oper} {Q : Exit → Act → World → Prop} {Q' : Exit → Act → World → Prop} (hout : ¬ LetsOut Q) {l2 : List Nat} :
    ∀ (l : List Nat) (a : Act) (w : World), (∀ i ∈ l, ∀ o, ops[i]? = some o → opOk T o = true) → (∀ e a' w', Q e a' w' → SameT T a a' → e ≠ .normal → Q' e (lft ds a') w') → (∀ a' w', Q .normal a' w' → SameT T a a' → wpOpsIn F n P ops Q' l2 (lft ds a') w') → wpOps P ops Q l a w → wpOpsIn F n P ops Q' (l ++ l2) (lft ds a) w
  | [], a, w, ho, hQ, hN, h => hN _ _ h (.refl _ _)
  | i :: l, a, w, ho, hQ, hN, h => by
    have ih := fun a' w' (hs : SameT T a a') => wpOps_lift (n := n) (P := P) (l2 := l2) hF hout l a' w' (fun i hi => ho i (by simp [hi])) (fun e a2 w2 hq hs2 => hQ e a2 w2 hq (hs.trans hs2)) (fun a2 w2 hq hs2 => hN a2 w2 hq (hs.trans hs2))
    simp only [wpOps] at h
    simp only [List.cons_append, wpOpsIn]
    cases hi : ops[i]? with
    | none => simp only [hi] at h ⊢; exact ih a w (.refl _ _) h
    | some o =>
      simp only [hi] at h ⊢
      have hno := ho i (by simp) o hi
      by_cases hw : Region.wanted o (yielded ops a.tmps) = true
      · rw [if_pos hw] at h
        rw [if_pos (show Region.wanted o (yielded ops (lft ds a).tmps) = true from hw)]
        rcases h with h | ⟨_, h⟩
        · have hq0 : ∀ e a' w', (fun e a' w' => e ≠ .normal ∧ Q e a' w') e a' w' → SameT T a a' → Q' e (lft ds a') w' := fun e a' w' hq hs => hQ e a' w' hq.2 hs hq.1
          refine oper_lift (Q := fun e a' w' => e ≠ .normal ∧ Q e a' w') hF hno (fun a' w' hk hs => ih a' w' hs hk) hq0 (fun ⟨a0, w0, _, h0⟩ => hout ⟨a0, w0, h0⟩) ?_
          unfold Oper.wp at h ⊢
          generalize (execOp a.eval o).run P w = r at h ⊢
          cases r with
          | ok x w' =>
            cases x with
            | enter f args =>
              refine Calls.mono h fun e w2 he => ?_
              cases e with
              | returned v => exact he
              | panicked ch => exact ⟨by simp, he⟩
              | outgrown => exact absurd he hout
            | _ => exact h
          | halt x w' =>
            cases x with
            | panic v => exact ⟨by simp, h⟩
            | _ => exact h
        · exact absurd h hout
      · rw [if_neg hw] at h
        rw [if_neg (show ¬ Region.wanted o (yielded ops (lft ds a).tmps) = true from hw)]
        exact ⟨fun f _ => by rw [hF.fn]; trivial, by rw [lft_put]; exact ih _ w (opOk_put hno a _) h⟩
theorem wpAny_lift {F : Fence} (hF : FWide F) {n : Nat} {P : Program} {ds : List Deferred} {T : Nat → Bool} {md : Region.Mode} {ops : Array Oper} (ho : ops.toList.all (opOk T) = true) {Q Q' : Exit → Act → World → Prop} (hout : ¬ LetsOut Q) :
    ∀ (fuel : Nat) (listed : Array Bool) (a : Act) (w : World), (∀ e a' w', Q e a' w' → SameT T a a' → Q' e (lft ds a') w') → wpAny P md ops Q fuel listed a w → wpAnyIn F n P md ops Q' fuel listed (lft ds a) w
  | 0, listed, a, w, hQ, h => ⟨h.1, hQ _ _ _ h.2 (.refl _ _)⟩
  | fuel + 1, listed, a, w, hQ, h => by
    refine ⟨fun hr => hQ _ _ _ (h.1 hr) (.refl _ _), fun i hi => ?_⟩
    have h1 := h.2 i hi
    have ih := fun a' w' (hs : SameT T a a') => wpAny_lift (n := n) (P := P) (md := md) hF ho hout fuel (listed.setIfInBounds i true) a' w' (fun e a2 w2 hq hs2 => hQ e a2 w2 hq (hs.trans hs2))
    unfold wpOp at h1
    unfold wpOpIn
    cases hi2 : ops[i]? with
    | none => simp only [hi2] at h1 ⊢; exact ih a w (.refl _ _) h1
    | some o =>
      simp only [hi2] at h1 ⊢
      have hno := opOk_at ho hi2
      by_cases hw : Region.wanted o (yielded ops a.tmps) = true
      · rw [if_pos hw] at h1
        rw [if_pos (show Region.wanted o (yielded ops (lft ds a).tmps) = true from hw)]
        rcases h1 with h1 | ⟨_, h1⟩
        · exact oper_lift hF hno (fun a' w' hk hs => ih a' w' hs hk) hQ hout h1
        · exact absurd h1 hout
      · rw [if_neg hw] at h1
        rw [if_neg (show ¬ Region.wanted o (yielded ops (lft ds a).tmps) = true from hw)]
        exact ⟨fun f _ => by rw [hF.fn]; trivial, by rw [lft_put]; exact ih _ w (opOk_put hno a _) h1⟩
end Go.Proofs.YtmkgmlgklggnlaaGm

/-! # What is read of code holds inside a round, too. -/
namespace Go.Proofs.YtmkgmlgklggnlaaGm
def codeOk (T : Nat → Bool) : Code → Bool
  | .region _ ops _ => ops.toList.all (opOk T)
  | .seq a b => codeOk T a && codeOk T b
  | .cond _ a b => codeOk T a && codeOk T b
  | .block _ b => codeOk T b
  | .loop b => codeOk T b
  | .scope _ => false
  | _ => true
theorem wpIn_loop_inv {F : Fence} {n : Nat} {P : Program} {Q : Exit → Act → World → Prop} {c : Code} (I : Nat → Act → World → Prop) (h00 : ∀ a w, ¬ I 0 a w)
    (round : ∀ m a w, I (m + 1) a w → c.wpIn F n P (Exit.then (I m) Q) a w) (m : Nat) {a : Act} {w : World} (h0 : I m a w) : (Code.loop c).wpIn F n P Q a w := by
  refine wpIn_loop_rounds m ?_
  induction m generalizing a w with
  | zero => exact absurd h0 (h00 a w)
  | succ m ih =>
    rw [roundsIn_succ]
    refine wpIn_mono (round m a w h0) ?_
    intro e a' w' h
    cases e with
    | normal => exact ih h
    | _ => exact h
section
variable {P : Program} {w0 : World} {FP Mx : Nat → Prop} {ρ0 : List CObj}
theorem acode_in (c : Cfg) (hT : TabOk P c.tt) (hS : SpecsOk P c.sg) (hm : P.follows .mixedOrders = true) (hh : ρ0.length = c.h0) {F : Fence} (hF : FWide F) {nn : Nat} {ds : List Deferred} {T : Nat → Bool} :
    ∀ (code : Code) {n : Nat} {s : St} {e : Ex} {s' : St} {ρ : List CObj} {a : Act} {w : World} {Q : Exit → Act → World → Prop}, codeOk T code = true → Rel c.tt w0 FP Mx ρ0 ρ s a w → acodeO c code n s = some (e, s') →
      (∀ a' w', Goes c.tt w0 FP Mx ρ0 s' a' w' → SameT T a a' → Q (exOf e) (lft ds a') w') → code.wpIn F nn P Q (lft ds a) w
  | .skip, n, s, e, s', ρ, a, w, Q, hn, h, hs, hQ => by
    cases hs
    exact wpIn_skip (hQ _ _ ⟨ρ, h⟩ (.refl _ _))
  | .region id ops draw, n, s, e, s', ρ, a, w, Q, hn, h, hs, hQ => by
    have hn : ops.toList.all (opOk T) = true := hn
    have hq0 : ∀ e a1 w1, (fun (e : Exit) (a' : Act) (w' : World) => e = .normal ∧ (SameT T a a' → Q .normal (lft ds a') w')) e a1 w1 → SameT T a a1 → Q e (lft ds a1) w1 := by
      rintro e a w ⟨rfl, hq⟩ hs; exact hq hs
    have hout : ¬ LetsOut (fun (e : Exit) (a' : Act) (w' : World) => e = .normal ∧ (SameT T a a' → Q .normal (lft ds a') w')) := by
      rintro ⟨a, w, h, _⟩; cases h
    simp only [acodeO, acode] at hs
    cases draw with
    | true =>
      refine wpIn_region_any hm (wpAny_lift hF hn hout _ _ a _ hq0 ?_)
      rw [cond_true] at hs
      cases hu : useX c id ops.toList with
      | true =>
        rw [hu, cond_true, aregX_cps (R := Option (Ex × St)) none c hS.cps] at hs
        obtain ⟨s1, h1, h2⟩ := elim_some hs
        rw [bigK_cps] at h2
        obtain ⟨s2, hb, h2⟩ := elim_some h2
        cases h2
        exact aregX_any c hT hS hh h h1 fun a' w' hg => ⟨rfl, hQ a' w' (bigK_sound hb hg)⟩
      | false =>
      rw [hu, cond_false] at hs
      cases hd : drawOk ops.toList with
      | false => rw [hd, cond_false] at hs; cases hs
      | true =>
        rw [hd, cond_true] at hs
        split at hs
        · rw [aopsQ_cps (R := Option (Ex × St)) none c hS.cps] at hs
          obtain ⟨s1, h1, h2⟩ := elim_some hs
          rw [bigK_cps] at h2
          obtain ⟨s2, hb, h2⟩ := elim_some h2
          cases h2
          exact aopsQ_any c hT hS hd h h1 fun a' w' hg => ⟨rfl, hQ a' w' (bigK_sound hb hg)⟩
        · rename_i d _
          cases hsh : (Nat.blt d s.fr.length && dshape ops.toList d ops.toList 0) with
          | false => rw [hsh] at hs; cases hs
          | true =>
            rw [hsh, cond_true, aopsD_cps (R := Option (Ex × St)) none c hS.cps] at hs
            obtain ⟨s1, h1, h2⟩ := elim_some hs
            rw [bigK_cps] at h2
            obtain ⟨s2, hb, h2⟩ := elim_some h2
            cases h2
            simp only [Bool.and_eq_true] at hsh
            exact aopsD_any c hT hS hd (by have := hsh.1; simp [Nat.blt] at this; omega) hsh.2 h h1 fun a' w' hg => ⟨rfl, hQ a' w' (bigK_sound hb hg)⟩
    | false =>
      rw [cond_false, aopsW_cps (R := Option (Ex × St)) none c hS.cps] at hs
      obtain ⟨s1, h1, h2⟩ := elim_some hs
      rw [bigK_cps] at h2
      obtain ⟨s2, hb, h2⟩ := elim_some h2
      cases h2
      refine wpIn_region (by rw [← List.append_nil (List.range ops.size)]; exact wpOps_lift (l2 := []) hF hout _ a _ (fun i _ o ho => opOk_at hn ho) (fun e a' w' hq hs _ => hq0 e a' w' hq hs) (fun a' w' hq hs => hq0 _ a' w' hq hs) (aopsW_wp c hT hS hh h h1 fun a' w' hg => ⟨rfl, hQ a' w' (bigK_sound hb hg)⟩))
  | .seq x y, n, s, e, s', ρ, a, w, Q, hn, h, hs, hQ => by
    have hn : codeOk T x = true ∧ codeOk T y = true := by simpa [codeOk] using hn
    simp only [acodeO, acode] at hs
    rw [acode_cps c hS.cps x] at hs
    obtain ⟨⟨e1, s1⟩, h1, h2⟩ := elim_some hs
    refine wpIn_seq (acode_in c hT hS hm hh hF x hn.1 h h1 ?_)
    rintro a1 w1 ⟨ρ1, hr1⟩ hsm
    cases e1 with
    | normal =>
      show y.wpIn F nn P Q (lft ds a1) w1
      have : Goes c.tt w0 FP Mx ρ0 (match keyOf x with | some i => maskAt c.tt c.h0 c.jm i s1 | none => s1) a1 w1 := by
        split
        · exact hr1.maskAt hh _ _
        · exact ⟨ρ1, hr1⟩
      obtain ⟨ρ2, hr2⟩ := this
      exact acode_in c hT hS hm hh hF y hn.2 hr2 h2 fun a' w' hg hs => hQ a' w' hg (hsm.trans hs)
    | exit id => cases h2; exact hQ _ _ ⟨ρ1, hr1⟩ hsm
    | ret => cases h2; exact hQ _ _ ⟨ρ1, hr1⟩ hsm
  | .cond x thn els, n, s, e, s', ρ, a, w, Q, hn, h, hs, hQ => by
    have hn : codeOk T thn = true ∧ codeOk T els = true := by simpa [codeOk] using hn
    simp only [acodeO, acode] at hs
    split at hs
    · rename_i t ht
      have hv := aval_rep h.fr x
      rw [ht] at hv
      refine wpIn_cond (by rw [lft_eval]; exact bool_rep hv) ?_
      cases t with
      | true =>
        rw [cond_true, refine_same ht] at hs
        exact acode_in c hT hS hm hh hF thn hn.1 h hs hQ
      | false =>
        rw [cond_false, refine_same ht] at hs
        exact acode_in c hT hS hm hh hF els hn.2 h hs hQ
    · cases hs
  | .block id b, n, s, e, s', ρ, a, w, Q, hn, h, hs, hQ => by
    simp only [acodeO, acode] at hs
    rw [acode_cps c hS.cps b] at hs
    obtain ⟨⟨e1, s1⟩, h1, h2⟩ := elim_some hs
    refine wpIn_block (acode_in c hT hS hm hh hF b hn h h1 ?_)
    rintro a1 w1 hr1 hsm
    cases e1 with
    | normal => cases h2; exact hQ _ _ hr1 hsm
    | exit j =>
      dsimp only at h2
      cases hj : Nat.beq j id with
      | true =>
        rw [hj, cond_true] at h2
        cases h2
        show (if j = id then _ else _)
        rw [if_pos (Nat.eq_of_beq_eq_true hj)]
        exact hQ _ _ hr1 hsm
      | false =>
        rw [hj, cond_false] at h2
        cases h2
        show (if j = id then _ else _)
        rw [if_neg (Nat.ne_of_beq_eq_false hj)]
        exact hQ _ _ hr1 hsm
    | ret => cases h2; exact hQ _ _ hr1 hsm
  | .loop b, n, s, e, s', ρ, a, w, Q, hn, h, hs, hQ => by
    simp only [acodeO, acode] at hs
    obtain ⟨ρ1, h1⟩ := h.maskAt hh c.lm n
    refine wpIn_loop_inv (fun k a' w => ∃ a1 s ρ, a' = lft ds a1 ∧ SameT T a a1 ∧ Rel c.tt w0 FP Mx ρ0 ρ s a1 w ∧
      aiter (R := Option (Ex × St)) none k (fun s kn => acode none c b n s fun e s' => match e with | .normal => kn s' | e => some (e, s')) (maskAt c.tt c.h0 c.lm n) s = some (e, s')) ?_ ?_ c.F ⟨a, _, ρ1, rfl, .refl _ _, h1, hs⟩
    · rintro _ w ⟨a1, s, ρ, _, _, _, hz⟩
      cases hz
    · rintro k _ w ⟨a2, s, ρ, rfl, hsm, hr, hz⟩
      have hz' : (acode (R := Option (Ex × St)) none c b n s fun e1 s1 => match e1 with
        | .normal => aiter (R := Option (Ex × St)) none k (fun s kn => acode none c b n s fun e s' => match e with | .normal => kn s' | e => some (e, s')) (maskAt c.tt c.h0 c.lm n) (maskAt c.tt c.h0 c.lm n s1)
        | e1 => some (e1, s1)) = some (e, s') := hz
      rw [acode_cps c hS.cps b] at hz'
      obtain ⟨⟨e1, s1⟩, h3, h4⟩ := elim_some hz'
      refine acode_in c hT hS hm hh hF b hn hr h3 ?_
      rintro a1 w1 ⟨ρ2, hr2⟩ hs1
      cases e1 with
      | normal =>
        obtain ⟨ρ3, hr3⟩ := hr2.maskAt hh c.lm n
        exact ⟨_, _, ρ3, rfl, hsm.trans hs1, hr3, h4⟩
      | exit id => cases h4; exact hQ _ _ ⟨ρ2, hr2⟩ (hsm.trans hs1)
      | ret => cases h4; exact hQ _ _ ⟨ρ2, hr2⟩ (hsm.trans hs1)
  | .scope b, n, s, e, s', ρ, a, w, Q, hn, h, hs, hQ => by cases hn
  | .exit id, n, s, e, s', ρ, a, w, Q, hn, h, hs, hQ => by
    cases hs
    exact wpIn_exit (hQ _ _ ⟨ρ, h⟩ (.refl _ _))
  | .ret, n, s, e, s', ρ, a, w, Q, hn, h, hs, hQ => by
    cases hs
    exact wpIn_ret (hQ _ _ ⟨ρ, h⟩ (.refl _ _))
  | .rangeFunc .., n, s, e, s', ρ, a, w, Q, hn, h, hs, hQ => by cases hs
  | .label _, n, s, e, s', ρ, a, w, Q, hn, h, hs, hQ => by cases hs
  | .goto _, n, s, e, s', ρ, a, w, Q, hn, h, hs, hQ => by cases hs
end
end Go.Proofs.YtmkgmlgklggnlaaGm

/-! # The base of a reading, changed. -/
namespace Go.Proofs.YtmkgmlgklggnlaaGm
section
variable {P : Program} {tt : Tab} {w w' w1 w2 w3 : World} {FP FP1 Mx M1 M2 M3 : Nat → Prop} {ρ0 ρ ρ' : List CObj} {s s' : St} {a a' : Act}
def bsOf (ρ : List CObj) (b : Nat) : Prop := ∃ c ∈ ρ, c.block? = some b
theorem Later.trans (h : Later w1 M1 w2 M2) (k : Later w2 M2 w3 M3) : Later w1 M1 w3 M3 where
  size := Nat.le_trans h.size k.size
  block b hb hn := (k.block b (Nat.lt_of_lt_of_le hb h.size) fun x => hn (h.own b hb x)).trans (h.block b hb hn)
  own b hb x := h.own b hb (k.own b (Nat.lt_of_lt_of_le hb h.size) x)
theorem Rel.laterB (h : Rel tt w1 FP Mx ρ0 ρ s a w) (hFP : ∀ b, FP b → M1 b) (hMx : ∀ b, Mx b → M1 b) : Later w1 M1 w (Mof Mx ρ) where
  size := h.keeps.size
  block b hb hn := h.keeps.block b hb fun x => hn (hFP b x)
  own b hb x := by
    rcases x with x | ⟨c, hc, hcb⟩
    · exact hMx b x
    · obtain ⟨i, hi⟩ := List.mem_iff_getElem?.1 hc
      rcases h.fresh i c b hi hcb with h1 | h1
      · exact hFP b h1
      · omega
theorem Rel.rebase (h : Rel tt w1 FP Mx ρ0 ρ s a w) : Rel tt w (bsOf ρ) Mx ρ0 ρ s a w :=
  ⟨h.env, h.fr, h.defers, .refl _ _, fun i c b hi hb => .inl ⟨c, List.mem_of_getElem? hi, hb⟩, h.hold, h.old⟩
theorem Rel.unbase (h : Rel tt w1 FP Mx ρ0 ρ s a w) (k : Rel tt w (bsOf ρ) Mx ρ0 ρ' s' a' w') : Rel tt w1 FP Mx ρ0 ρ' s' a' w' where
  env := k.env
  fr := k.fr
  defers := k.defers
  keeps := ⟨k.keeps.os.trans h.keeps.os, k.keeps.tape.trans h.keeps.tape, k.keeps.output.trans h.keeps.output, Nat.le_trans h.keeps.size k.keeps.size, fun b hb hn =>
    (k.keeps.block b (Nat.lt_of_lt_of_le hb h.keeps.size) fun ⟨c, hc, hcb⟩ => by
      obtain ⟨i, hi⟩ := List.mem_iff_getElem?.1 hc
      rcases h.fresh i c b hi hcb with h1 | h1
      · exact hn h1
      · omega).trans (h.keeps.block b hb hn)⟩
  fresh i c b hi hcb := by
    rcases k.fresh i c b hi hcb with ⟨c', hc', hb'⟩ | h1
    · obtain ⟨j, hj⟩ := List.mem_iff_getElem?.1 hc'
      exact h.fresh j c' b hj hb'
    · exact .inr (Nat.le_trans h.keeps.size h1)
  hold := k.hold
  old := k.old
theorem Rel.after (k : Rel tt w (bsOf ρ) Mx ρ0 ρ' s' a' w') : Later w (Mof Mx ρ) w' (Mof Mx ρ') := k.laterB (fun _ h => .inr h) fun _ h => .inl h
theorem Rel.other (k : Rel tt w (bsOf ρ) Mx ρ0 ρ' s' a' w') (hE : Env tt w Mx ρ s.hp) {l : Nat} (hl : Mx l) : w'.heap[l]? = w.heap[l]? :=
  k.keeps.block l (hE.lt l hl) fun ⟨c, hc, hcb⟩ => by
    obtain ⟨i, hi⟩ := List.mem_iff_getElem?.1 hc
    exact hE.mx i c l hi hcb hl
/-- A block of the others turns. -/
theorem later_poke {l : Nat} {o : Obj} (hl : M1 l) : Later w M1 (w.putObj l o) M1 where
  size := by simp
  block b _ hn := World.putObj_heap_other (by rintro rfl; exact hn hl)
  own _ _ x := x
theorem Rel.poke (h : Rel tt w1 FP Mx ρ0 ρ s a w) {l : Nat} {o : Obj} (hl : Mx l) (hF : FP l ∨ w1.heap.size ≤ l) : Rel tt w1 FP Mx ρ0 ρ s a (w.putObj l o) where
  env := {
    len := h.env.len
    obj := fun i ob c hi hc => (h.env.obj i ob c hi hc).later' (later_poke (.inl hl)) (fun b hb => World.putObj_heap_other (by rintro rfl; exact h.env.mx i c _ hc hb hl)) fun _ _ e => e
    sep := h.env.sep
    mx := h.env.mx
    lt := fun b hb => by simpa using h.env.lt b hb }
  fr := h.fr.later (later_poke (.inl hl)) fun _ _ e => e
  defers := h.defers
  keeps := ⟨h.keeps.os, h.keeps.tape, h.keeps.output, by simpa using h.keeps.size, fun b hb hn => by
    rw [World.putObj_heap_other (by
      rintro rfl
      rcases hF with h1 | h1
      · exact hn h1
      · omega)]
    exact h.keeps.block b hb hn⟩
  fresh := h.fresh
  hold := h.hold
  old := h.old
/-! ### What of a frame stays, whatever else is done -/
def stabF (hp : List AObj) (a : AV) : AV :=
  match a with
  | .ptr o off => (match hget hp o with
    | .var _ _ => .ptr o off
    | _ => .top)
  | _ => .top
def stabL (hp : List AObj) (fr : List AV) : List AV := fr.map (mapv (stabF hp) 4)
end
end Go.Proofs.YtmkgmlgklggnlaaGm

/-! # One round of a range over a function. -/
namespace Go.Proofs.YtmkgmlgklggnlaaGm
section cps
variable {R : Type} (stk : R)
def setAll (fr : List AV) : List Nat → List AV → List AV
  | p :: ps, a :: as => setAll (setN fr p a) ps as
  | _, _ => fr
/-- The round: the loop's variables are set, then its body is carried out; what it is left by. -/
def hround (c : Cfg) (fr0 : List AV) (ps : List Nat) (assign body : Code) (args : List AV) (hp : List AObj) (k : Option Ex → List AObj → R) : R :=
  bif Nat.beq args.length ps.length then
    acode stk c assign 0 ⟨setAll fr0 ps args, hp⟩ fun e s1 =>
      match e with
      | .normal => acode stk c body 0 s1 fun e2 s2 =>
        match e2 with
        | .normal => k none s2.hp
        | e2 => k (some e2) s2.hp
      | _ => stk
  else stk
end cps
def exCode : Ex → Code
  | .normal => .skip
  | .exit id => .exit id
  | .ret => .ret
section
variable {P : Program} {tt : Tab} {w w' W W1 W4 : World} {FP1 Mx M M4 : Nat → Prop} {ρ ρ1 ρW ρ4 : List CObj} {s s' : St} {a a' : Act} {hp hp1 hp' : List AObj}
theorem RepL.setAll : ∀ {ps : List Nat} {as : List AV} {us : List Value} {fr : List AV} {vs : List Value}, RepL w M ρ fr vs → RepL w M ρ as us →
    RepL w M ρ (YtmkgmlgklggnlaaGm.setAll fr ps as) ((ps.zip us).foldl (fun t (p, v) => t.set p v) vs)
  | [], _, _, fr, vs, h, k => by cases k <;> exact h
  | p :: ps, _, _, fr, vs, h, .nil => h
  | p :: ps, _, _, fr, vs, h, .cons hv t => RepL.setAll (ps := ps) (h.set p hv) t
theorem foldl_toList : ∀ (l : List (Tmp × Value)) (t : Array Value), (l.foldl (fun t (p, v) => t.setIfInBounds p v) t).toList = l.foldl (fun t (p, v) => t.set p v) t.toList
  | [], _ => rfl
  | x :: l, t => by
    rw [List.foldl_cons, List.foldl_cons, foldl_toList l]
    simp
theorem hget_var {hp : List AObj} {o T : Nat} {cs : List AV} (h : hget hp o = .var T cs) : hp[o]? = some (.var T cs) := by
  induction hp generalizing o with
  | nil => cases h
  | cons a l ih => cases o with
    | zero => simpa [hget] using h
    | succ o => simpa using ih h
theorem stab_ref (hE : Env tt w Mx ρ1 hp1) (hW : ∀ i b : Nat, ρ1[i]? = some (.blk b) → ρW[i]? = some (.blk b)) (h4 : ∀ i b : Nat, ρ1[i]? = some (.blk b) → ρ4[i]? = some (.blk b))
    (a : AV) (v : Value) (_ : isRef a = true) (h : RepV W M ρW a v) : RepV W4 M4 ρ4 (stabF hp1 a) v := by
  unfold stabF
  split
  · rename_i o off _
    split
    · rename_i T cs ho
      cases h with | @ptr _ _ b hb =>
      have h1 := hget_var ho
      have hlt : o < ρ1.length := by
        rw [hE.len]
        rcases Nat.lt_or_ge o hp1.length with h' | h'
        · exact h'
        · rw [List.getElem?_eq_none h'] at h1; cases h1
      have hr := hE.obj o _ _ h1 (List.getElem?_eq_getElem hlt)
      generalize hc : ρ1[o] = c at hr
      have hc' : ρ1[o]? = some c := by rw [List.getElem?_eq_getElem hlt, hc]
      cases hr with | @var _ b1 _ _ _ _ _ =>
      have e1 := hW o b1 hc'
      rw [e1] at hb
      cases hb
      exact .ptr (h4 o _ hc')
    · exact .top _
  · exact .top _
theorem stab_rep (hE : Env tt w Mx ρ1 hp1) (hW : ∀ i b : Nat, ρ1[i]? = some (.blk b) → ρW[i]? = some (.blk b)) (h4 : ∀ i b : Nat, ρ1[i]? = some (.blk b) → ρ4[i]? = some (.blk b))
    (hL : Later W M W4 M4) {fr : List AV} {vs : List Value} (h : RepL W M ρW fr vs) : RepL W4 M4 ρ4 (stabL hp1 fr) vs := h.mapv (stabF hp1) hL (stab_ref hE hW h4) 4

theorem acode_seg (c : Cfg) (hT : TabOk P c.tt) (hS : SpecsOk P c.sg) (hm : P.follows .mixedOrders = true) (hh : ρ1.length = c.h0) {F : Fence} (hF : FWide F) {nn : Nat} {ds : List Deferred} {T : Nat → Bool}
    (code : Code) {n : Nat} {s : St} {e : Ex} {s' : St} {a : Act} {Q : Exit → Act → World → Prop} (hok : codeOk T code = true) (h : Rel c.tt W1 FP1 Mx ρ1 ρ s a W) (hs : acodeO c code n s = some (e, s'))
    (hQ : ∀ a' W' ρ', Rel c.tt W1 FP1 Mx ρ1 ρ' s' a' W' → Later W (Mof Mx ρ) W' (Mof Mx ρ') → (∀ l, Mx l → W'.heap[l]? = W.heap[l]?) → SameT T a a' → Q (exOf e) (lft ds a') W') : code.wpIn F nn P Q (lft ds a) W :=
  acode_in c hT hS hm hh hF code hok h.rebase hs fun a' w' ⟨ρ', hg⟩ hsm => hQ a' w' ρ' (h.unbase hg) hg.after (fun _ hl => hg.other h.env hl) hsm
theorem ops_seg (c : Cfg) (hT : TabOk P c.tt) (hS : SpecsOk P c.sg) {F : Fence} (hF : FWide F) {nn : Nat} {ds : List Deferred} {T : Nat → Bool} {ops : Array Oper} {l l2 : List Nat} {s s' : St} {a : Act} {Q : Exit → Act → World → Prop}
    (hok : ∀ i ∈ l, ∀ o, ops[i]? = some o → opOk T o = true) (h : Rel c.tt W1 FP1 Mx ρ1 ρ s a W) (hs : arun c ops.toList l s = some s')
    (hQ : ∀ a' W' ρ', Rel c.tt W1 FP1 Mx ρ1 ρ' s' a' W' → Later W (Mof Mx ρ) W' (Mof Mx ρ') → (∀ l, Mx l → W'.heap[l]? = W.heap[l]?) → SameT T a a' → wpOpsIn F nn P ops Q l2 (lft ds a') W') : wpOpsIn F nn P ops Q (l ++ l2) (lft ds a) W := by
  refine wpOps_lift (Q := fun e a' w' => e = .normal ∧ Goes c.tt W (bsOf ρ) Mx ρ1 s' a' w') hF (fun ⟨_, _, h, _⟩ => by cases h) l a W hok (fun e a' w' hq _ hne => absurd hq.1 hne) ?_ (arun_sound c hT hS l h.rebase hs fun a' w' hg => ⟨rfl, hg⟩)
  rintro a' w' ⟨_, ρ', hg⟩ hsm
  exact hQ a' w' ρ' (h.unbase hg) hg.after (fun _ hl => hg.other h.env hl) hsm

/-- The record of a loop, as it stands between two rounds. -/
def recAt (r : Loop) (pd : Option Ex) : Loop := { r with state := if pd.isNone then .ready else .done, pending := pd.map exCode }
theorem round_ok (c : Cfg) (hT : TabOk P c.tt) (hS : SpecsOk P c.sg) (hm : P.follows .mixedOrders = true) (hh : ρ1.length = c.h0) {F : Fence} (hF : FWide F) {nn : Nat} {l : Nat} (hl : Mx l) (hFl : FP1 l) {r : Loop}
    {frC : List AV} {args : List AV} {vals : List Value} {pd : Option Ex} (hca : codeOk (fun _ => false) r.assign = true) (hcb : codeOk (fun _ => false) r.body = true)
    (hC : RepL W (Mof Mx ρ) ρ frC r.tmps.toList) (hR : Rel c.tt W1 FP1 Mx ρ1 ρ ⟨s.fr, hp⟩ a W) (hrec : W.heap[l]? = some (.loop (recAt r none))) (hargs : RepL W (Mof Mx ρ) ρ args vals)
    (hs : hround (R := Option (Option Ex × List AObj)) none c frC r.params.toList r.assign r.body args hp (fun pd hp' => some (pd, hp')) = some (pd, hp')) :
    vals.length = r.params.size ∧ RoundIn F nn P l r.fn ((r.params.zip vals.toArray).foldl (fun tmps (t, a) => tmps.setIfInBounds t a) r.tmps) r.assign r.body W fun e W4 =>
      ∃ ρ4, e = .returned (.bool pd.isNone) ∧ Rel c.tt W1 FP1 Mx ρ1 ρ4 ⟨[], hp'⟩ { tmps := #[], defers := [] } W4 ∧ Later W (Mof Mx ρ) W4 (Mof Mx ρ4) ∧ W4.heap[l]? = some (.loop (recAt r pd)) := by
  unfold hround at hs
  cases hlen : Nat.beq args.length r.params.toList.length with
  | false => rw [hlen, cond_false] at hs; cases hs
  | true =>
  rw [hlen, cond_true] at hs
  have hlen := Nat.eq_of_beq_eq_true hlen
  have hvl : vals.length = r.params.size := by rw [← hargs.length, hlen]; simp
  refine ⟨hvl, roundIn_of_wpIn (by rw [hF.fn]; trivial) ?_⟩
  rw [acode_cps c hS.cps r.assign] at hs
  obtain ⟨⟨e1, s1⟩, h1, h2⟩ := elim_some hs
  cases e1 with
  | normal =>
    dsimp only at h2
    rw [acode_cps c hS.cps r.body] at h2
    obtain ⟨⟨e2, s2⟩, h3, h4⟩ := elim_some h2
    have hfr : RepL W (Mof Mx ρ) ρ (setAll frC r.params.toList args) ((r.params.zip vals.toArray).foldl (fun tmps (t, a) => tmps.setIfInBounds t a) r.tmps).toList := by
      have := RepL.setAll (ps := r.params.toList) hC hargs
      rw [← Array.foldl_toList, foldl_toList]
      simpa using this
    have hR0 : Rel c.tt W1 FP1 Mx ρ1 ρ ⟨setAll frC r.params.toList args, hp⟩ { tmps := (r.params.zip vals.toArray).foldl (fun tmps (t, a) => tmps.setIfInBounds t a) r.tmps, defers := [] } W :=
      ⟨hR.env, hfr, rfl, hR.keeps, hR.fresh, hR.hold, hR.old⟩
    refine acode_seg c hT hS hm hh (hF.inRound l) (ds := []) (T := fun _ => false) r.assign hca hR0 h1 ?_
    intro a2 W2 ρ2 hR2 hL2 ho2 _
    have hr2 : W2.heap[l]? = some (.loop (recAt r none)) := (ho2 l hl).trans hrec
    have hlt2 : l < W2.heap.size := (Array.getElem?_eq_some_iff.1 hr2).1
    refine ⟨_, run_beginRound hr2 rfl, ?_⟩
    have hR3 := hR2.poke (o := .loop { recAt r none with state := .busy }) hl (.inl hFl)
    have hr3 : (W2.putObj l (.loop { recAt r none with state := .busy })).heap[l]? = some (.loop { recAt r none with state := .busy }) := World.putObj_heap_same hlt2
    have hL3 : Later W (Mof Mx ρ) (W2.putObj l (.loop { recAt r none with state := .busy })) (Mof Mx ρ2) := hL2.trans (later_poke (.inl hl))
    refine acode_seg c hT hS hm hh (hF.inRound l) (ds := []) (T := fun _ => false) r.body hcb hR3 h3 ?_
    intro a4 W4 ρ4 hR4 hL4 ho4 _
    have hr4 := (ho4 l hl).trans hr3
    have hlt4 : l < W4.heap.size := (Array.getElem?_eq_some_iff.1 hr4).1
    have fin : ∀ j : Option Ex, (∀ x, j = some x → x ≠ .normal) → hp' = s2.hp → pd = j → ∃ v w', (Instr.endRound l (j.map exCode)).run P W4 = .ok v w' ∧ ∃ ρ4, Ending.returned v = .returned (.bool pd.isNone) ∧ Rel c.tt W1 FP1 Mx ρ1 ρ4 ⟨[], hp'⟩ { tmps := #[], defers := [] } w' ∧ Later W (Mof Mx ρ) w' (Mof Mx ρ4) ∧ w'.heap[l]? = some (.loop (recAt r pd)) := by
      rintro j _ rfl rfl
      refine ⟨_, _, run_endRound _ hr4, ρ4, ?_, ?_, hL3.trans (hL4.trans (later_poke (.inl hl))), ?_⟩
      · cases pd <;> rfl
      · have := hR4.poke (o := .loop { { recAt r none with state := .busy } with state := if (pd.map exCode).isNone then .ready else .done, pending := pd.map exCode }) hl (.inl hFl)
        exact ⟨this.env, .nil, rfl, this.keeps, this.fresh, this.hold, this.old⟩
      · rw [World.putObj_heap_same hlt4]
        cases pd <;> rfl
    cases e2 with
    | normal => cases h4; exact fin none (fun x h => by cases h) rfl rfl
    | exit id => cases h4; exact fin (some (.exit id)) (fun x h => by cases h; simp) rfl rfl
    | ret => cases h4; exact fin (some .ret) (fun x h => by cases h; simp) rfl rfl
  | exit id => cases h2
  | ret => cases h2
end
end Go.Proofs.YtmkgmlgklggnlaaGm

/-! # The code of an iterator, read with the rounds in it. -/
namespace Go.Proofs.YtmkgmlgklggnlaaGm
def isYield (t : Nat) (o : Oper) : Bool :=
  match o.guard, o.op with
  | none, .call cl => (match cl.callee with
    | .value (.tmp u) => Nat.beq u t
    | _ => false)
  | _, _ => false
def ysplit (t : Nat) : List Oper → Option (List Oper × Oper × List Oper)
  | [] => none
  | o :: r => bif isYield t o then some ([], o, r) else (match ysplit t r with
    | some (p, y, q) => some (o :: p, y, q)
    | none => none)
def yhead (o : Oper) : Option Nat :=
  match o.guard, o.dst, o.op with
  | none, some t, .move (.tmp 0) => some t
  | _, _, _ => none
def T0 (t : Nat) : Bool := Nat.beq t 0
def Ty (t u : Nat) : Bool := Nat.beq u 0 || Nat.beq u t
def yregion (ops : List Oper) : Option (Nat × List Oper × Oper × List Oper) :=
  match ops with
  | [] => none
  | o :: r => (match yhead o with
    | none => none
    | some t => (match ysplit t r with
      | none => none
      | some (p, y, q) => bif p.all (opOk (Ty t)) then some (t, p, y, q) else none))
section cps
variable {R : Type} (stk : R)
def ycode (c : Cfg) (H : List AV → List AObj → (Option Ex → List AObj → R) → R) (hp1 : List AObj) : Code → Nat → Option Ex → St → (Ex → Option Ex → St → R) → R
  | .skip, _, pd, s, k => k .normal pd s
  | .region id ops draw, n, pd, s, k =>
    (match (bif draw then none else yregion ops.toList) with
    | none => acode stk c (.region id ops draw) n s fun e s' => k e pd s'
    | some (t, pre, y, post) =>
      (match pd, y.op, Nat.blt t s.fr.length with
      | none, .call cl, true => aops stk c ops.toList pre ⟨setN s.fr t .top, s.hp⟩ fun s1 =>
          H (cl.args.toList.map (aval s1.fr)) s1.hp fun pd' hp' =>
            aops stk c ops.toList post (St.put ⟨stabL hp1 s1.fr, hp'⟩ y.dst (.bool pd'.isNone)) fun s2 => k .normal pd' s2
      | _, _, _ => stk))
  | .seq a b, n, pd, s, k => ycode c H hp1 a n pd s fun e pd' s' =>
      match e with
      | .normal => ycode c H hp1 b n pd' (match keyOf a with | some i => maskAt c.tt c.h0 c.jm i s' | none => s') k
      | e => k e pd' s'
  | .cond x a b, n, pd, s, k =>
    (match aval s.fr x with
    | .bool t => bif t then ycode c H hp1 a n pd ⟨refine s.fr x true, s.hp⟩ k else ycode c H hp1 b n pd ⟨refine s.fr x false, s.hp⟩ k
    | _ => stk)
  | .block id b, _, pd, s, k => ycode c H hp1 b id pd s fun e pd' s' =>
      match e with
      | .exit j => bif Nat.beq j id then k .normal pd' s' else k (.exit j) pd' s'
      | e => k e pd' s'
  | .loop b, n, pd, s, k =>
    (match pd with
    | none => aiter stk c.F (fun s kn => ycode c H hp1 b n none s fun e pd' s' =>
      match e, pd' with
      | .normal, none => kn s'
      | .normal, some _ => stk
      | e, pd' => k e pd' s') (maskAt c.tt c.h0 c.lm n) (maskAt c.tt c.h0 c.lm n s)
    | some _ => stk)
  | .exit id, _, pd, s, k => k (.exit id) pd s
  | .ret, _, pd, s, k => k .ret pd s
  | _, _, _, _, _ => stk
end cps
theorem ysplit_eq {t : Nat} : ∀ {r p q : List Oper} {y : Oper}, ysplit t r = some (p, y, q) → r = p ++ y :: q ∧ isYield t y = true
  | [], p, q, y, h => by cases h
  | o :: r, p, q, y, h => by
    unfold ysplit at h
    cases ho : isYield t o with
    | true => rw [ho, cond_true] at h; cases h; exact ⟨rfl, ho⟩
    | false =>
      rw [ho, cond_false] at h
      cases hr : ysplit t r with
      | none => rw [hr] at h; cases h
      | some x =>
        obtain ⟨p', y', q'⟩ := x
        rw [hr] at h
        cases h
        obtain ⟨h1, h2⟩ := ysplit_eq hr
        exact ⟨by rw [h1]; rfl, h2⟩
theorem isYield_eq {t : Nat} {o : Oper} (h : isYield t o = true) : o.guard = none ∧ ∃ cl, o.op = .call cl ∧ cl.callee = .value (.tmp t) := by
  unfold isYield at h
  split at h
  · rename_i cl hg ho
    split at h
    · rename_i u hu
      have := Nat.eq_of_beq_eq_true h
      subst this
      exact ⟨hg, cl, ho, hu⟩
    · cases h
  · cases h
theorem yhead_eq {o : Oper} {t : Nat} (h : yhead o = some t) : o.guard = none ∧ o.dst = some t ∧ o.op = .move (.tmp 0) := by
  unfold yhead at h
  split at h
  · rename_i u hg hd ho
    cases h
    exact ⟨hg, hd, ho⟩
  · cases h
theorem yregion_eq {ops : List Oper} {t : Nat} {p q : List Oper} {y : Oper} (h : yregion ops = some (t, p, y, q)) :
    ∃ o, ops = o :: (p ++ y :: q) ∧ (o.guard = none ∧ o.dst = some t ∧ o.op = .move (.tmp 0)) ∧ (y.guard = none ∧ ∃ cl, y.op = .call cl ∧ cl.callee = .value (.tmp t)) ∧ p.all (opOk (Ty t)) = true := by
  unfold yregion at h
  split at h
  · cases h
  · rename_i o r
    cases h1 : yhead o with
    | none => rw [h1] at h; cases h
    | some u =>
      rw [h1] at h
      dsimp only at h
      cases h2 : ysplit u r with
      | none => rw [h2] at h; cases h
      | some x =>
        obtain ⟨p', y', q'⟩ := x
        rw [h2] at h
        dsimp only at h
        cases h3 : p'.all (opOk (Ty u)) with
        | false => rw [h3] at h; cases h
        | true =>
          rw [h3, cond_true] at h
          cases h
          obtain ⟨h4, h5⟩ := ysplit_eq h2
          exact ⟨o, by rw [h4], yhead_eq h1, isYield_eq h5, h3⟩
section
variable {P : Program} {w W : World}
theorem yield_op {F : Fence} (hF : FWide F) {nn : Nat} {y : Oper} {cl : Call} {t : Nat} {a : Act} {l : Nat} {r : Loop} {K : Act → World → Prop} {Q : Exit → Act → World → Prop} {R : Ending → World → Prop} (hy : y.op = .call cl) (hcal : cl.callee = .value (.tmp t))
    (ht : a.tmps[t]? = some (.func (.yield l) #[] #[])) (hrec : W.heap[l]? = some (.loop r)) (hvl : (cl.args.toList.map a.eval).length = r.params.size)
    (hr : RoundIn F (nn - 1) P l r.fn ((r.params.zip (cl.args.toList.map a.eval).toArray).foldl (fun tmps (t, a) => tmps.setIfInBounds t a) r.tmps) r.assign r.body W R)
    (hR : ∀ e W', R e W' → ∃ v, e = .returned v ∧ K (a.put y.dst v) W') : y.wpIn F nn P a W K Q := by
  unfold Oper.wpIn
  refine ⟨fun f _ => by rw [hF.fn]; trivial, ?_⟩
  rw [Oper.semAt_plain F _ y (by intro c e; rw [hy] at e; cases e)]
  have he : a.eval (.tmp t) = .func (.yield l) #[] #[] := by
    show a.tmps.getD t undef = _
    simp [Array.getD_eq_getD_getElem?, ht]
  have hrun : (execOp a.eval y).run P W = .ok (.round l r.fn ((r.params.zip (cl.args.toList.map a.eval).toArray).foldl (fun tmps (t, a) => tmps.setIfInBounds t a) r.tmps) r.assign r.body) W := by
    have h1 := run_yield (P := P) (args := (cl.args.toList.map a.eval).toArray) hrec (by simpa using hvl)
    have e : (cl.args.toList.map a.eval).toArray = cl.args.map a.eval := by rw [← Array.toList_map, Array.toArray_toList]
    rw [e] at h1 ⊢
    simp only [execOp, hy, resolve, hcal, he, Deferred.ofValue, invoke]
    simpa using h1
  rw [hrun, Oper.uponIn_round]
  refine ⟨fun e => (by rw [hF.depth] at e; cases e), RoundIn.mono hr fun e W' h => ?_⟩
  obtain ⟨v, rfl, hk⟩ := hR e W' h
  exact hk
end
end Go.Proofs.YtmkgmlgklggnlaaGm

/-! # The reading of an iterator's code, as a value. -/
namespace Go.Proofs.YtmkgmlgklggnlaaGm
theorem elim_elim {α β R : Type} (o : Option α) (f : α → Option β) (stk : R) (g : β → R) : (o.elim none f).elim stk g = o.elim stk fun x => (f x).elim stk g := by cases o <;> rfl
theorem hround_cps {R : Type} (stk : R) (c : Cfg) (hs : SpecsCps c.sg) (fr0 : List AV) (ps : List Nat) (assign body : Code) (args : List AV) (hp : List AObj) (k : Option Ex → List AObj → R) :
    hround stk c fr0 ps assign body args hp k = (hround (R := Option (Option Ex × List AObj)) none c fr0 ps assign body args hp fun pd hp' => some (pd, hp')).elim stk fun x => k x.1 x.2 := by
  unfold hround
  rw [elim_cond]; congr 1
  rw [acode_cps c hs assign, acode_cps c hs assign]
  cases acodeO c assign 0 ⟨setAll fr0 ps args, hp⟩ with
  | none => rfl
  | some x =>
    obtain ⟨e, s'⟩ := x
    cases e with
    | normal =>
      dsimp only [Option.elim]
      rw [acode_cps c hs body, acode_cps c hs body]
      cases acodeO c body 0 s' with
      | none => rfl
      | some x =>
        obtain ⟨e, s'⟩ := x
        cases e <;> rfl
    | exit id => rfl
    | ret => rfl
abbrev YRes := Option (Ex × Option Ex × St)
def ycodeO (c : Cfg) (h : List AV → List AObj → Option (Option Ex × List AObj)) (hp1 : List AObj) (code : Code) (n : Nat) (pd : Option Ex) (s : St) : YRes :=
  ycode (R := YRes) none c (fun args hp k => (h args hp).elim none fun x => k x.1 x.2) hp1 code n pd s fun e pd s => some (e, pd, s)
theorem ycode_cps (c : Cfg) (hs : SpecsCps c.sg) (h : List AV → List AObj → Option (Option Ex × List AObj)) (hp1 : List AObj) : ∀ (code : Code) {R : Type} (stk : R) (H : List AV → List AObj → (Option Ex → List AObj → R) → R)
    (_ : ∀ args hp k, H args hp k = (h args hp).elim stk fun x => k x.1 x.2) (n : Nat) (pd : Option Ex) (s : St) (k : Ex → Option Ex → St → R),
    ycode stk c H hp1 code n pd s k = (ycodeO c h hp1 code n pd s).elim stk fun x => k x.1 x.2.1 x.2.2
  | .skip, _, _, _, _, _, _, _, _ => rfl
  | .region id ops draw, R, stk, H, hH, n, pd, s, k => by
    unfold ycodeO
    simp only [ycode]
    split
    · rw [acode_cps c hs, acode_cps c hs]
      cases acodeO c (.region id ops draw) n s <;> rfl
    · split
      · rw [aops_cps stk c hs, aops_cps (R := YRes) none c hs]
        generalize aops (R := Option St) none c ops.toList _ _ some = x
        cases x with
        | none => rfl
        | some s1 =>
          dsimp only [Option.elim]
          rw [hH]
          generalize h _ s1.hp = y
          cases y with
          | none => rfl
          | some y =>
            dsimp only [Option.elim]
            rw [aops_cps stk c hs, aops_cps (R := YRes) none c hs]
            generalize aops (R := Option St) none c ops.toList _ _ some = z
            cases z <;> rfl
      · rfl
  | .seq a b, R, stk, H, hH, n, pd, s, k => by
    unfold ycodeO
    simp only [ycode]
    rw [ycode_cps c hs h hp1 a stk H hH, ycode_cps c hs h hp1 a (R := YRes) none _ (fun _ _ _ => rfl)]
    cases ycodeO c h hp1 a n pd s with
    | none => rfl
    | some x =>
      obtain ⟨e, pd', s'⟩ := x
      cases e with
      | normal => exact ycode_cps c hs h hp1 b stk H hH n _ _ k
      | exit id => rfl
      | ret => rfl
  | .cond x a b, R, stk, H, hH, n, pd, s, k => by
    unfold ycodeO
    simp only [ycode]
    split
    · rw [elim_cond]; congr 1
      · exact ycode_cps c hs h hp1 a stk H hH n _ _ k
      · exact ycode_cps c hs h hp1 b stk H hH n _ _ k
    · rfl
  | .block id b, R, stk, H, hH, n, pd, s, k => by
    unfold ycodeO
    simp only [ycode]
    rw [ycode_cps c hs h hp1 b stk H hH, ycode_cps c hs h hp1 b (R := YRes) none _ (fun _ _ _ => rfl)]
    cases ycodeO c h hp1 b id pd s with
    | none => rfl
    | some x =>
      obtain ⟨e, pd', s'⟩ := x
      cases e with
      | normal => rfl
      | exit j => dsimp only [Option.elim]; cases Nat.beq j id <;> rfl
      | ret => rfl
  | .loop b, R, stk, H, hH, n, pd, s, k => by
    unfold ycodeO
    simp only [ycode]
    cases pd with
    | some _ => rfl
    | none =>
      dsimp only
      generalize maskAt c.tt c.h0 c.lm n s = s0
      induction c.F generalizing s0 with
      | zero => rfl
      | succ m ih =>
        show ycode stk c H hp1 b n none s0 _ = (ycode (R := YRes) none c _ hp1 b n none s0 _).elim stk _
        rw [ycode_cps c hs h hp1 b stk H hH, ycode_cps c hs h hp1 b (R := YRes) none _ (fun _ _ _ => rfl)]
        cases ycodeO c h hp1 b n none s0 with
        | none => rfl
        | some x =>
          obtain ⟨e, pd', s'⟩ := x
          cases e with
          | normal =>
            cases pd' with
            | none => exact ih _
            | some _ => rfl
          | exit j => rfl
          | ret => rfl
  | .exit id, _, _, _, _, _, _, _, _ => rfl
  | .ret, _, _, _, _, _, _, _, _ => rfl
  | .scope _, _, _, _, _, _, _, _, _ => rfl
  | .rangeFunc .., _, _, _, _, _, _, _, _ => rfl
  | .label _, _, _, _, _, _, _, _, _ => rfl
  | .goto _, _, _, _, _, _, _, _, _ => rfl
  | .refuse _, _, _, _, _, _, _, _, _ => rfl
end Go.Proofs.YtmkgmlgklggnlaaGm

/-! # The reading of an iterator's code is right. -/
namespace Go.Proofs.YtmkgmlgklggnlaaGm
theorem lft_nil (a : Act) : lft [] a = a := by cases a; simp [lft]
theorem arun_sub (c : Cfg) (hs : SpecsCps c.sg) (all : List Oper) : ∀ (r : List Oper) (k : Nat) (s : St), (∀ i, i < r.length → all[k + i]? = r[i]?) → arun c all (List.range' k r.length) s = aops (R := Option St) none c all r s some
  | [], k, s, _ => rfl
  | o :: r, k, s, hd => by
    have ho : all[k]? = some o := by have := hd 0 (by simp); simpa using this
    rw [aops_cons c hs]
    simp only [List.length_cons, List.range'_succ, arun, ho]
    congr 1
    funext s'
    exact arun_sub c hs all r (k + 1) s' fun i hi => by
      have := hd (i + 1) (by simp; omega)
      rw [show k + 1 + i = k + (i + 1) by omega, this]; simp
theorem range_split (p q : Nat) : List.range (1 + p + 1 + q) = 0 :: (List.range' 1 p ++ (1 + p) :: (List.range' (2 + p) q ++ [])) := by
  rw [List.append_nil, List.range_eq_range', show 1 + p + 1 + q = (p + (q + 1)) + 1 by omega, List.range'_succ]
  congr 1
  rw [show (0 : Nat) + 1 = 1 from rfl, ← List.range'_append (s := 1) (m := p) (n := q + 1) (step := 1), List.range'_succ, Nat.one_mul, show 1 + p + 1 = 2 + p by omega]
section
variable {P : Program} {W1 : World} {FP1 Mx : Nat → Prop} {ρ1 : List CObj} {hp1 : List AObj}
theorem put_keeps {a : Act} {t : Nat} {v : Value} (ht : t < a.tmps.size) : (a.put (some t) v).tmps[t]? = some v := by simp [Act.put, ht]
theorem put_other {a : Act} {t u : Nat} {v : Value} (h : u ≠ t) : (a.put (some t) v).tmps[u]? = a.tmps[u]? := by
  have : t ≠ u := fun e => h e.symm
  simp [Act.put, Array.getElem?_setIfInBounds, this]
theorem ycode_ok {tt : Tab} {sg : List (Nat × Spec)} {Fu : Nat} {lm jm lmb jmb : List (Nat × Mask)} {h0 : Nat} (hT : TabOk P tt) (hS : SpecsOk P sg) (hm : P.follows .mixedOrders = true) (hh : ρ1.length = h0) {F : Fence} (hF : FWide F) {nn : Nat}
    {l : Nat} (hl : Mx l) (hFl : FP1 l) (hFP : ∀ b, FP1 b → Mof Mx ρ1 b) {r : Loop} (hca : codeOk (fun _ => false) r.assign = true) (hcb : codeOk (fun _ => false) r.body = true)
    (hE1 : Env tt W1 Mx ρ1 hp1) {frC : List AV} (hC : RepL W1 (Mof Mx ρ1) ρ1 frC r.tmps.toList) :
    ∀ (code : Code) {n : Nat} {pd : Option Ex} {s : St} {e : Ex} {pd' : Option Ex} {s' : St} {ρ : List CObj} {a : Act} {W : World} {Q : Exit → Act → World → Prop}, codeOk T0 code = true → Rel tt W1 FP1 Mx ρ1 ρ s a W → W.heap[l]? = some (.loop (recAt r pd)) →
      a.tmps[0]? = some (.func (.yield l) #[] #[]) →
      ycodeO ⟨tt, sg, Fu, lm, jm, h0⟩ (fun args hp => hround (R := Option (Option Ex × List AObj)) none ⟨tt, sg, Fu, lmb, jmb, h0⟩ (stabL hp1 frC) r.params.toList r.assign r.body args hp fun pd hp' => some (pd, hp')) hp1 code n pd s = some (e, pd', s') →
      (∀ a' W' ρ', Rel tt W1 FP1 Mx ρ1 ρ' s' a' W' → W'.heap[l]? = some (.loop (recAt r pd')) → a'.tmps[0]? = some (.func (.yield l) #[] #[]) → Q (exOf e) a' W') → code.wpIn F nn P Q a W
  | .skip, n, pd, s, e, pd', s', ρ, a, W, Q, hok, hR, hrec, hy, hs, hQ => by
    cases hs
    exact wpIn_skip (hQ _ _ _ hR hrec hy)
  | .region id ops draw, n, pd, s, e, pd', s', ρ, a, W, Q, hok, hR, hrec, hy, hs, hQ => by
    unfold ycodeO at hs
    simp only [ycode] at hs
    split at hs
    · rw [acode_cps _ hS.cps] at hs
      obtain ⟨⟨e1, s1⟩, h1, h2⟩ := elim_some hs
      cases h2
      have := acode_seg (c := ⟨tt, sg, Fu, lm, jm, h0⟩) (Q := Q) hT hS hm hh hF (nn := nn) (ds := []) (T := T0) (.region id ops draw) hok hR h1 (fun a' W' ρ' hR' _ ho hsm => by
        rw [lft_nil]; exact hQ a' W' ρ' hR' ((ho l hl).trans hrec) ((hsm 0 rfl).trans hy))
      rwa [lft_nil] at this
    · rename_i x t pre y post hyr
      split at hs
      · rename_i cl hcl hblt
        have hdraw : draw = false := by cases draw with
          | false => rfl
          | true => cases hyr
        subst hdraw
        obtain ⟨o, hops, ⟨og, od, oo⟩, ⟨yg, cl', hcl', hcal⟩, hpre⟩ := yregion_eq hyr
        rw [hcl'] at hcl
        cases hcl
        have hok' : ops.toList.all (opOk T0) = true := hok
        have hat : ∀ i, ops[i]? = (o :: (pre ++ y :: post))[i]? := fun i => by rw [← hops, Array.getElem?_toList]
        have hsz : ops.size = 1 + pre.length + 1 + post.length := by
          have := congrArg List.length hops
          simp at this
          omega
        refine wpIn_region ?_
        rw [hsz, range_split]
        have h0' : ops[0]? = some o := by rw [hat]; rfl
        simp only [wpOpsIn, h0']
        rw [if_pos (by simp [Region.wanted, og])]
        have ht : t < a.tmps.size := by
          have h1 := hR.fr.length
          have h2 : t + 1 ≤ s.fr.length := Nat.le_of_ble_eq_true hblt
          simp at h1
          omega
        have hrun : (o.semAt F.round a.eval).run P W = .ok (.value (a.eval (.tmp 0))) W := by
          rw [Oper.semAt_plain F _ o (by intro c e; rw [oo] at e; cases e)]
          simp [execOp, oo]
        have hev : a.eval (.tmp 0) = .func (.yield l) #[] #[] := by
          show a.tmps.getD 0 undef = _
          simp [Array.getD_eq_getD_getElem?, hy]
        refine ⟨fun f _ => (by rw [hF.fn]; trivial), ?_⟩
        rw [hrun, Oper.uponIn_value, od, hev]
        have hR1 := hR.put (some t) (r := .top) (.top (Value.func (.yield l) #[] #[]))
        have t1 : (a.put (some t) (.func (.yield l) #[] #[])).tmps[t]? = some (.func (.yield l) #[] #[]) := put_keeps ht
        have t0 : (a.put (some t) (.func (.yield l) #[] #[])).tmps[0]? = some (.func (.yield l) #[] #[]) := by
          by_cases h : t = 0
          · rw [← h]; exact t1
          · rw [put_other (Ne.symm h)]; exact hy
        generalize a.put (some t) (.func (.yield l) #[] #[]) = a1 at hR1 t1 t0
        rw [aops_cps (R := YRes) none ⟨tt, sg, Fu, lm, jm, h0⟩ hS.cps] at hs
        obtain ⟨s1, h1, h2⟩ := elim_some hs
        obtain ⟨⟨pdn, hpn⟩, h3, h4⟩ := elim_some h2
        dsimp only at h4
        rw [aops_cps (R := YRes) none ⟨tt, sg, Fu, lm, jm, h0⟩ hS.cps] at h4
        obtain ⟨s2, h5, h6⟩ := elim_some h4
        cases h6
        rw [← lft_nil a1]
        refine ops_seg (c := ⟨tt, sg, Fu, lm, jm, h0⟩) hT hS hF (ds := []) (T := Ty t) (s := ⟨setN s.fr t .top, s.hp⟩) (s' := s1) ?_ hR1 ?_ ?_
        · intro i hi o' ho'
          rw [List.mem_range'_1] at hi
          rw [hat, show i = (i - 1) + 1 by omega, List.getElem?_cons_succ, List.getElem?_append_left (by omega)] at ho'
          exact List.all_eq_true.1 hpre o' (List.mem_of_getElem? ho')
        · rw [← h1]
          refine arun_sub _ hS.cps _ _ _ _ fun i hi => ?_
          rw [hops, Nat.add_comm, List.getElem?_cons_succ, List.getElem?_append_left hi]
        · intro a2 W2 ρ2 hR2 _ ho2 hsm2
          have u0 := (hsm2 0 rfl).trans t0
          have ut := (hsm2 t (by simp [Ty])).trans t1
          have hrec2 := (ho2 l hl).trans hrec
          have hyi : ops[1 + pre.length]? = some y := by rw [hat, Nat.add_comm, List.getElem?_cons_succ, List.getElem?_append_right (Nat.le_refl _)]; simp
          rw [lft_nil]
          simp only [wpOpsIn, hyi]
          rw [if_pos (by simp [Region.wanted, yg])]
          have hC2 : RepL W2 (Mof Mx ρ2) ρ2 (stabL hp1 frC) r.tmps.toList := stab_rep hE1 (fun _ _ e => e) hR2.hold (hR2.laterB hFP fun _ h => .inl h) hC
          have hargs := repL_map hR2.fr cl.args.toList
          obtain ⟨hvl, hround⟩ := round_ok ⟨tt, sg, Fu, lmb, jmb, h0⟩ hT hS hm hh hF (nn := nn - 1) hl hFl hca hcb hC2 (s := s1) hR2 hrec2 hargs h3
          refine yield_op hF hcl' hcal ut (r := recAt r none) hrec2 hvl hround ?_
          rintro e W4 ⟨ρ4, rfl, hR4, hL4, hrec4⟩
          refine ⟨_, rfl, ?_⟩
          have hfr4 : RepL W4 (Mof Mx ρ4) ρ4 (stabL hp1 s1.fr) a2.tmps.toList := stab_rep hE1 hR2.hold hR4.hold hL4 hR2.fr
          have hR5 : Rel tt W1 FP1 Mx ρ1 ρ4 ⟨stabL hp1 s1.fr, hpn⟩ a2 W4 := ⟨hR4.env, hfr4, hR2.defers, hR4.keeps, hR4.fresh, hR4.hold, hR4.old⟩
          have hR6 := hR5.put y.dst (.bool pd'.isNone)
          have v0 : (a2.put y.dst (.bool pd'.isNone)).tmps[0]? = some (.func (.yield l) #[] #[]) := ((opOk_put (opOk_at hok' hyi) a2 _) 0 rfl).trans u0
          rw [← lft_nil (a2.put y.dst (.bool pd'.isNone))]
          refine ops_seg (c := ⟨tt, sg, Fu, lm, jm, h0⟩) hT hS hF (ds := []) (T := T0) (s' := s') (fun i _ o' ho' => opOk_at hok' ho') hR6 ?_ ?_
          · rw [← h5]
            refine arun_sub _ hS.cps _ _ _ _ fun i hi => ?_
            rw [hops, show 2 + pre.length + i = (pre.length + (i + 1)) + 1 by omega, List.getElem?_cons_succ, List.getElem?_append_right (by omega)]
            simp
          · intro a7 W7 ρ7 hR7 _ ho7 hsm7
            rw [lft_nil]
            exact hQ a7 W7 ρ7 hR7 ((ho7 l hl).trans hrec4) ((hsm7 0 rfl).trans v0)
      · cases hs
  | .seq x y, n, pd, s, e, pd', s', ρ, a, W, Q, hok, hR, hrec, hy, hs, hQ => by
    have hok : codeOk T0 x = true ∧ codeOk T0 y = true := by simpa [codeOk] using hok
    unfold ycodeO at hs
    simp only [ycode] at hs
    rw [ycode_cps _ hS.cps _ hp1 x (R := YRes) none _ (fun _ _ _ => rfl)] at hs
    obtain ⟨⟨e1, pd1, s1⟩, h1, h2⟩ := elim_some hs
    refine wpIn_seq (ycode_ok hT hS hm hh hF hl hFl hFP hca hcb hE1 hC x hok.1 hR hrec hy h1 ?_)
    intro a1 w1 ρ1' hr1 hrec1 hy1
    cases e1 with
    | normal =>
      show y.wpIn F nn P Q a1 w1
      have : Goes tt W1 FP1 Mx ρ1 (match keyOf x with | some i => maskAt tt h0 jm i s1 | none => s1) a1 w1 := by
        split
        · exact hr1.maskAt hh _ _
        · exact ⟨ρ1', hr1⟩
      obtain ⟨ρ2, hr2⟩ := this
      exact ycode_ok hT hS hm hh hF hl hFl hFP hca hcb hE1 hC y hok.2 hr2 hrec1 hy1 h2 hQ
    | exit id => cases h2; exact hQ _ _ _ hr1 hrec1 hy1
    | ret => cases h2; exact hQ _ _ _ hr1 hrec1 hy1
  | .cond x thn els, n, pd, s, e, pd', s', ρ, a, W, Q, hok, hR, hrec, hy, hs, hQ => by
    have hok : codeOk T0 thn = true ∧ codeOk T0 els = true := by simpa [codeOk] using hok
    unfold ycodeO at hs
    simp only [ycode] at hs
    split at hs
    · rename_i t ht
      have hv := aval_rep hR.fr x
      rw [ht] at hv
      refine wpIn_cond (bool_rep hv) ?_
      cases t with
      | true =>
        rw [cond_true, refine_same ht] at hs
        exact ycode_ok hT hS hm hh hF hl hFl hFP hca hcb hE1 hC thn hok.1 hR hrec hy hs hQ
      | false =>
        rw [cond_false, refine_same ht] at hs
        exact ycode_ok hT hS hm hh hF hl hFl hFP hca hcb hE1 hC els hok.2 hR hrec hy hs hQ
    · cases hs
  | .block id b, n, pd, s, e, pd', s', ρ, a, W, Q, hok, hR, hrec, hy, hs, hQ => by
    unfold ycodeO at hs
    simp only [ycode] at hs
    rw [ycode_cps _ hS.cps _ hp1 b (R := YRes) none _ (fun _ _ _ => rfl)] at hs
    obtain ⟨⟨e1, pd1, s1⟩, h1, h2⟩ := elim_some hs
    refine wpIn_block (ycode_ok hT hS hm hh hF hl hFl hFP hca hcb hE1 hC b hok hR hrec hy h1 ?_)
    intro a1 w1 ρ1' hr1 hrec1 hy1
    cases e1 with
    | normal => cases h2; exact hQ _ _ _ hr1 hrec1 hy1
    | exit j =>
      dsimp only at h2
      cases hj : Nat.beq j id with
      | true =>
        rw [hj, cond_true] at h2
        cases h2
        show (if j = id then _ else _)
        rw [if_pos (Nat.eq_of_beq_eq_true hj)]
        exact hQ _ _ _ hr1 hrec1 hy1
      | false =>
        rw [hj, cond_false] at h2
        cases h2
        show (if j = id then _ else _)
        rw [if_neg (Nat.ne_of_beq_eq_false hj)]
        exact hQ _ _ _ hr1 hrec1 hy1
    | ret => cases h2; exact hQ _ _ _ hr1 hrec1 hy1
  | .loop b, n, pd, s, e, pd', s', ρ, a, W, Q, hok, hR, hrec, hy, hs, hQ => by
    unfold ycodeO at hs
    simp only [ycode] at hs
    cases pd with
    | some _ => cases hs
    | none =>
    dsimp only at hs
    obtain ⟨ρa, ha⟩ := hR.maskAt hh lm n
    generalize maskAt tt h0 lm n s = s0 at ha hs
    refine wpIn_loop_inv (fun k a w => ∃ s ρ, Rel tt W1 FP1 Mx ρ1 ρ s a w ∧ w.heap[l]? = some (.loop (recAt r none)) ∧ a.tmps[0]? = some (.func (.yield l) #[] #[]) ∧
      aiter (R := YRes) none k (fun s kn => ycode (R := YRes) none ⟨tt, sg, Fu, lm, jm, h0⟩ (fun args hp k => (hround (R := Option (Option Ex × List AObj)) none ⟨tt, sg, Fu, lmb, jmb, h0⟩ (stabL hp1 frC) r.params.toList r.assign r.body args hp fun pd hp' => some (pd, hp')).elim none fun x => k x.1 x.2) hp1 b n none s fun e pd' s' =>
        match e, pd' with
        | .normal, none => kn s'
        | .normal, some _ => none
        | e, pd' => some (e, pd', s')) (maskAt tt h0 lm n) s = some (e, pd', s')) ?_ ?_ Fu ⟨_, ρa, ha, hrec, hy, hs⟩
    · rintro a w ⟨s, ρ, _, _, _, hz⟩
      cases hz
    · rintro k a w ⟨s, ρ, hr, hrc, hyk, hz⟩
      have hz' : (ycode (R := YRes) none ⟨tt, sg, Fu, lm, jm, h0⟩ (fun args hp k => (hround (R := Option (Option Ex × List AObj)) none ⟨tt, sg, Fu, lmb, jmb, h0⟩ (stabL hp1 frC) r.params.toList r.assign r.body args hp fun pd hp' => some (pd, hp')).elim none fun x => k x.1 x.2) hp1 b n none s _) = some (e, pd', s') := hz
      rw [ycode_cps _ hS.cps _ hp1 b (R := YRes) none _ (fun _ _ _ => rfl)] at hz'
      obtain ⟨⟨e1, pd1, s1⟩, h3, h4⟩ := elim_some hz'
      refine ycode_ok hT hS hm hh hF hl hFl hFP hca hcb hE1 hC b hok hr hrc hyk h3 ?_
      intro a1 w1 ρ2 hr2 hrec2 hy2
      cases e1 with
      | normal =>
        cases pd1 with
        | none =>
          obtain ⟨ρ3, hr3⟩ := hr2.maskAt hh lm n
          exact ⟨_, ρ3, hr3, hrec2, hy2, h4⟩
        | some _ => cases h4
      | exit id => cases h4; exact hQ _ _ _ hr2 hrec2 hy2
      | ret => cases h4; exact hQ _ _ _ hr2 hrec2 hy2
  | .exit id, n, pd, s, e, pd', s', ρ, a, W, Q, hok, hR, hrec, hy, hs, hQ => by
    cases hs
    exact wpIn_exit (hQ _ _ _ hR hrec hy)
  | .ret, n, pd, s, e, pd', s', ρ, a, W, Q, hok, hR, hrec, hy, hs, hQ => by
    cases hs
    exact wpIn_ret (hQ _ _ _ hR hrec hy)
  | .scope _, n, pd, s, e, pd', s', ρ, a, W, Q, hok, hR, hrec, hy, hs, hQ => by cases hs
  | .rangeFunc .., n, pd, s, e, pd', s', ρ, a, W, Q, hok, hR, hrec, hy, hs, hQ => by cases hs
  | .label _, n, pd, s, e, pd', s', ρ, a, W, Q, hok, hR, hrec, hy, hs, hQ => by cases hs
  | .goto _, n, pd, s, e, pd', s', ρ, a, W, Q, hok, hR, hrec, hy, hs, hQ => by cases hs
end
end Go.Proofs.YtmkgmlgklggnlaaGm

/-! # A function with a range over a function in it. -/
namespace Go.Proofs.YtmkgmlgklggnlaaGm
structure Itr where
  gf : Nat
  fn : Func
  lm : List (Nat × Mask)
  jm : List (Nat × Mask)
  lmb : List (Nat × Mask)
  jmb : List (Nat × Mask)
def noT (_ : Nat) : Bool := false
section cps
variable {R : Type} (stk : R)
def grange (c : Cfg) (y : Itr) (f : Nat) (caps : List AV) (ps : List Nat) (assign body : Code) (s : St) (k : Ex → St → R) : R :=
  bif Nat.beq f y.gf && codeOk noT assign && codeOk noT body then
    (match y.fn.body with
    | some icode =>
      bif codeOk T0 icode && Nat.ble (1 + caps.length) y.fn.ntmps then
        ycode stk ⟨c.tt, c.sg, c.F, y.lm, y.jm, s.hp.length⟩ (hround stk ⟨c.tt, c.sg, c.F, y.lmb, y.jmb, s.hp.length⟩ (stabL s.hp s.fr) ps assign body) s.hp icode 0 none ⟨padTo y.fn.ntmps (.top :: caps), s.hp⟩ fun e pd s1 =>
          match e with
          | .exit _ => stk
          | _ => (match resVal c.tt s1.fr s1.hp y.fn.results.toList with
            | none => stk
            | some _ => (match pd with
              | none => k .normal ⟨stabL s.hp s.fr, s1.hp⟩
              | some e => k e ⟨stabL s.hp s.fr, s1.hp⟩))
      else stk
    | none => stk)
  else stk
def gcode (c : Cfg) (y : Itr) : Code → Nat → St → (Ex → St → R) → R
  | .rangeFunc g ps assign body, _, s, k =>
    (match aval s.fr g with
    | .fn f caps => grange stk c y f caps ps.toList assign body s k
    | _ => stk)
  | .seq a b, n, s, k => gcode c y a n s fun e s' =>
      match e with
      | .normal => gcode c y b n (match keyOf a with | some i => maskAt c.tt c.h0 c.jm i s' | none => s') k
      | e => k e s'
  | .block id b, _, s, k => gcode c y b id s fun e s' =>
      match e with
      | .exit j => bif Nat.beq j id then k .normal s' else k (.exit j) s'
      | e => k e s'
  | .skip, _, s, k => k .normal s
  | .region id ops draw, n, s, k => acode stk c (.region id ops draw) n s k
  | .cond x a b, n, s, k => acode stk c (.cond x a b) n s k
  | .loop b, n, s, k => acode stk c (.loop b) n s k
  | .exit id, _, s, k => k (.exit id) s
  | .ret, _, s, k => k .ret s
  | _, _, _, _ => stk
end cps
def gcodeO (c : Cfg) (y : Itr) (code : Code) (n : Nat) (s : St) : Option (Ex × St) := gcode (R := Option (Ex × St)) none c y code n s fun e s => some (e, s)
theorem grange_cps (c : Cfg) (hs : SpecsCps c.sg) (y : Itr) {R : Type} (stk : R) (f : Nat) (caps : List AV) (ps : List Nat) (assign body : Code) (s : St) (k : Ex → St → R) :
    grange stk c y f caps ps assign body s k = (grange (R := Option (Ex × St)) none c y f caps ps assign body s fun e s => some (e, s)).elim stk fun x => k x.1 x.2 := by
  unfold grange
  rw [elim_cond]; congr 1
  cases y.fn.body with
  | none => rfl
  | some icode =>
    dsimp only
    rw [elim_cond]; congr 1
    have key := fun (R : Type) (stk : R) => ycode_cps ⟨c.tt, c.sg, c.F, y.lm, y.jm, s.hp.length⟩ hs (fun args hp => hround (R := Option (Option Ex × List AObj)) none ⟨c.tt, c.sg, c.F, y.lmb, y.jmb, s.hp.length⟩ (stabL s.hp s.fr) ps assign body args hp fun pd hp' => some (pd, hp')) s.hp icode stk
      (hround stk ⟨c.tt, c.sg, c.F, y.lmb, y.jmb, s.hp.length⟩ (stabL s.hp s.fr) ps assign body) (hround_cps stk ⟨c.tt, c.sg, c.F, y.lmb, y.jmb, s.hp.length⟩ hs (stabL s.hp s.fr) ps assign body)
    rw [key R stk, key (Option (Ex × St)) none]
    generalize ycodeO _ _ s.hp icode 0 none _ = o
    cases o with
    | none => rfl
    | some x =>
      obtain ⟨e, pd, s1⟩ := x
      dsimp only [Option.elim]
      cases e with
      | exit _ => rfl
      | _ =>
        dsimp only
        cases resVal c.tt s1.fr s1.hp y.fn.results.toList with
        | none => rfl
        | some _ => cases pd <;> rfl
theorem gcode_cps (c : Cfg) (hs : SpecsCps c.sg) (y : Itr) : ∀ (code : Code) {R : Type} (stk : R) (n : Nat) (s : St) (k : Ex → St → R),
    gcode stk c y code n s k = (gcodeO c y code n s).elim stk fun x => k x.1 x.2
  | .skip, _, _, _, _, _ => rfl
  | .region id ops draw, R, stk, n, s, k => by
    unfold gcodeO
    simp only [gcode]
    rw [acode_cps c hs, acode_cps c hs]
    cases acodeO c (.region id ops draw) n s <;> rfl
  | .cond x a b, R, stk, n, s, k => by
    unfold gcodeO
    simp only [gcode]
    rw [acode_cps c hs, acode_cps c hs]
    cases acodeO c (.cond x a b) n s <;> rfl
  | .loop b, R, stk, n, s, k => by
    unfold gcodeO
    simp only [gcode]
    rw [acode_cps c hs, acode_cps c hs]
    cases acodeO c (.loop b) n s <;> rfl
  | .seq a b, R, stk, n, s, k => by
    unfold gcodeO
    simp only [gcode]
    rw [gcode_cps c hs y a, gcode_cps c hs y a]
    cases gcodeO c y a n s with
    | none => rfl
    | some x =>
      obtain ⟨e, s'⟩ := x
      cases e with
      | normal => exact gcode_cps c hs y b stk n _ k
      | exit id => rfl
      | ret => rfl
  | .block id b, R, stk, n, s, k => by
    unfold gcodeO
    simp only [gcode]
    rw [gcode_cps c hs y b, gcode_cps c hs y b]
    cases gcodeO c y b id s with
    | none => rfl
    | some x =>
      obtain ⟨e, s'⟩ := x
      cases e with
      | normal => rfl
      | exit j => dsimp only [Option.elim]; cases Nat.beq j id <;> rfl
      | ret => rfl
  | .rangeFunc g ps assign body, R, stk, n, s, k => by
    unfold gcodeO
    simp only [gcode]
    split
    · exact grange_cps c hs y stk _ _ _ _ _ s k
    · rfl
  | .exit id, _, _, _, _, _ => rfl
  | .ret, _, _, _, _, _ => rfl
  | .scope _, _, _, _, _, _ => rfl
  | .label _, _, _, _, _, _ => rfl
  | .goto _, _, _, _, _, _ => rfl
  | .refuse _, _, _, _, _, _ => rfl
def Marks (N : Nat) (w0 : World) (FP Mx : Nat → Prop) (ds : List Deferred) : Prop := ds.Nodup ∧ ∀ d ∈ ds, ∃ D, d = { target := .collected D, args := #[] } ∧ N ≤ D ∧ Mx D ∧ ¬ FP D ∧ w0.heap[D]? = some (.deferred (some []))
structure Ext (w0 : World) (FP Mx : Nat → Prop) (w1 : World) (FP1 Mx1 : Nat → Prop) : Prop where
  keeps : Keeps w0 w1 FP
  fp : ∀ b, FP1 b → FP b ∨ w0.heap.size ≤ b
  mx : ∀ b, Mx b → Mx1 b
theorem Ext.refl (w0 : World) (FP Mx : Nat → Prop) : Ext w0 FP Mx w0 FP Mx := ⟨.refl _ _, fun _ h => .inl h, fun _ h => h⟩
theorem Ext.keepsOf {w0 w1 w : World} {FP Mx FP1 Mx1 : Nat → Prop} (h : Ext w0 FP Mx w1 FP1 Mx1) (k : Keeps w1 w FP1) : Keeps w0 w FP where
  os := k.os.trans h.keeps.os
  tape := k.tape.trans h.keeps.tape
  output := k.output.trans h.keeps.output
  size := Nat.le_trans h.keeps.size k.size
  block b hb hn := (k.block b (Nat.lt_of_lt_of_le hb h.keeps.size) fun x => by
    rcases h.fp b x with h1 | h1
    · exact hn h1
    · omega).trans (h.keeps.block b hb hn)
theorem Ext.trans {w0 w1 w2 : World} {FP Mx FP1 Mx1 FP2 Mx2 : Nat → Prop} (h : Ext w0 FP Mx w1 FP1 Mx1) (k : Ext w1 FP1 Mx1 w2 FP2 Mx2) : Ext w0 FP Mx w2 FP2 Mx2 where
  keeps := h.keepsOf k.keeps
  fp b hb := by
    rcases k.fp b hb with h1 | h1
    · exact h.fp b h1
    · exact .inr (Nat.le_trans h.keeps.size h1)
  mx b hb := k.mx b (h.mx b hb)
end Go.Proofs.YtmkgmlgklggnlaaGm

/-! # A range over a function is read rightly. -/
namespace Go.Proofs.YtmkgmlgklggnlaaGm
def gOk : Code → Bool
  | .seq a b => gOk a && gOk b
  | .block _ b => gOk b
  | .rangeFunc .. => true
  | c => codeOk noT c
section
variable {P : Program} {ρ0 : List CObj}
theorem grange_ok (c : Cfg) (y : Itr) (hT : TabOk P c.tt) (hS : SpecsOk P c.sg) (hm : P.follows .mixedOrders = true) (hy : P.funcs[y.gf]? = some y.fn) (hyn : (y.fn.name == "runtime.NumGoroutine") = false) {nn : Nat}
    {g : Operand} {ps : Array Tmp} {assign body : Code} {f : Nat} {caps : List AV} {s : St} {e : Ex} {s' : St} {ρ : List CObj} {a : Act} {w w0 : World} {FP Mx : Nat → Prop} {ds : List Deferred} {N : Nat} {Q : Exit → Act → World → Prop}
    (hg : aval s.fr g = .fn f caps) (hR : Rel c.tt w0 FP Mx ρ0 ρ s a w) (hN : N ≤ w0.heap.size) (hM : Marks N w0 FP Mx ds)
    (hs : grange (R := Option (Ex × St)) none c y f caps ps.toList assign body s (fun e s => some (e, s)) = some (e, s'))
    (hQ : ∀ a' w' ρ' w1 FP1 Mx1 ds', Rel c.tt w1 FP1 Mx1 ρ0 ρ' s' a' w' → Ext w0 FP Mx w1 FP1 Mx1 → Marks N w1 FP1 Mx1 ds' → Q (exOf e) (lft ds' a') w') : (Code.rangeFunc g ps assign body).wpIn Fence.wide nn P Q (lft ds a) w := by
  unfold grange at hs
  cases hc1 : (Nat.beq f y.gf && codeOk noT assign && codeOk noT body) with
  | false => rw [hc1, cond_false] at hs; cases hs
  | true =>
  rw [hc1, cond_true] at hs
  simp only [Bool.and_eq_true] at hc1
  obtain ⟨⟨hf, hca⟩, hcb⟩ := hc1
  have hf := Nat.eq_of_beq_eq_true hf
  subst hf
  cases hib : y.fn.body with
  | none => rw [hib] at hs; cases hs
  | some icode =>
  rw [hib] at hs
  dsimp only at hs
  cases hc2 : (codeOk T0 icode && Nat.ble (1 + caps.length) y.fn.ntmps) with
  | false => rw [hc2, cond_false] at hs; cases hs
  | true =>
  rw [hc2, cond_true] at hs
  simp only [Bool.and_eq_true] at hc2
  obtain ⟨hci, hn⟩ := hc2
  have hn : 1 + caps.length ≤ y.fn.ntmps := Nat.le_of_ble_eq_true hn
  -- the iterator's value
  have hgv := aval_rep hR.fr g
  rw [hg] at hgv
  generalize hgu : a.eval g = gu at hgv
  cases hgv with | @fn _ _ vs hcaps =>
  refine wpIn_rangeFunc ?_
  intro fn _
  obtain ⟨r, hr⟩ : ∃ r : Loop, r = { state := .ready, pending := none, fn, tmps := a.tmps, params := ps, assign, body, defers := w.heap.size } := ⟨_, rfl⟩
  obtain ⟨W1, hW1⟩ : ∃ W1, (w.alloc (.deferred (some []))).alloc (.loop r) = W1 := ⟨_, rfl⟩
  have hg1 : Grew w W1 := by
    rw [← hW1]
    exact ⟨rfl, rfl, rfl, by simp; omega, fun b hb => (RowKit.Below.heap_alloc _ _ _ (by simp; omega)).trans (RowKit.Below.heap_alloc _ _ _ hb)⟩
  have hsz1 : W1.heap.size = w.heap.size + 2 := by rw [← hW1]; simp
  have hl1 : W1.heap[w.heap.size + 1]? = some (.loop r) := by
    rw [← hW1]; have := World.alloc_heap_new (w.alloc (.deferred (some []))) (.loop r); rwa [World.size_alloc] at this
  have hD1 : W1.heap[w.heap.size]? = some (.deferred (some [])) := by
    rw [← hW1]; exact (RowKit.Below.heap_alloc _ _ _ (by simp)).trans (World.alloc_heap_new w _)
  have hrr : recAt r none = r := by rw [hr]; rfl
  -- the base of the iterator
  let Mx1 : Nat → Prop := fun b => Mx b ∨ b = w.heap.size + 1 ∨ b = w.heap.size
  let FP1 : Nat → Prop := fun b => bsOf ρ b ∨ b = w.heap.size + 1
  have hbl : ∀ (i : Nat) (c : CObj) (b : Nat), ρ[i]? = some c → c.block? = some b → b < w.heap.size := fun i c b hi hb => hR.env.block_lt hi hb
  have hL1 : Later w (Mof Mx ρ) W1 (Mof Mx1 ρ) := ⟨hg1.size, fun b hb _ => hg1.block b hb, fun b hb x => by
    rcases x with (x | x) | x
    · exact .inl x
    · omega
    · exact .inr x⟩
  have hE1 : Env c.tt W1 Mx1 ρ s.hp := {
    len := hR.env.len
    obj := fun i o cc hi hc => (hR.env.obj i o cc hi hc).later' hL1 (fun b hb => hg1.block b (hbl i cc b hc hb)) fun _ _ e => e
    sep := hR.env.sep
    mx := fun i cc b hi hb x => by
      rcases x with x | x
      · exact hR.env.mx i cc b hi hb x
      · have := hbl i cc b hi hb; omega
    lt := fun b x => by
      rcases x with x | x
      · exact Nat.lt_of_lt_of_le (hR.env.lt b x) hg1.size
      · omega }
  have hC : RepL W1 (Mof Mx1 ρ) ρ s.fr r.tmps.toList := by rw [hr]; exact hR.fr.later hL1 fun _ _ e => e
  have hcaps1 : RepL W1 (Mof Mx1 ρ) ρ caps vs := hcaps.later hL1 fun _ _ e => e
  have hargs : RepL W1 (Mof Mx1 ρ) ρ (.top :: caps) (.func (.yield (w.heap.size + 1)) #[] #[] :: vs) := .cons (.top _) hcaps1
  have hpad := padTo_rep y.fn.ntmps hargs (by simp; omega)
  have hdf : a.defers = [] := hR.defers
  refine ⟨w.heap.size + 1, [{ target := .collected w.heap.size, args := #[] }], W1, { target := .fn (.func y.gf) vs.toArray, args := #[.func (.yield (w.heap.size + 1)) #[] #[]] }, W1, y.gf,
    #[.func (.yield (w.heap.size + 1)) #[] #[]] ++ vs.toArray, W1, ?_, ?_, fun _ _ => trivial, ?_, fun h => (by cases h), ?_⟩
  · rw [← hW1, hr]; exact run_enterLoop_outer _ _ _ _ _
  · have : (lft ds a).eval g = .func (.func y.gf) #[] vs.toArray := by rw [lft_eval]; exact hgu
    simp only [resolve, this]
    simp [go_sem]
  · have hnm : y.fn.name ≠ "runtime.NumGoroutine" := by simpa using hyn
    simp [invoke, callFunc, hy, hnm, hib, go_sem]
  · refine callsIn_of_wp hy hib trivial ?_
    have hR1 : Rel c.tt W1 FP1 Mx1 ρ ρ ⟨padTo y.fn.ntmps (.top :: caps), s.hp⟩ { tmps := #[.func (.yield (w.heap.size + 1)) #[] #[]] ++ vs.toArray ++ Array.replicate (y.fn.ntmps - (#[Value.func (.yield (w.heap.size + 1)) #[] #[]] ++ vs.toArray).size) undef, defers := [] } W1 :=
      ⟨hE1, by simpa [Nat.add_comm] using hpad, rfl, .refl _ _, fun i cc b hi hb => .inl (.inl ⟨cc, List.mem_of_getElem? hi, hb⟩), fun _ _ h => h, Nat.le_refl _⟩
    rw [ycode_cps ⟨c.tt, c.sg, c.F, y.lm, y.jm, s.hp.length⟩ hS.cps (fun args hp => hround (R := Option (Option Ex × List AObj)) none ⟨c.tt, c.sg, c.F, y.lmb, y.jmb, s.hp.length⟩ (stabL s.hp s.fr) ps.toList assign body args hp fun pd hp' => some (pd, hp')) s.hp icode none _ (hround_cps none ⟨c.tt, c.sg, c.F, y.lmb, y.jmb, s.hp.length⟩ hS.cps (stabL s.hp s.fr) ps.toList assign body)] at hs
    obtain ⟨⟨ei, pd, s1⟩, h1, h2⟩ := elim_some hs
    have h1' : ycodeO ⟨c.tt, c.sg, c.F, y.lm, y.jm, s.hp.length⟩ (fun args hp => hround (R := Option (Option Ex × List AObj)) none ⟨c.tt, c.sg, c.F, y.lmb, y.jmb, s.hp.length⟩ (stabL s.hp s.fr) r.params.toList r.assign r.body args hp fun pd hp' => some (pd, hp')) s.hp icode 0 none ⟨padTo y.fn.ntmps (.top :: caps), s.hp⟩ = some (ei, pd, s1) := by rw [hr]; exact h1
    refine ycode_ok hT hS hm (by rw [hR.env.len]) FWide.wide (Mx := Mx1) (FP1 := FP1) (.inr (.inl rfl)) (.inr rfl) (fun b x => ?_) (by rw [hr]; exact hca) (by rw [hr]; exact hcb) hE1 hC icode hci hR1 (by rw [hrr]; exact hl1) (by show (#[Value.func (.yield (w.heap.size + 1)) #[] #[]] ++ vs.toArray ++ Array.replicate _ undef)[0]? = _; rw [Array.getElem?_append_left (by simp), Array.getElem?_append_left (by simp)]; rfl) h1' ?_
    · rcases x with x | x
      · exact .inr x
      · exact .inl (.inr (.inl x))
    · intro a2 W2 ρ2 hR2 hrec2 _
      dsimp only at h2
      have fin : ∀ ov, resVal c.tt s1.fr s1.hp y.fn.results.toList = some ov → (match (generalizing := false) pd with
          | none => some (Ex.normal, (⟨stabL s.hp s.fr, s1.hp⟩ : St))
          | some e => some (e, ⟨stabL s.hp s.fr, s1.hp⟩)) = some (e, s') → a2.defers = [] ∧ ∃ v, (results y.fn a2.tmps).run P W2 = .ok v W2 ∧ rangePost Fence.wide nn P (w.heap.size + 1) Q { lft ds a with defers := [{ target := .collected w.heap.size, args := #[] }] ++ (lft ds a).defers } (.returned v) W2 := by
        intro ov hov hpd
        obtain ⟨u, hu, _⟩ := resVal_rep (P := P) hT hR2.env hR2.fr hov
        refine ⟨hR2.defers, u, hu, _, _, run_endLoop hrec2 (by cases pd <;> simp [recAt]), ?_⟩
        have hlft : ({ lft ds a with defers := [{ target := .collected w.heap.size, args := #[] }] ++ (lft ds a).defers } : Act) = lft ({ target := .collected w.heap.size, args := #[] } :: ds) a := by
          simp [lft, hdf]
        rw [hlft]
        obtain ⟨W3, hW3⟩ : ∃ W3, W2.putObj (w.heap.size + 1) (.loop { recAt r pd with state := .exhausted }) = W3 := ⟨_, rfl⟩
        rw [hW3]
        have hR3 := hR2.poke (o := .loop { recAt r pd with state := .exhausted }) (l := w.heap.size + 1) (.inr (.inl rfl)) (.inl (.inr rfl))
        rw [hW3] at hR3
        have hk0 : Keeps w0 W3 FP := by
          refine ⟨hR3.keeps.os.trans (hg1.os.trans hR.keeps.os), hR3.keeps.tape.trans (hg1.tape.trans hR.keeps.tape), hR3.keeps.output.trans (hg1.output.trans hR.keeps.output), Nat.le_trans hR.keeps.size (Nat.le_trans hg1.size hR3.keeps.size), fun b hb hn => ?_⟩
          have hbw := Nat.lt_of_lt_of_le hb hR.keeps.size
          rw [hR3.keeps.block b (by omega) (by
            rintro (⟨cc, hcc, hcb⟩ | x)
            · obtain ⟨i, hi⟩ := List.mem_iff_getElem?.1 hcc
              rcases hR.fresh i cc b hi hcb with h | h
              · exact hn h
              · omega
            · omega), hg1.block b hbw]
          exact hR.keeps.block b hb hn
        have hfp : ∀ b, bsOf ρ2 b → FP b ∨ w0.heap.size ≤ b := by
          rintro b ⟨cc, hcc, hcb⟩
          obtain ⟨i, hi⟩ := List.mem_iff_getElem?.1 hcc
          rcases hR3.fresh i cc b hi hcb with (⟨c', hc', hb'⟩ | x) | h
          · obtain ⟨j, hj⟩ := List.mem_iff_getElem?.1 hc'
            exact hR.fresh j c' b hj hb'
          · have := hR.keeps.size; omega
          · have := hR.keeps.size; omega
        have hLe : Later w (Mof Mx ρ) W3 (Mof Mx1 ρ2) := hL1.trans (hR3.laterB (fun b x => by
          rcases x with x | x
          · exact .inr x
          · exact .inl (.inr (.inl x))) fun _ h => .inl h)
        have hfr : RepL W3 (Mof Mx1 ρ2) ρ2 (stabL s.hp s.fr) a.tmps.toList := stab_rep hE1 (fun _ _ e => e) hR3.hold hLe hR.fr
        have hRe : Rel c.tt W3 (bsOf ρ2) Mx1 ρ0 ρ2 ⟨stabL s.hp s.fr, s1.hp⟩ a W3 :=
          ⟨hR3.env, hfr, hdf, .refl _ _, fun i cc b hi hb => .inl ⟨cc, List.mem_of_getElem? hi, hb⟩, fun i b h => hR3.hold i b (hR.hold i b h), Nat.le_trans hR.old hR3.old⟩
        have hExt : Ext w0 FP Mx W3 (bsOf ρ2) Mx1 := ⟨hk0, hfp, fun _ h => .inl h⟩
        have hMk : Marks N W3 (bsOf ρ2) Mx1 ({ target := .collected w.heap.size, args := #[] } :: ds) := by
          refine ⟨List.nodup_cons.2 ⟨fun hd => ?_, hM.1⟩, ?_⟩
          · obtain ⟨D, hD, _, _, _, hDc⟩ := hM.2 _ hd
            have hDlt : D < w0.heap.size := (Array.getElem?_eq_some_iff.1 hDc).1
            have := hR.keeps.size
            cases hD
            omega
          intro d hd
          rcases List.mem_cons.1 hd with rfl | hd
          · refine ⟨w.heap.size, rfl, Nat.le_trans hN hR.keeps.size, .inr (.inr rfl), ?_, ?_⟩
            · rintro ⟨cc, hcc, hcb⟩
              obtain ⟨i, hi⟩ := List.mem_iff_getElem?.1 hcc
              rcases hR3.fresh i cc _ hi hcb with (⟨c', hc', hb'⟩ | x) | h
              · obtain ⟨j, hj⟩ := List.mem_iff_getElem?.1 hc'
                have := hbl j c' _ hj hb'; omega
              · omega
              · omega
            · rw [hR3.keeps.block _ (by omega) (by
                rintro (⟨cc, hcc, hcb⟩ | x)
                · obtain ⟨i, hi⟩ := List.mem_iff_getElem?.1 hcc
                  have := hbl i cc _ hi hcb; omega
                · omega)]
              exact hD1
          · obtain ⟨D, rfl, hND, hMD, hnD, hDc⟩ := hM.2 d hd
            have hDlt : D < w0.heap.size := (Array.getElem?_eq_some_iff.1 hDc).1
            refine ⟨D, rfl, hND, .inl hMD, fun x => ?_, (hk0.block D hDlt hnD).trans hDc⟩
            rcases hfp D x with h | h
            · exact hnD h
            · omega
        cases pd with
        | none => cases hpd; exact hQ a W3 ρ2 W3 (bsOf ρ2) Mx1 _ hRe hExt hMk
        | some ex =>
          cases hpd
          show (exCode e).wpIn Fence.wide nn P Q _ _
          have := hQ a W3 ρ2 W3 (bsOf ρ2) Mx1 _ hRe hExt hMk
          cases e with
          | normal => exact wpIn_skip this
          | exit id => exact wpIn_exit this
          | ret => exact wpIn_ret this
      cases ei with
      | exit _ => cases h2
      | normal =>
        dsimp only at h2
        cases hrv : resVal c.tt s1.fr s1.hp y.fn.results.toList with
        | none => rw [hrv] at h2; cases h2
        | some ov => rw [hrv] at h2; dsimp only at h2; exact fin ov hrv h2
      | ret =>
        dsimp only at h2
        cases hrv : resVal c.tt s1.fr s1.hp y.fn.results.toList with
        | none => rw [hrv] at h2; cases h2
        | some ov => rw [hrv] at h2; dsimp only at h2; exact fin ov hrv h2
theorem gcode_ok (c : Cfg) (y : Itr) (hT : TabOk P c.tt) (hS : SpecsOk P c.sg) (hm : P.follows .mixedOrders = true) (hh : ρ0.length = c.h0) (hy : P.funcs[y.gf]? = some y.fn) (hyn : (y.fn.name == "runtime.NumGoroutine") = false) {nn N : Nat} :
    ∀ (code : Code) {n : Nat} {s : St} {e : Ex} {s' : St} {ρ : List CObj} {a : Act} {w w0 : World} {FP Mx : Nat → Prop} {ds : List Deferred} {Q : Exit → Act → World → Prop}, gOk code = true → Rel c.tt w0 FP Mx ρ0 ρ s a w → N ≤ w0.heap.size → Marks N w0 FP Mx ds →
      gcodeO c y code n s = some (e, s') →
      (∀ a' w' ρ' w1 FP1 Mx1 ds', Rel c.tt w1 FP1 Mx1 ρ0 ρ' s' a' w' → Ext w0 FP Mx w1 FP1 Mx1 → Marks N w1 FP1 Mx1 ds' → Q (exOf e) (lft ds' a') w') → code.wpIn Fence.wide nn P Q (lft ds a) w
  | .skip, n, s, e, s', ρ, a, w, w0, FP, Mx, ds, Q, hk, hR, hN, hM, hs, hQ => by
    cases hs
    exact wpIn_skip (hQ _ _ _ _ _ _ _ hR (.refl _ _ _) hM)
  | .region id ops draw, n, s, e, s', ρ, a, w, w0, FP, Mx, ds, Q, hk, hR, hN, hM, hs, hQ =>
    acode_in c hT hS hm hh FWide.wide (T := noT) (.region id ops draw) hk hR (by unfold gcodeO at hs; exact hs) fun a' w' ⟨ρ', hg⟩ _ => hQ a' w' ρ' w0 FP Mx ds hg (.refl _ _ _) hM
  | .cond x t f, n, s, e, s', ρ, a, w, w0, FP, Mx, ds, Q, hk, hR, hN, hM, hs, hQ =>
    acode_in c hT hS hm hh FWide.wide (T := noT) (.cond x t f) hk hR (by unfold gcodeO at hs; exact hs) fun a' w' ⟨ρ', hg⟩ _ => hQ a' w' ρ' w0 FP Mx ds hg (.refl _ _ _) hM
  | .loop b, n, s, e, s', ρ, a, w, w0, FP, Mx, ds, Q, hk, hR, hN, hM, hs, hQ =>
    acode_in c hT hS hm hh FWide.wide (T := noT) (.loop b) hk hR (by unfold gcodeO at hs; exact hs) fun a' w' ⟨ρ', hg⟩ _ => hQ a' w' ρ' w0 FP Mx ds hg (.refl _ _ _) hM
  | .seq x z, n, s, e, s', ρ, a, w, w0, FP, Mx, ds, Q, hk, hR, hN, hM, hs, hQ => by
    have hk : gOk x = true ∧ gOk z = true := by simpa [gOk] using hk
    unfold gcodeO at hs
    simp only [gcode] at hs
    rw [gcode_cps c hS.cps y x] at hs
    obtain ⟨⟨e1, s1⟩, h1, h2⟩ := elim_some hs
    refine wpIn_seq (gcode_ok c y hT hS hm hh hy hyn x hk.1 hR hN hM h1 ?_)
    intro a1 w1 ρ1 wb FP1 Mx1 ds1 hr1 hX hM1
    cases e1 with
    | normal =>
      show z.wpIn Fence.wide nn P Q (lft ds1 a1) w1
      have : Goes c.tt wb FP1 Mx1 ρ0 (match keyOf x with | some i => maskAt c.tt c.h0 c.jm i s1 | none => s1) a1 w1 := by
        split
        · exact hr1.maskAt hh _ _
        · exact ⟨ρ1, hr1⟩
      obtain ⟨ρ2, hr2⟩ := this
      exact gcode_ok c y hT hS hm hh hy hyn z hk.2 hr2 (Nat.le_trans hN hX.keeps.size) hM1 h2 fun a' w' ρ' w2 FP2 Mx2 ds' hr hX2 hM2 => hQ a' w' ρ' w2 FP2 Mx2 ds' hr (hX.trans hX2) hM2
    | exit id => cases h2; exact hQ _ _ _ _ _ _ _ hr1 hX hM1
    | ret => cases h2; exact hQ _ _ _ _ _ _ _ hr1 hX hM1
  | .block id b, n, s, e, s', ρ, a, w, w0, FP, Mx, ds, Q, hk, hR, hN, hM, hs, hQ => by
    unfold gcodeO at hs
    simp only [gcode] at hs
    rw [gcode_cps c hS.cps y b] at hs
    obtain ⟨⟨e1, s1⟩, h1, h2⟩ := elim_some hs
    refine wpIn_block (gcode_ok c y hT hS hm hh hy hyn b hk hR hN hM h1 ?_)
    intro a1 w1 ρ1 wb FP1 Mx1 ds1 hr1 hX hM1
    cases e1 with
    | normal => cases h2; exact hQ _ _ _ _ _ _ _ hr1 hX hM1
    | exit j =>
      dsimp only at h2
      cases hj : Nat.beq j id with
      | true =>
        rw [hj, cond_true] at h2
        cases h2
        show (if j = id then _ else _)
        rw [if_pos (Nat.eq_of_beq_eq_true hj)]
        exact hQ _ _ _ _ _ _ _ hr1 hX hM1
      | false =>
        rw [hj, cond_false] at h2
        cases h2
        show (if j = id then _ else _)
        rw [if_neg (Nat.ne_of_beq_eq_false hj)]
        exact hQ _ _ _ _ _ _ _ hr1 hX hM1
    | ret => cases h2; exact hQ _ _ _ _ _ _ _ hr1 hX hM1
  | .rangeFunc g ps assign body, n, s, e, s', ρ, a, w, w0, FP, Mx, ds, Q, hk, hR, hN, hM, hs, hQ => by
    unfold gcodeO at hs
    simp only [gcode] at hs
    split at hs
    · rename_i f caps hg
      exact grange_ok c y hT hS hm hy hyn hg hR hN hM hs hQ
    · cases hs
  | .exit id, n, s, e, s', ρ, a, w, w0, FP, Mx, ds, Q, hk, hR, hN, hM, hs, hQ => by
    cases hs
    exact wpIn_exit (hQ _ _ _ _ _ _ _ hR (.refl _ _ _) hM)
  | .ret, n, s, e, s', ρ, a, w, w0, FP, Mx, ds, Q, hk, hR, hN, hM, hs, hQ => by
    cases hs
    exact wpIn_ret (hQ _ _ _ _ _ _ _ hR (.refl _ _ _) hM)
  | .scope _, n, s, e, s', ρ, a, w, w0, FP, Mx, ds, Q, hk, hR, hN, hM, hs, hQ => by cases hs
  | .label _, n, s, e, s', ρ, a, w, w0, FP, Mx, ds, Q, hk, hR, hN, hM, hs, hQ => by cases hs
  | .goto _, n, s, e, s', ρ, a, w, w0, FP, Mx, ds, Q, hk, hR, hN, hM, hs, hQ => by cases hs
end
end Go.Proofs.YtmkgmlgklggnlaaGm

/-! # What a function with a range over a function comes to. -/
namespace Go.Proofs.YtmkgmlgklggnlaaGm
def gfun (c : Cfg) (y : Itr) (fn : Func) (args : List AV) (hp : List AObj) : Res :=
  match fn.body with
  | some body => bif gOk body && Nat.ble args.length fn.ntmps then gcode Res.stuck c y body 0 ⟨padTo fn.ntmps args, hp⟩ (aend c.tt fn) else .stuck
  | none => .stuck
def gpure (c : Cfg) (y : Itr) (fn : Func) (args : List AV) : Option (AV × List AObj) := outR (gfun c y fn args [])
section
variable {P : Program}
theorem leaves_marks {F : Fence} {n : Nat} {fn : Func} {tmps : Array Value} {R : Ending → World → Prop} (I : World → Prop) (A : Nat → Prop) (hI : ∀ W D, A D → I W → I (W.putObj D (.deferred none))) (hend : ∀ W, I W → ∃ v, (results fn tmps).run P W = .ok v W ∧ R (.returned v) W) :
    ∀ (ds : List Deferred) (W : World), ds.Nodup → (∀ d ∈ ds, ∃ D, d = { target := .collected D, args := #[] } ∧ A D ∧ W.heap[D]? = some (.deferred (some []))) → I W → LeavesInM F n P fn tmps R ds .returning W
  | [], W, _, _, h => hend W h
  | d :: ds, W, hn, hd, h => by
    obtain ⟨D, rfl, hA, hc⟩ := hd d (by simp)
    have hn := List.nodup_cons.1 hn
    refine ⟨by simp, .inl ⟨D, _, rfl, run_takeDeferred hc, leaves_marks I A hI hend ds _ hn.2 (fun d' hd' => ?_) (hI W D hA h)⟩⟩
    obtain ⟨D', rfl, hA', hc'⟩ := hd d' (by simp [hd'])
    refine ⟨D', rfl, hA', ?_⟩
    rw [World.putObj_heap_other (by rintro rfl; exact hn.1 hd')]
    exact hc'
theorem gpure_calls (c : Cfg) (y : Itr) (hT : TabOk P c.tt) (hS : SpecsOk P c.sg) (hm : P.follows .mixedOrders = true) (hh : c.h0 = 0) (hy : P.funcs[y.gf]? = some y.fn) (hyn : (y.fn.name == "runtime.NumGoroutine") = false) {f : Nat} {fn : Func} (hf : P.funcs[f]? = some fn)
    {args : List AV} {r : AV} {objs : List AObj} (h1 : gpure c y fn args = some (r, objs)) {w : World} {M : Nat → Prop} {cargs : List Value} (hM : ∀ b, M b → b < w.heap.size) (hargs : RepL w M [] args cargs) :
    Calls P f cargs.toArray w fun e w' => ∃ v, e = .returned v ∧ Answers c.tt w w' M r objs v ∧ Grew w w' := by
  unfold gpure gfun at h1
  cases hb : fn.body with
  | none => rw [hb] at h1; cases h1
  | some body =>
  rw [hb] at h1
  dsimp only at h1
  cases hc1 : (gOk body && Nat.ble args.length fn.ntmps) with
  | false => rw [hc1, cond_false] at h1; cases h1
  | true =>
  rw [hc1, cond_true] at h1
  simp only [Bool.and_eq_true] at hc1
  obtain ⟨hg, hn⟩ := hc1
  have hn := Nat.le_of_ble_eq_true hn
  rw [gcode_cps c hS.cps y] at h1
  cases ho : gcodeO c y body 0 ⟨padTo fn.ntmps args, []⟩ with
  | none => rw [ho] at h1; cases h1
  | some x =>
  obtain ⟨e, s'⟩ := x
  rw [ho] at h1
  simp only [Option.elim] at h1
  have e0 : Mof M [] = M := by funext b; exact propext Mof_nil
  refine (callsIn_wide (n := 0)).1 (callsIn_of_wp_marks hf hb trivial ?_)
  have hpad := padTo_rep fn.ntmps hargs hn
  have hR0 : Rel c.tt w (fun _ => False) M [] [] ⟨padTo fn.ntmps args, []⟩ { tmps := cargs.toArray ++ Array.replicate (fn.ntmps - cargs.toArray.size) undef, defers := [] } w :=
    ⟨.none hM, by rw [e0]; simpa using hpad, rfl, .refl _ _, fun i c b h => by simp at h, fun _ _ h => h, Nat.le_refl _⟩
  have key := gcode_ok (ρ0 := []) c y hT hS hm (by simp [hh]) hy hyn (nn := 0) (N := w.heap.size) body (ds := []) (Q := bodyPostM Fence.wide 0 P fn fun e w' => ∃ v, e = .returned v ∧ Answers c.tt w w' M r objs v ∧ Grew w w') hg hR0 (Nat.le_refl _) ⟨List.nodup_nil, fun d h => by cases h⟩ ho ?_
  · rw [lft_nil] at key; exact key
  · intro a' w' ρ' w1 FP1 Mx1 ds' hR hX hMk
    have fin : ∀ v, resVal c.tt s'.fr s'.hp fn.results.toList = some v → outR (Res.ret v s'.hp) = some (r, objs) → LeavesInM Fence.wide 0 P fn a'.tmps (fun e w' => ∃ v, e = .returned v ∧ Answers c.tt w w' M r objs v ∧ Grew w w') ds' .returning w' := by
      intro v hv hx
      have hk0 := hX.keepsOf hR.keeps
      refine leaves_marks (I := fun W => Env c.tt W Mx1 ρ' s'.hp ∧ RepL W (Mof Mx1 ρ') ρ' s'.fr a'.tmps.toList ∧ Keeps w W fun _ => False) (A := fun D => w.heap.size ≤ D ∧ Mx1 D) ?_ ?_ ds' w' hMk.1 ?_ ⟨hR.env, hR.fr, hk0⟩
      · rintro W D ⟨hD, hMD⟩ ⟨hE, hfr, hk⟩
        refine ⟨⟨hE.len, fun i o cc hi hc => (hE.obj i o cc hi hc).later' (later_poke (.inl hMD)) (fun b hb => World.putObj_heap_other (by rintro rfl; exact hE.mx i cc _ hc hb hMD)) fun _ _ e => e, hE.sep, hE.mx, fun b hb => by simpa using hE.lt b hb⟩,
          hfr.later (later_poke (.inl hMD)) fun _ _ e => e, ⟨hk.os, hk.tape, hk.output, by simpa using hk.size, fun b hb hnn => ?_⟩⟩
        rw [World.putObj_heap_other (by omega)]
        exact hk.block b hb hnn
      · rintro W ⟨hE, hfr, hk⟩
        obtain ⟨u, h2, h3⟩ := resVal_rep (P := P) hT hE hfr hv
        refine ⟨u, h2, u, rfl, ?_, hk.grewOf⟩
        have hL : Later W (Mof Mx1 ρ') W (Mof M ρ') := ⟨Nat.le_refl _, fun _ _ _ => rfl, fun b _ x => x.imp (hX.mx b) id⟩
        have hE' : Env c.tt W M ρ' s'.hp := ⟨hE.len, fun i o cc hi hc => (hE.obj i o cc hi hc).later' hL (fun _ _ => rfl) fun _ _ e => e, hE.sep, fun i cc b hi hb x => hE.mx i cc b hi hb (hX.mx b x), fun b x => hE.lt b (hX.mx b x)⟩
        have hR1 : Rel c.tt w (fun _ => False) M [] ρ' ⟨[v], s'.hp⟩ { tmps := #[u], defers := [] } W :=
          ⟨hE', .cons (h3.later hL fun _ _ e => e) .nil, rfl, hk, fun i cc b hi hb => by
            rcases hR.fresh i cc b hi hb with h | h
            · rcases hX.fp b h with h | h
              · exact h.elim
              · exact .inr h
            · exact .inr (Nat.le_trans hX.keeps.size h), fun _ _ h => by simp at h, by simp⟩
        obtain ⟨ρ2, h4⟩ := hR1.gc (h0 := 0) rfl
        unfold outR at hx
        cases hx
        refine ⟨ρ2, h4.env, ?_, fun i c b hi hb => (h4.fresh i c b hi hb).resolve_left fun x => x⟩
        have := h4.fr.nth 0
        simpa using this
      · intro d hd
        obtain ⟨D, rfl, hND, hMD, hnD, hDc⟩ := hMk.2 d hd
        exact ⟨D, rfl, ⟨hND, hMD⟩, (hR.keeps.block D (Array.getElem?_eq_some_iff.1 hDc).1 hnD).trans hDc⟩
    have hdf : (lft ds' a').defers = ds' := by simp [lft, hR.defers]
    cases e with
    | normal =>
      show LeavesInM _ _ _ _ (lft ds' a').tmps _ (lft ds' a').defers _ _
      rw [hdf]
      simp only [aend] at h1
      split at h1
      · rename_i v hv; exact fin v hv h1
      · cases h1
    | ret =>
      show LeavesInM _ _ _ _ (lft ds' a').tmps _ (lft ds' a').defers _ _
      rw [hdf]
      simp only [aend] at h1
      split at h1
      · rename_i v hv; exact fin v hv h1
      · cases h1
    | exit id => cases h1
theorem gpureOk_of (c : Cfg) (y : Itr) (hT : TabOk P c.tt) (hS : SpecsOk P c.sg) (hm : P.follows .mixedOrders = true) (hh : c.h0 = 0) (hy : P.funcs[y.gf]? = some y.fn) (hyn : (y.fn.name == "runtime.NumGoroutine") = false) {f : Nat} {fn : Func} (hf : P.funcs[f]? = some fn)
    (hname : (fn.name == "runtime.NumGoroutine") = false) (hbody : fn.body.isNone = false) {go : Ans} (hcps : PureCps go)
    (h : ∀ (args : List AV) (r : AV) (objs : List AObj), go (Option (AV × List AObj)) none args (fun r o => some (r, o)) = some (r, objs) → Real args → ∃ x, gpure c y fn args = some x ∧ Weak c.tt x (r, objs)) : PureOk P f go where
  cps := hcps
  calls := by
    intro args r objs hr w M cargs hM hargs
    obtain ⟨x, h1, h2⟩ := h args r objs hr ⟨w, M, cargs, hargs⟩
    refine .inl ⟨fn, hf, hname, hbody, (gpure_calls c y hT hS hm hh hy hyn hf h1 hM hargs).mono ?_⟩
    rintro e w' ⟨v, rfl, ha, hg⟩
    obtain ⟨ρr, hE, hv, hfr⟩ := h2.rep hg ha
    exact ⟨v, ρr, c.tt, rfl, hE, hv, hg, hfr⟩
end
end Go.Proofs.YtmkgmlgklggnlaaGm

/-! # The loops of an iterator, as functions of their own: for the printing of equations. -/
namespace Go.Proofs.YtmkgmlgklggnlaaGm
section
variable (c : Cfg) (y : Itr)
/-- The range over a function in a function's code, and what follows behind it. -/
def grest : Code → Nat → (Ex → St → Res) → Option (List Nat × Code × Code × (Ex → St → Res))
  | .rangeFunc _ ps assign body, _, k => some (ps.toList, assign, body, k)
  | .seq a b, n, k => (match grest a n (fun e s' =>
      match e with
      | .normal => gcode Res.stuck c y b n (match keyOf a with | some i => maskAt c.tt c.h0 c.jm i s' | none => s') k
      | e => k e s') with
    | some r => some r
    | none => grest b n k)
  | .block id b, _, k => grest b id fun e s' =>
      match e with
      | .exit j => bif Nat.beq j id then k .normal s' else k (.exit j) s'
      | e => k e s'
  | _, _, _ => none
/-- The round of the loop in block 'id' of an iterator's code, with what follows behind it. -/
def yloopIn (ic : Cfg) (H : List AV → List AObj → (Option Ex → List AObj → Res) → Res) (hp1 : List AObj) (id : Nat) : Code → Nat → (Ex → Option Ex → St → Res) → Option (St → (St → Res) → Res)
  | .seq a b, n, k => (match yloopIn ic H hp1 id a n (fun e pd' s' =>
      match e with
      | .normal => ycode Res.stuck ic H hp1 b n pd' (match keyOf a with | some i => maskAt ic.tt ic.h0 ic.jm i s' | none => s') k
      | e => k e pd' s') with
    | some f => some f
    | none => yloopIn ic H hp1 id b n k)
  | .cond _ a b, n, k => (match yloopIn ic H hp1 id a n k with
    | some f => some f
    | none => yloopIn ic H hp1 id b n k)
  | .block j b, _, k => yloopIn ic H hp1 id b j fun e pd' s' =>
      match e with
      | .exit i => bif Nat.beq i j then k .normal pd' s' else k (.exit i) pd' s'
      | e => k e pd' s'
  | .loop b, n, k => bif Nat.beq n id then some (fun s kn => ycode Res.stuck ic H hp1 b n none s fun e pd' s' =>
      match e, pd' with
      | .normal, none => kn s'
      | .normal, some _ => .stuck
      | e, pd' => k e pd' s') else none
  | _, _, _ => none
/-- The function from the head of its iterator's loop on, 'k' rounds left; 's0': the function's own state where the range began. -/
def gloop (fn : Func) (s0 : St) (id : Nat) (k : Nat) (s : St) : Res :=
  match fn.body, y.fn.body with
  | some body, some icode => (match grest c y body 0 (aend c.tt fn) with
    | some (ps, assign, bd, kont) =>
      (match yloopIn ⟨c.tt, c.sg, c.F, y.lm, y.jm, s0.hp.length⟩ (hround Res.stuck ⟨c.tt, c.sg, c.F, y.lmb, y.jmb, s0.hp.length⟩ (stabL s0.hp s0.fr) ps assign bd) s0.hp id icode 0 (fun e pd s1 =>
          match e with
          | .exit _ => .stuck
          | _ => (match resVal c.tt s1.fr s1.hp y.fn.results.toList with
            | none => .stuck
            | some _ => (match pd with
              | none => kont .normal ⟨stabL s0.hp s0.fr, s1.hp⟩
              | some e => kont e ⟨stabL s0.hp s0.fr, s1.hp⟩))) with
      | some f => aiter Res.stuck k f (maskAt c.tt s0.hp.length y.lm id) s
      | none => .stuck)
    | none => .stuck)
  | _, _ => .stuck
end
end Go.Proofs.YtmkgmlgklggnlaaGm
