/- A part of a reader of loaded code that is proved sound; no condition. -/
import Derived.Test.YtcmhpngmjjcloaaGmC
namespace Go.Proofs.YtcmhpngmjjcloaaGm

section
variable {R : Type} (stk : R) {tt : Tab} {hp : List AObj}

theorem elim_cond {α : Type} (c : Bool) (x y : Option α) (k : α → R) : (bif c then x else y).elim stk k = bif c then x.elim stk k else y.elim stk k := by cases c <;> rfl

theorem eqlIs_cps (op : BinOp) (b : Bool) (k : AV → R) : eqlIs stk op b k = (eqlIs (R := Option AV) none op b some).elim stk k := by
  cases op <;> rfl

theorem abin_cps (t : Nat) (op : BinOp) (x y : AV) (k : AV → R) : abin stk tt t op x y k = (abin (R := Option AV) none tt t op x y some).elim stk k := by
  unfold abin
  split
  all_goals first
    | (cases op <;> first | rfl | (simp only [elim_cond]; rfl))
    | (simp only [elim_cond]; rw [eqlIs_cps]; rfl)
    | rfl

theorem aun_cps (op : UnOp) (x : AV) (k : AV → R) : aun stk op x k = (aun (R := Option AV) none op x some).elim stk k := by
  unfold aun; split <;> rfl

theorem aconv_cps (s d : Nat) (x : AV) (k : AV → R) : aconv stk tt hp s d x k = (aconv (R := Option AV) none tt hp s d x some).elim stk k := by
  unfold aconv
  split
  · split
    · rfl
    · rfl
    · split <;> rfl
    · split <;> rfl
    · rfl
  · rfl

theorem eta1_cps (t : Nat) (v : AV) (k : AV → R) : eta1 stk tt t v k = (eta1 (R := Option AV) none tt t v some).elim stk k := by
  unfold eta1
  split
  · split <;> first | rfl | (simp only [elim_cond]; rfl)
  · rfl

theorem etaL_cps {R : Type} (stk : R) (ls : List AV) : ∀ (ts : List Nat) (i : Nat) (k : List AV → R), etaL stk tt ls ts i k = (etaL (R := Option (List AV)) none tt ls ts i some).elim stk k
  | [], i, k => rfl
  | t :: ts, i, k => by
    simp only [etaL]
    have e1 := eta1_cps (tt := tt) stk t (nth ls i) fun v => etaL stk tt ls ts (i + 1) fun vs => k (v :: vs)
    have e2 := eta1_cps (tt := tt) (R := Option (List AV)) none t (nth ls i) fun v => etaL none tt ls ts (i + 1) fun vs => some (v :: vs)
    rw [e1, e2]
    cases eta1 (R := Option AV) none tt t (nth ls i) some with
    | none => rfl
    | some v =>
      have f1 := etaL_cps stk ls ts (i + 1) fun vs => k (v :: vs)
      have f2 := etaL_cps (R := Option (List AV)) none ls ts (i + 1) fun vs => some (v :: vs)
      simp only [Option.elim]
      rw [f1, f2]
      cases etaL (R := Option (List AV)) none tt ls ts (i + 1) some <;> rfl

theorem aindexAddr_cps (t : Nat) (x i : AV) (k : AV → R) : aindexAddr stk tt hp t x i k = (aindexAddr (R := Option AV) none tt hp t x i some).elim stk k := by
  unfold aindexAddr
  split
  · split
    · simp only [elim_cond]; rfl
    · split
      · simp only [elim_cond]; rfl
      · rfl
    · split
      · simp only [elim_cond]; rfl
      · rfl
    · split
      · simp only [elim_cond]; rfl
      · rfl
    · rfl
  · rfl

theorem aindex_cps (t : Nat) (x i : AV) (k : AV → R) : aindex stk tt t x i k = (aindex (R := Option AV) none tt t x i some).elim stk k := by
  unfold aindex
  split
  · split
    · simp only [elim_cond]; rfl
    · split
      · simp only [elim_cond]; rw [eta1_cps]; rfl
      · rfl
    · rfl
  · rfl

theorem notTop_cps (v : AV) (k : AV → R) : notTop stk v k = (notTop (R := Option AV) none v some).elim stk k := by
  unfold notTop; split <;> rfl

theorem ldVar_cps (t : Nat) (cs : List AV) (off : Nat) (k : AV → R) : ldVar stk tt t cs off k = (ldVar (R := Option AV) none tt t cs off some).elim stk k := by
  unfold ldVar
  split
  · split
    · simp only [elim_cond]; rfl
    · simp only [elim_cond]; rfl
    · exact eta1_cps ..
    · exact eta1_cps ..
    · exact eta1_cps ..
    · rfl
    · exact notTop_cps ..
  · rfl

theorem ldPay_cps (t : Nat) (p : Pay AV) (i off : Nat) (k : AV → R) : ldPay stk tt t p i off k = (ldPay (R := Option AV) none tt t p i off some).elim stk k := by
  unfold ldPay
  split
  · rw [elim_cond]
    congr 1
    split
    · rw [etaL_cps stk, etaL_cps (R := Option AV) none]
      cases etaL (R := Option (List AV)) none tt _ _ 0 some <;> rfl
    · simp only [elim_cond]; rfl
    · rfl
    · split
      · exact eta1_cps ..
      · rfl
  · rfl

theorem aload_cps (t : Nat) (a : AV) (k : AV → R) : aload stk tt hp t a k = (aload (R := Option AV) none tt hp t a some).elim stk k := by
  unfold aload
  split
  · split
    · exact ldVar_cps ..
    · rfl
  · exact ldPay_cps ..
  · split
    · exact ldPay_cps ..
    · rfl
  · rfl

theorem afieldAddr_cps (s f : Nat) (x : AV) (k : AV → R) : afieldAddr stk tt s f x k = (afieldAddr (R := Option AV) none tt s f x some).elim stk k := by
  unfold afieldAddr
  split
  · split
    · rw [elim_cond]; congr 1; split <;> rfl
    · rfl
  · rfl

theorem afield_cps (s f : Nat) (x : AV) (k : AV → R) : afield stk tt s f x k = (afield (R := Option AV) none tt s f x some).elim stk k := by
  unfold afield
  split
  · split
    · split
      · rfl
      · simp only [elim_cond]; rfl
      · exact notTop_cps ..
    · rfl
  · rfl

theorem aslice_cps (t : Nat) (x : AV) (lo hi : Option AV) (k : AV → R) : aslice stk tt hp t x lo hi k = (aslice (R := Option AV) none tt hp t x lo hi some).elim stk k := by
  unfold aslice
  split
  · split
    · split
      · simp only [elim_cond]; rfl
      · rfl
    · split
      · simp only [elim_cond]; rfl
      · rfl
    · split
      · split
        · simp only [elim_cond]; rfl
        · rfl
      · rfl
    · split
      · split
        · simp only [elim_cond]; rfl
        · rfl
      · rfl
    · split
      · simp only [elim_cond]; rfl
      · rfl
    · rfl
  · rfl

theorem alen_cps (t : Nat) (x : AV) (k : AV → R) : alen stk tt hp t x k = (alen (R := Option AV) none tt hp t x some).elim stk k := by
  unfold alen
  split
  · split
    · rfl
    · split <;> rfl
    · simp only [elim_cond]; rfl
    · rfl
  · rfl

theorem amin2_cps (x y : AV) (k : AV → R) : amin2 stk x y k = (amin2 (R := Option AV) none x y some).elim stk k := by
  unfold amin2; split
  · simp only [elim_cond]; rfl
  · rfl
theorem amax2_cps (x y : AV) (k : AV → R) : amax2 stk x y k = (amax2 (R := Option AV) none x y some).elim stk k := by
  unfold amax2; split
  · simp only [elim_cond]; rfl
  · rfl

theorem afoldm_min_cps : ∀ (l : List AV) (x : AV) (k : AV → R), afoldm (amin2 stk) x l k = (afoldm (amin2 (R := Option AV) none) x l some).elim stk k
  | [], _, _ => rfl
  | y :: l, x, k => by
    simp only [afoldm]
    have e1 := amin2_cps stk x y fun z => afoldm (amin2 stk) z l k
    have e2 := amin2_cps (R := Option AV) none x y fun z => afoldm (amin2 none) z l some
    rw [e1, e2]
    cases amin2 (R := Option AV) none x y some with
    | none => rfl
    | some v => exact afoldm_min_cps l v k
theorem afoldm_max_cps : ∀ (l : List AV) (x : AV) (k : AV → R), afoldm (amax2 stk) x l k = (afoldm (amax2 (R := Option AV) none) x l some).elim stk k
  | [], _, _ => rfl
  | y :: l, x, k => by
    simp only [afoldm]
    have e1 := amax2_cps stk x y fun z => afoldm (amax2 stk) z l k
    have e2 := amax2_cps (R := Option AV) none x y fun z => afoldm (amax2 none) z l some
    rw [e1, e2]
    cases amax2 (R := Option AV) none x y some with
    | none => rfl
    | some v => exact afoldm_max_cps l v k

theorem apick_cps (c a b : AV) (k : AV → R) : apick stk c a b k = (apick (R := Option AV) none c a b some).elim stk k := by
  unfold apick; split
  · simp only [elim_cond]; rfl
  · rfl

theorem abuild_cps (t : Nat) (parts : List (Nat × AV)) (k : AV → R) : abuild stk tt t parts k = (abuild (R := Option AV) none tt t parts some).elim stk k := by
  unfold abuild
  split
  · split
    · rw [elim_cond]; congr 1
      split <;> rfl
    · rw [elim_cond]; congr 1
      split
      · simp only [elim_cond]; rfl
      · rfl
    · rfl
  · rfl

theorem rop_cps (ev : Operand → AV) (op : Op) (k : AV → R) : rop stk tt hp ev op k = (rop (R := Option AV) none tt hp ev op some).elim stk k := by
  unfold rop
  split
  · rfl
  · rfl
  · exact apick_cps ..
  · split <;> rfl
  · exact abin_cps ..
  · exact aun_cps ..
  · exact aconv_cps ..
  · split <;> rfl
  · exact aslice_cps ..
  · exact afieldAddr_cps ..
  · exact afield_cps ..
  · exact aindexAddr_cps ..
  · exact aindex_cps ..
  · exact aload_cps ..
  · split
    · simp only [elim_cond]; rfl
    · rfl
  · exact abuild_cps ..
  · split
    · split
      · exact alen_cps ..
      · rfl
    · split
      · exact afoldm_min_cps ..
      · rfl
    · split
      · exact afoldm_max_cps ..
      · rfl
    · rfl
  · rfl
end

/-- A function that is called answers in one way, whatever follows. -/
def PureCps (go : Ans) : Prop := ∀ (R : Type) (stk : R) (args : List AV) (k : AV → List AObj → R), go R stk args k = (go (Option (AV × List AObj)) none args fun r o => some (r, o)).elim stk fun x => k x.1 x.2

def SpecsCps (sg : List (Nat × Spec)) : Prop := ∀ f s, sget sg f = some s → match s with
  | .pure go => PureCps go
  | .eff _ _ => True

section
variable {R : Type} (stk : R) {tt : Tab} {hp : List AObj}

theorem PureCps.lent {go : Ans} (h : PureCps go) : PureCps (lentGo go) := by
  intro R stk args k
  have e1 := h R stk args fun r objs => k (mapv (lendL (ownIn 3 r) objs) 3 r) []
  have e2 := h (Option (AV × List AObj)) none args fun r objs => some (mapv (lendL (ownIn 3 r) objs) 3 r, [])
  unfold lentGo
  refine e1.trans ?_
  show _ = (go (Option (AV × List AObj)) none args fun r objs => some (mapv (lendL (ownIn 3 r) objs) 3 r, [])).elim stk fun x => k x.1 x.2
  rw [e2]
  cases go (Option (AV × List AObj)) none args (fun r o => some (r, o)) <;> rfl

theorem callPure_cps {go : Ans} (hg : PureCps go) (args : List AV) (k : AV → List AObj → List Nat → R) :
    callPure stk tt hp go args k = (callPure (R := Option (AV × List AObj × List Nat)) none tt hp go args fun r o l => some (r, o, l)).elim stk fun x => k x.1 x.2.1 x.2.2 := by
  unfold callPure
  rw [hg R, hg (Option (AV × List AObj × List Nat))]
  cases go (Option (AV × List AObj)) none (args.map (mapv (lendL (args.flatMap (ownIn 3)) hp) 3)) (fun r o => some (r, o)) with
  | none => rfl
  | some x =>
    simp only [Option.elim]
    cases x.2.all (objFits tt) <;> rfl

theorem aappend_cps (t : Nat) (d : Option Nat) (b x : AV) (s : St) (k : St → R) : aappend stk tt t d b x s k = (aappend (R := Option St) none tt t d b x s some).elim stk k := by
  unfold aappend
  split
  · split
    · split
      · split
        · split
          · simp only [elim_cond]; rfl
          · rfl
        · split
          · split
            · simp only [elim_cond]; rfl
            · rfl
          · rfl
        · rfl
      · rfl
    · rfl
  · rfl

theorem rop_put_cps (ev : Operand → AV) (op : Op) (f : AV → St) (k : St → R) :
    (rop stk tt hp ev op fun v => k (f v)) = (rop (R := Option St) none tt hp ev op fun v => some (f v)).elim stk k := by
  rw [rop_cps, rop_cps (R := Option St)]
  cases rop (R := Option AV) none tt hp ev op some <;> rfl

theorem astep_cps (c : Cfg) (hs : SpecsCps c.sg) (o : Oper) (s : St) (k : St → R) : astep stk c o s k = (astep (R := Option St) none c o s some).elim stk k := by
  unfold astep
  split
  · split
    · simp only [elim_cond]; rfl
    · rfl
  · split
    · simp only [elim_cond]; rfl
    · rfl
  · split
    · split
      · dsimp only
        split
        · simp only [elim_cond]; rfl
        · rfl
      · rfl
    · rfl
  · split
    · split
      · simp only [elim_cond]; rfl
      · rfl
    · rfl
  · split
    · dsimp only
      rw [elim_cond]; congr 1
      split
      · split
        · simp only [elim_cond]; rfl
        · rfl
      · split
        · rw [elim_cond]; congr 1
          split <;> rfl
        · rfl
      · rfl
    · rfl
  · split
    · split
      · rw [elim_cond]; congr 1
        exact aappend_cps ..
      · rfl
    · split
      · split
        · rename_i hsg
          have := hs _ _ hsg
          rw [callPure_cps _ this, callPure_cps (R := Option St) _ this]
          cases callPure (R := Option (AV × List AObj × List Nat)) none _ _ _ _ _ <;> rfl
        · rfl
      · rfl
    · exact rop_put_cps ..
  · exact rop_put_cps ..

theorem aops_cps (c : Cfg) (hs : SpecsCps c.sg) (all : List Oper) : ∀ (l : List Oper) (s : St) (k : St → R), aops stk c all l s k = (aops (R := Option St) none c all l s some).elim stk k
  | [], _, _ => rfl
  | o :: r, s, k => by
    have step : ∀ s : St, (astep stk c o s fun s' => aops stk c all r s' k) = (astep (R := Option St) none c o s fun s' => aops (R := Option St) none c all r s' some).elim stk k := by
      intro s
      have e1 := astep_cps stk c hs o s fun s' => aops stk c all r s' k
      have e2 := astep_cps (R := Option St) none c hs o s fun s' => aops (R := Option St) none c all r s' some
      rw [e1, e2]
      cases astep (R := Option St) none c o s some with
      | none => rfl
      | some s' => exact aops_cps c hs all r s' k
    unfold aops
    split
    · exact step s
    · split
      · split
        · rw [elim_cond]
          congr 1
          · split
            · exact step _
            · exact aops_cps c hs all r _ k
          · split
            · exact aops_cps c hs all r _ k
            · exact step _
        · exact aops_cps c hs all r _ k
        · rfl
      · rfl

theorem qstep_cps (c : Cfg) (hs : SpecsCps c.sg) (ev : Operand → AV) (op : Op) (k : AV → R) : qstep stk c hp ev op k = (qstep (R := Option AV) none c hp ev op some).elim stk k := by
  unfold qstep
  split
  · split
    · split
      · split
        · rename_i hsg
          have := hs _ _ hsg
          rw [callPure_cps _ this.lent, callPure_cps (R := Option AV) _ this.lent]
          cases callPure (R := Option (AV × List AObj × List Nat)) none _ _ _ _ _ with
          | none => rfl
          | some x =>
            obtain ⟨r, o, l⟩ := x
            cases o <;> cases l <;> rfl
        · rfl
      · rfl
    · exact rop_cps ..
  · exact rop_cps ..

theorem aopsQ_cps (c : Cfg) (hs : SpecsCps c.sg) (all : List Oper) : ∀ (l : List Oper) (s : St) (k : St → R), aopsQ stk c all l s k = (aopsQ (R := Option St) none c all l s some).elim stk k
  | [], _, _ => rfl
  | o :: r, s, k => by
    have step : ∀ s : St, (qstep stk c s.hp (aval s.fr) o.op fun v => aopsQ stk c all r (s.put o.dst v) k) = (qstep (R := Option St) none c s.hp (aval s.fr) o.op fun v => aopsQ (R := Option St) none c all r (s.put o.dst v) some).elim stk k := by
      intro s
      have e1 := qstep_cps stk (hp := s.hp) c hs (aval s.fr) o.op fun v => aopsQ stk c all r (s.put o.dst v) k
      have e2 := qstep_cps (R := Option St) none (hp := s.hp) c hs (aval s.fr) o.op fun v => aopsQ (R := Option St) none c all r (s.put o.dst v) some
      rw [e1, e2]
      cases qstep (R := Option AV) none c s.hp (aval s.fr) o.op some with
      | none => rfl
      | some v => exact aopsQ_cps c hs all r _ k
    unfold aopsQ
    split
    · exact step s
    · split
      · split
        · rw [elim_cond]
          congr 1
          · split
            · exact step ⟨_, s.hp⟩
            · exact aopsQ_cps c hs all r _ k
          · split
            · exact aopsQ_cps c hs all r _ k
            · exact step ⟨_, s.hp⟩
        · exact aopsQ_cps c hs all r _ k
        · rfl
      · rfl

/-- A loop's rounds: what each state comes to without what follows. -/
theorem aiter_cps (n : Nat) (m : St → St) {g : St → Option (Ex × St)} {f : St → (St → R) → R} {f' : St → (St → Option (Ex × St)) → Option (Ex × St)} (k : Ex → St → R)
    (hf : ∀ s kn, f s kn = (g s).elim stk fun x => match x.1 with | .normal => kn x.2 | e => k e x.2)
    (hf' : ∀ s kn, f' s kn = (g s).elim none fun x => match x.1 with | .normal => kn x.2 | e => some (e, x.2)) (s : St) :
    aiter stk n f m s = (aiter (R := Option (Ex × St)) none n f' m s).elim stk fun x => k x.1 x.2 := by
  induction n generalizing s with
  | zero => rfl
  | succ n ih =>
    show f s (fun s' => aiter stk n f m (m s')) = (f' s (fun s' => aiter (R := Option (Ex × St)) none n f' m (m s'))).elim stk fun x => k x.1 x.2
    rw [hf, hf']
    cases g s with
    | none => rfl
    | some x =>
      obtain ⟨e, s'⟩ := x
      cases e with
      | normal => exact ih (m s')
      | exit id => rfl
      | ret => rfl

/-- What code comes to. -/
def acodeO (c : Cfg) (code : Code) (n : Nat) (s : St) : Option (Ex × St) := acode (R := Option (Ex × St)) none c code n s fun e s => some (e, s)

theorem acode_cps (c : Cfg) (hs : SpecsCps c.sg) : ∀ (code : Code) {R : Type} (stk : R) (n : Nat) (s : St) (k : Ex → St → R),
    acode stk c code n s k = (acodeO c code n s).elim stk fun x => k x.1 x.2
  | .skip, _, _, _, _, _ => rfl
  | .region id ops draw, R, stk, n, s, k => by
    simp only [acode, acodeO]
    rw [elim_cond]; congr 1
    · rw [elim_cond]; congr 1
      rw [aopsQ_cps stk c hs, aopsQ_cps (R := Option (Ex × St)) none c hs]
      cases aopsQ (R := Option St) none c ops.toList ops.toList s some <;> rfl
    · rw [aops_cps stk c hs, aops_cps (R := Option (Ex × St)) none c hs]
      cases aops (R := Option St) none c ops.toList ops.toList s some <;> rfl
  | .seq a b, R, stk, n, s, k => by
    simp only [acode, acodeO]
    rw [acode_cps c hs a, acode_cps c hs a]
    cases acodeO c a n s with
    | none => rfl
    | some x =>
      obtain ⟨e, s'⟩ := x
      cases e with
      | normal => exact acode_cps c hs b stk n _ k
      | exit id => rfl
      | ret => rfl
  | .cond x a b, R, stk, n, s, k => by
    simp only [acode, acodeO]
    split
    · rw [elim_cond]; congr 1
      · exact acode_cps c hs a stk n _ k
      · exact acode_cps c hs b stk n _ k
    · rfl
  | .block id b, R, stk, n, s, k => by
    simp only [acode, acodeO]
    rw [acode_cps c hs b, acode_cps c hs b]
    cases acodeO c b id s with
    | none => rfl
    | some x =>
      obtain ⟨e, s'⟩ := x
      cases e with
      | normal => rfl
      | exit j => dsimp only [Option.elim]; cases Nat.beq j id <;> rfl
      | ret => rfl
  | .loop b, R, stk, n, s, k => by
    simp only [acode, acodeO]
    exact aiter_cps stk c.F _ (g := fun s => acodeO c b n s) k (fun s kn => acode_cps c hs b stk n s _) (fun s kn => acode_cps c hs b none n s _) _
  | .scope b, R, stk, n, s, k => by
    simp only [acode, acodeO]
    exact acode_cps c hs b stk n s k
  | .exit id, _, _, _, _, _ => rfl
  | .ret, _, _, _, _, _ => rfl
  | .rangeFunc .., _, _, _, _, _ => rfl
  | .label _, _, _, _, _, _ => rfl
  | .goto _, _, _, _, _, _ => rfl
  | .refuse _, _, _, _, _, _ => rfl
end
end Go.Proofs.YtcmhpngmjjcloaaGm
