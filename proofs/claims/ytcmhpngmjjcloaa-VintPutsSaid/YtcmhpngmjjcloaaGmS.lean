/- A part of a reader of loaded code that is proved sound; no condition. -/
import Derived.Test.YtcmhpngmjjcloaaGmR
namespace Go.Proofs.YtcmhpngmjjcloaaGm

section
variable {P : Program} {tt : Tab} {w w' w0 : World} {FP Mx M M' : Nat → Prop} {ρ ρ0 ρ' : List CObj} {hp : List AObj} {s : St} {a : Act}

theorem StepOk.ofValue {o : Oper} {s' : St} {e : Sem Value} (h : ∃ u w', e.run P w = .ok u w' ∧ Goes tt w0 FP Mx ρ0 s' (a.put o.dst u) w')
    (he : (execOp a.eval o).run P w = (do pure (Next.value (← e)) : Sem Next).run P w) : StepOk P tt w0 FP Mx ρ0 o a w s' := by
  obtain ⟨u, w', h1, h2⟩ := h
  exact .value (by rw [he, run_value h1]) h2

theorem StepOk.ofUnit {o : Oper} {s' : St} {e : Sem Unit} (h : ∃ w', e.run P w = .ok () w' ∧ Goes tt w0 FP Mx ρ0 s' (a.put o.dst undef) w')
    (he : (execOp a.eval o).run P w = (do e; pure Next.skip : Sem Next).run P w) : StepOk P tt w0 FP Mx ρ0 o a w s' := by
  obtain ⟨w', h1, h2⟩ := h
  exact .skip (by rw [he]; simp [h1]) h2

theorem rop_stepOk (hT : TabOk P tt) (h : Rel tt w0 FP Mx ρ0 ρ s a w) (o : Oper) {s' : St}
    (hs : (rop (R := Option St) none tt s.hp (aval s.fr) o.op fun v => some (s.put o.dst v)) = some s') : StepOk P tt w0 FP Mx ρ0 o a w s' := by
  obtain ⟨u, w', h1, h2⟩ := rop_step hT h o hs
  exact .value h1 h2

/-- ONE OPERATION. -/
theorem astep_sound (c : Cfg) (hT : TabOk P c.tt) (hS : SpecsOk P c.sg) (h : Rel c.tt w0 FP Mx ρ0 ρ s a w) (o : Oper) {s' : St} (hs : astep (R := Option St) none c o s some = some s') :
    StepOk P c.tt w0 FP Mx ρ0 o a w s' := by
  unfold astep at hs
  split at hs
  · rename_i T ho
    split at hs
    · rename_i e he
      cases hz : leavesOk e.zero <;> simp only [hz, cond_true, cond_false] at hs <;> cases hs
      exact .ofValue (alloc_step hT h he hz o.dst) (by simp only [execOp, ho])
    · cases hs
  · rename_i T x ho
    split at hs
    · rename_i e he
      cases hb : (leavesOk (aval s.fr x) && Nat.beq (leavesOf (aval s.fr x)).length e.size) <;> simp only [hb, cond_true, cond_false] at hs <;> cases hs
      simp only [Bool.and_eq_true] at hb
      exact .ofValue (box_step h (aval_rep h.fr x) hb.1 o.dst) (by simp only [execOp, ho])
    · cases hs
  · rename_i t len parts ho
    split at hs
    · rename_i E sz1 by1 zv1 lf1 ht
      split at hs
      · rename_i e he
        dsimp only at hs
        split at hs
        · rename_i p hset
          cases hb : (zeroOk c.tt E && Nat.ble (len * e.size) 16777216) <;> simp only [hb, cond_true, cond_false] at hs <;> cases hs
          simp only [Bool.and_eq_true] at hb
          refine .ofValue (buildSlice_step (pv := parts.map fun x => (x.1, a.eval x.2)) hT h ht rfl he ?_ hset hb.1 (Nat.le_of_ble_eq_true hb.2) o.dst) (by simp only [execOp, ho])
          have := repP_map h.fr parts.toList
          simpa using this
        · cases hs
      · cases hs
    · cases hs
  · rename_i t l m ho
    split at hs
    · rename_i E sz1 by1 zv1 lf1 kl l' km m' ht hl hm
      split at hs
      · rename_i e he
        cases hb : (zeroOk c.tt E && leI 0 l' && leI l' m' && leI (m' * e.bytes) 140737488355328 && Nat.blt 0 e.bytes) <;> simp only [hb, cond_true, cond_false] at hs <;> cases hs
        simp only [Bool.and_eq_true] at hb
        obtain ⟨⟨⟨⟨b1, b2⟩, b3⟩, b4⟩, b5⟩ := hb
        have r1 := aval_rep h.fr l
        have r2 := aval_rep h.fr m
        rw [hl] at r1
        rw [hm] at r2
        generalize e1 : a.eval l = v1 at r1
        generalize e2 : a.eval m = v2 at r2
        cases r1 with | int =>
        cases r2 with | int =>
        have b5' : 0 < e.bytes := by simp [Nat.blt] at b5; omega
        exact .ofValue (makeSlice_step (kl := kl) (km := km) hT h ht rfl he b1 (leI_spec b2) (leI_spec b3) (leI_spec b4) b5' o.dst) (by simp only [execOp, ho, e1, e2])
      · cases hs
    · cases hs
  · rename_i t x v ho
    split at hs
    · rename_i e he
      dsimp only at hs
      cases hb : (leavesOk (aval s.fr v) && Nat.beq (leavesOf (aval s.fr v)).length e.size) <;> simp only [hb, cond_true, cond_false] at hs
      · cases hs
      simp only [Bool.and_eq_true] at hb
      have rx := aval_rep h.fr x
      split at hs
      · rename_i b off hx
        rw [hx] at rx
        split at hs
        · rename_i T cs hob
          cases hle : Nat.ble (off + e.size) cs.length <;> simp only [hle, cond_true, cond_false] at hs <;> cases hs
          exact .ofUnit (storeVar_step hT h he (aval_rep h.fr v) hb.1 (Nat.eq_of_beq_eq_true hb.2) hob (Nat.le_of_ble_eq_true hle) rx o.dst) (by simp only [execOp, ho])
        · cases hs
      · rename_i b i off hx
        rw [hx] at rx
        split at hs
        · rename_i E p hob
          cases hc : (rowPure c.tt s.hp e.leaf (aval s.fr v) && Nat.blt i p.len && Nat.ble (off + e.size) p.sz && Nat.beq (rowOf c.tt s.hp e.leaf (aval s.fr v)).length e.size && !(memN (leafOwn (aval s.fr v)) b)) <;> simp only [hc, cond_true, cond_false] at hs
          · cases hs
          simp only [Bool.and_eq_true] at hc
          obtain ⟨⟨⟨⟨c1, c2⟩, c3⟩, c4⟩, c5⟩ := hc
          split at hs
          · rename_i p' hset
            cases hs
            exact .ofUnit (storeArr_step hT h he (aval_rep h.fr v) hb.1 hob rx c1 (by simp [Nat.blt] at c2; omega) (Nat.le_of_ble_eq_true c3) (Nat.eq_of_beq_eq_true c4) (by simpa using c5) hset o.dst) (by simp only [execOp, ho])
          · cases hs
        · cases hs
      · cases hs
    · cases hs
  · rename_i cl ho
    split at hs
    · rename_i hcal
      split at hs
      · rename_i b x t tx hargs hty
        cases htx : isTy c.tt tx isSrcTy <;> simp only [htx, cond_true, cond_false] at hs
        · cases hs
        refine .ofValue (append_step (ty := o.type) hT h (aval_rep h.fr b) (aval_rep h.fr x) htx hs) ?_
        have e1 : cl.args = #[b, x] := by cases hc : cl.args; simp_all
        have e2 : cl.argTypes = #[t, tx] := by cases hc : cl.argTypes; simp_all
        simp [execOp, ho, resolve, hcal, invoke, builtin, e1, e2]
      · cases hs
    · rename_i f hcal
      split at hs
      · rename_i f' caps ht
        split at hs
        · rename_i go hsg
          exact callv_step h o ho hcal ht (hS _ _ hsg) hs
        · cases hs
      · cases hs
    · exact rop_stepOk hT h o hs
  · exact rop_stepOk hT h o hs

/-- What a machine's slot holds when the reading knows it. -/
theorem slot_bool (h : Rel tt w0 FP Mx ρ0 ρ s a w) {t : Nat} {b : Bool} (hb : nth s.fr t = .bool b) : a.tmps[t]? = some (.bool b) := by
  have hr := h.fr.nth t
  rw [hb] at hr
  have hlt : t < a.tmps.toList.length := by
    rcases Nat.lt_or_ge t s.fr.length with h' | h'
    · rw [← h.fr.length]; exact h'
    · rw [nth_eq_getElem?, List.getElem?_eq_none h'] at hb; cases hb
  have : a.tmps.toList[t]? = some (a.tmps.toList.getD t undef) := by
    rw [List.getD, List.getElem?_eq_getElem hlt]; rfl
  generalize hv : a.tmps.toList.getD t undef = v at hr this
  cases hr
  simpa using this

theorem slot_tup (h : Rel tt w0 FP Mx ρ0 ρ s a w) {t : Nat} (hb : nth s.fr t = .tup []) : a.tmps[t]? = some undef := by
  have hr := h.fr.nth t
  rw [hb] at hr
  have hlt : t < a.tmps.toList.length := by
    rcases Nat.lt_or_ge t s.fr.length with h' | h'
    · rw [← h.fr.length]; exact h'
    · rw [nth_eq_getElem?, List.getElem?_eq_none h'] at hb; cases hb
  have : a.tmps.toList[t]? = some (a.tmps.toList.getD t undef) := by
    rw [List.getD, List.getElem?_eq_getElem hlt]; rfl
  generalize hv : a.tmps.toList.getD t undef = v at hr this
  cases hr with | tup hl =>
  cases hl
  simpa [undef] using this

theorem setN_same {l : List AV} {t : Nat} {v : AV} (h : nth l t = v) : setN l t v = l := by
  rw [setN_eq]
  induction l generalizing t with
  | nil => rfl
  | cons a l ih => cases t with
    | zero => simp only [nth] at h; subst h; rfl
    | succ t => simp only [nth] at h; simp [ih h]

/-- Operations, one behind the other, in the order that is told. -/
theorem dstOf_eq : ∀ (l : List Oper) (j : Nat), dstOf l j = (l[j]?).bind (·.dst)
  | [], j => by simp [dstOf]
  | o :: l, 0 => by simp [dstOf]
  | o :: l, j + 1 => by simp [dstOf, dstOf_eq l j]

theorem yielded_some {ops : Array Oper} {tmps : Array Value} {j t : Nat} (ht : dstOf ops.toList j = some t) : yielded ops tmps j = (match tmps[t]? with | some (.bool b) => some b | _ => none) := by
  unfold yielded
  rw [dstOf_eq] at ht
  have : (ops[j]?).bind (·.dst) = some t := by simpa using ht
  rw [this]
  rfl

/-- One operation of a region, with its guard. -/
def aone (c : Cfg) (all : List Oper) (o : Oper) (s : St) : Option St :=
  match o.guard with
  | none => astep (R := Option St) none c o s some
  | some (j, want) => (match dstOf all j with
    | some t => (match nth s.fr t with
      | .bool b => if b = want then astep (R := Option St) none c o s some else some (s.put o.dst undefA)
      | .tup [] => some (s.put o.dst undefA)
      | _ => none)
    | none => none)

theorem aops_cons (c : Cfg) (hs : SpecsCps c.sg) (all : List Oper) (o : Oper) (r : List Oper) (s : St) :
    aops (R := Option St) none c all (o :: r) s some = (aone c all o s).elim none fun s' => aops (R := Option St) none c all r s' some := by
  have step : ∀ s : St, (astep (R := Option St) none c o s fun s' => aops (R := Option St) none c all r s' some) = (astep (R := Option St) none c o s some).elim none fun s' => aops (R := Option St) none c all r s' some :=
    fun s => astep_cps none c hs o s _
  unfold aone
  conv => lhs; unfold aops
  cases hg : o.guard with
  | none => exact step s
  | some x =>
    obtain ⟨j, want⟩ := x
    dsimp only
    cases hd : dstOf all j with
    | none => rfl
    | some t =>
      dsimp only
      cases hv : nth s.fr t with
      | bool b =>
        dsimp only
        cases b <;> cases want
        · rw [cond_false, if_pos rfl, setN_same hv]; exact step _
        · rw [cond_false, if_neg (by simp), setN_same hv]; rfl
        · rw [cond_true, if_neg (by simp), setN_same hv]; rfl
        · rw [cond_true, if_pos rfl, setN_same hv]; exact step _
      | tup l => cases l <;> rfl
      | _ => rfl

/-- One operation of a region in the machine: carried out, or skipped. -/
theorem aone_sound (c : Cfg) (hT : TabOk P c.tt) (hS : SpecsOk P c.sg) {ops : Array Oper} (h : Rel c.tt w0 FP Mx ρ0 ρ s a w) (o : Oper) {s' : St} (hs : aone c ops.toList o s = some s') :
    (Region.wanted o (yielded ops a.tmps) = true ∧ StepOk P c.tt w0 FP Mx ρ0 o a w s') ∨ (Region.wanted o (yielded ops a.tmps) = false ∧ Goes c.tt w0 FP Mx ρ0 s' (a.put o.dst undef) w) := by
  unfold aone at hs
  split at hs
  · rename_i hg
    exact .inl ⟨by simp [Region.wanted, hg], astep_sound c hT hS h o hs⟩
  · rename_i j want hg
    split at hs
    · rename_i t ht
      split at hs
      · rename_i b hb
        have hy : yielded ops a.tmps j = some b := by
          rw [yielded_some ht, slot_bool h hb]
        by_cases e : b = want
        · rw [if_pos e] at hs
          exact .inl ⟨by simp [Region.wanted, hg, hy, e], astep_sound c hT hS h o hs⟩
        · rw [if_neg e] at hs
          cases hs
          exact .inr ⟨by simp [Region.wanted, hg, hy, e], ρ, h.put o.dst (.tup .nil)⟩
      · rename_i hb
        cases hs
        have hy : yielded ops a.tmps j = none := by
          rw [yielded_some ht, slot_tup h hb]; rfl
        exact .inr ⟨by simp [Region.wanted, hg, hy], ρ, h.put o.dst (.tup .nil)⟩
      · cases hs
    · cases hs

/-- IN THE ORDER OF A LIST OF NUMBERS. -/
def arun (c : Cfg) (all : List Oper) : List Nat → St → Option St
  | [], s => some s
  | i :: r, s => match all[i]? with
    | none => arun c all r s
    | some o => (aone c all o s).elim none (arun c all r)

theorem arun_sound (c : Cfg) (hT : TabOk P c.tt) (hS : SpecsOk P c.sg) {ops : Array Oper} {Q : Exit → Act → World → Prop} : ∀ (l : List Nat) {ρ : List CObj} {s s' : St} {a : Act} {w : World}, Rel c.tt w0 FP Mx ρ0 ρ s a w →
    arun c ops.toList l s = some s' → (∀ a' w', Goes c.tt w0 FP Mx ρ0 s' a' w' → Q .normal a' w') → wpOps P ops Q l a w
  | [], ρ, s, s', a, w, h, hs, hQ => by
    cases hs
    exact hQ _ _ ⟨ρ, h⟩
  | i :: l, ρ, s, s', a, w, h, hs, hQ => by
    simp only [arun] at hs
    simp only [wpOps]
    have e : ops.toList[i]? = ops[i]? := by simp
    rw [e] at hs
    cases ho : ops[i]? with
    | none => simp only [ho] at hs ⊢; exact arun_sound c hT hS l h hs hQ
    | some o =>
      simp only [ho] at hs ⊢
      obtain ⟨s1, h1, h2⟩ := elim_some hs
      rcases aone_sound c hT hS h o h1 with ⟨hw, hk⟩ | ⟨hw, hg⟩
      · rw [if_pos hw]
        exact .inl (hk _ _ fun a' w' ⟨ρ', hr⟩ => arun_sound c hT hS l hr h2 hQ)
      · rw [if_neg (by simp [hw])]
        obtain ⟨ρ', hr⟩ := hg
        exact arun_sound c hT hS l hr h2 hQ

theorem arun_range (c : Cfg) (hs : SpecsCps c.sg) (all : List Oper) : ∀ (r : List Oper) (k : Nat) (s : St), all.drop k = r → arun c all (List.range' k r.length) s = aops (R := Option St) none c all r s some
  | [], k, s, _ => rfl
  | o :: r, k, s, hd => by
    have ho : all[k]? = some o := by
      have : (all.drop k)[0]? = some o := by rw [hd]; rfl
      rw [List.getElem?_drop] at this; simpa using this
    have hr : all.drop (k + 1) = r := by
      have : (all.drop k).drop 1 = r := by rw [hd]; rfl
      rw [List.drop_drop] at this; exact this
    rw [aops_cons c hs]
    simp only [List.length_cons, List.range'_succ, arun, ho]
    congr 1
    funext s'
    exact arun_range c hs all r (k + 1) s' hr
end
end Go.Proofs.YtcmhpngmjjcloaaGm
