/- A part of a reader of loaded code that is proved sound; no condition. -/
import Derived.Test.YtcmhpngmjjcloaaGmT
import Derived.Orders
namespace Go.Proofs.YtcmhpngmjjcloaaGm

theorem bindsA_eq (e : Edge) : bindsA e = Region.binds .any e := by
  unfold bindsA Region.binds
  cases e.ground <;> rfl

theorem bitN_iff {m i : Nat} : bitN m i = m.testBit i := by
  have h : Nat.land (Nat.shiftRight m i) 1 = m / 2 ^ i % 2 := by
    show (m >>> i) &&& 1 = _
    rw [Nat.and_one_is_mod, Nat.shiftRight_eq_div_pow]
  unfold bitN
  rw [h, Nat.testBit_eq_decide_div_mod_eq]
  cases hb : Nat.beq (m / 2 ^ i % 2) 1 with
  | true => simp [Nat.eq_of_beq_eq_true hb]
  | false => simp [Nat.ne_of_beq_eq_false hb]

theorem befOf_spec (acc : List Nat) (k : Nat) : ∀ (es : List Edge), bitN (befOf acc es) k = true → ∃ e ∈ es, bindsA e = true ∧ (k = e.on ∨ bitN (nthN acc e.on) k = true)
  | [], h => by simp [befOf, bitN_iff] at h
  | e :: r, h => by
    simp only [befOf] at h
    cases hb : bindsA e with
    | true =>
      rw [hb, cond_true, bitN_iff] at h
      have h' : ((2 ^ e.on ||| nthN acc e.on) ||| befOf acc r).testBit k = true := h
      rw [Nat.testBit_or, Nat.testBit_or, Nat.testBit_two_pow, Bool.or_eq_true, Bool.or_eq_true, decide_eq_true_eq] at h'
      rcases h' with (h' | h') | h'
      · exact ⟨e, by simp, hb, .inl h'.symm⟩
      · exact ⟨e, by simp, hb, .inr (by rw [bitN_iff]; exact h')⟩
      · obtain ⟨e', he, hx⟩ := befOf_spec acc k r (by rw [bitN_iff]; exact h')
        exact ⟨e', by simp [he], hx⟩
    | false =>
      rw [hb, cond_false] at h
      obtain ⟨e', he, hx⟩ := befOf_spec acc k r h
      exact ⟨e', by simp [he], hx⟩

theorem nthN_get (l : List Nat) (i : Nat) : nthN l i = (l[i]?).getD 0 := by
  induction l generalizing i with
  | nil => rfl
  | cons a l ih => cases i with
    | zero => rfl
    | succ i => simpa [nthN] using ih i

theorem befs_prefix : ∀ (l : List Oper) (acc : List Nat), ∃ r, befs l acc = acc ++ r
  | [], acc => ⟨[], by simp [befs]⟩
  | o :: l, acc => by
    obtain ⟨r, hr⟩ := befs_prefix l (acc ++ [befOf acc o.after.toList])
    exact ⟨befOf acc o.after.toList :: r, by rw [befs, hr]; simp⟩

theorem bitN_zero {k : Nat} : bitN 0 k = false := by rw [bitN_iff]; exact Nat.zero_testBit k

theorem befs_spec : ∀ (l : List Oper) (acc : List Nat) (j : Nat) (o : Oper), l[j]? = some o → ∀ k, bitN (nthN (befs l acc) (acc.length + j)) k = true →
    ∃ e ∈ o.after.toList, bindsA e = true ∧ (k = e.on ∨ bitN (nthN (befs l acc) e.on) k = true)
  | [], acc, j, o, h, k, hk => by simp at h
  | o :: l, acc, 0, o', h, k, hk => by
    simp only [List.getElem?_cons_zero, Option.some.injEq] at h
    subst h
    obtain ⟨r, hr⟩ := befs_prefix l (acc ++ [befOf acc o.after.toList])
    simp only [befs] at hk ⊢
    rw [hr] at hk ⊢
    have e1 : nthN (acc ++ [befOf acc o.after.toList] ++ r) (acc.length + 0) = befOf acc o.after.toList := by
      rw [nthN_get]; simp
    rw [e1] at hk
    obtain ⟨e, he, hb, hx⟩ := befOf_spec _ _ _ hk
    refine ⟨e, he, hb, hx.imp id fun hx => ?_⟩
    rcases Nat.lt_or_ge e.on acc.length with hlt | hge
    · have : nthN (acc ++ [befOf acc o.after.toList] ++ r) e.on = nthN acc e.on := by
        rw [nthN_get, nthN_get, List.append_assoc, List.getElem?_append_left hlt]
      rw [this]; exact hx
    · rw [nthN_get, List.getElem?_eq_none hge] at hx
      simp [bitN_zero] at hx
  | o :: l, acc, j + 1, o', h, k, hk => by
    have := befs_spec l (acc ++ [befOf acc o.after.toList]) j o' (by simpa using h) k
    simp only [befs] at hk ⊢
    apply this
    rw [show (acc ++ [befOf acc o.after.toList]).length + j = acc.length + (j + 1) by simp; omega]
    exact hk

theorem backN_spec {j : Nat} : ∀ {es : List Edge}, backN j es = true → ∀ e ∈ es, bindsA e = true → e.on < j
  | e :: r, h, e', he, hb => by
    simp only [backN, Bool.and_eq_true] at h
    rcases List.mem_cons.1 he with rfl | he
    · rw [hb, cond_true] at h
      have := h.1
      simp [Nat.blt] at this; omega
    · exact backN_spec h.2 e' he hb

theorem apartN_spec {B names : List Nat} {j : Nat} : ∀ {l : List Oper} {i0 : Nat}, apartN B names j l i0 = true → ∀ (i : Nat) (o : Oper) (d : Nat), l[i]? = some o → o.dst = some d → d ∈ names →
    i0 + i ≠ j → (i0 + i < j → bitN (nthN B j) (i0 + i) = true) ∧ (j < i0 + i → bitN (nthN B (i0 + i)) j = true)
  | [], _, _, i, o, d, h, _, _, _ => by simp at h
  | o :: l, i0, h, 0, o', d, ho, hd, hm, hne => by
    simp only [List.getElem?_cons_zero, Option.some.injEq] at ho
    subst ho
    simp only [apartN, hd, memN_iff.2 hm, cond_true, Bool.and_eq_true] at h
    have h1 := h.1
    have hb : Nat.beq i0 j = false := by
      cases hx : Nat.beq i0 j with
      | true => exact absurd (Nat.eq_of_beq_eq_true hx) (by simpa using hne)
      | false => rfl
    rw [hb, cond_false] at h1
    cases hl : Nat.blt i0 j with
    | true =>
      rw [hl, cond_true] at h1
      simp [Nat.blt] at hl
      exact ⟨fun _ => by simpa using h1, fun hx => by omega⟩
    | false =>
      rw [hl, cond_false] at h1
      have hl' : ¬ i0 + 1 ≤ j := fun hx => by rw [Nat.blt, Nat.ble_eq_true_of_le hx] at hl; cases hl
      exact ⟨fun hx => by omega, fun _ => by simpa using h1⟩
  | o :: l, i0, h, i + 1, o', d, ho, hd, hm, hne => by
    simp only [apartN, Bool.and_eq_true] at h
    have := apartN_spec h.2 i o' d (by simpa using ho) hd hm (by omega)
    rw [show i0 + 1 + i = i0 + (i + 1) by omega] at this
    exact this

theorem drawAll_spec {B : List Nat} {all : List Oper} : ∀ {l : List Oper} {j0 : Nat}, drawAll B all l j0 = true → ∀ (j : Nat) (o : Oper), l[j]? = some o →
    backN (j0 + j) o.after.toList = true ∧ apartN B (namesOf all o) (j0 + j) all 0 = true
  | [], _, _, j, o, h => by simp at h
  | o :: l, j0, h, 0, o', ho => by
    simp only [List.getElem?_cons_zero, Option.some.injEq] at ho
    subst ho
    simp only [drawAll, Bool.and_eq_true] at h
    exact ⟨h.1.1, h.1.2⟩
  | o :: l, j0, h, j + 1, o', ho => by
    simp only [drawAll, Bool.and_eq_true] at h
    have := drawAll_spec h.2 j o' (by simpa using ho)
    rw [show j0 + 1 + j = j0 + (j + 1) by omega] at this
    exact this

def putF (fr : List AV) (d : Option Nat) (v : AV) : List AV :=
  match d with
  | some t => setN fr t v
  | none => fr

theorem putF_put (fr : List AV) (hp : List AObj) (d : Option Nat) (v : AV) : St.put ⟨fr, hp⟩ d v = ⟨putF fr d v, hp⟩ := by cases d <;> rfl
theorem putF_length {fr : List AV} {d : Option Nat} {v : AV} : (putF fr d v).length = fr.length := by cases d <;> simp [putF, setN_get]
theorem putF_other {fr : List AV} {d : Option Nat} {v : AV} {t : Nat} (h : d ≠ some t) : nth (putF fr d v) t = nth fr t := by
  cases d with
  | none => rfl
  | some d =>
    simp only [putF, setN_eq, nth_eq_getElem?]
    rw [List.getElem?_set_ne (by rintro rfl; exact h rfl)]
theorem putF_same {fr fr' : List AV} {v : AV} {t : Nat} (h : fr.length = fr'.length) : nth (putF fr (some t) v) t = nth (putF fr' (some t) v) t := by
  simp only [putF, setN_eq, nth_eq_getElem?, List.getElem?_set_self']
  rcases Nat.lt_or_ge t fr'.length with hlt | hge
  · rw [List.getElem?_eq_getElem hlt, List.getElem?_eq_getElem (by omega)]; rfl
  · rw [List.getElem?_eq_none hge, List.getElem?_eq_none (by omega)]

/-- What an operation of such a region puts. -/
def qval (c : Cfg) (all : List Oper) (hp : List AObj) (o : Oper) (fr : List AV) : Option AV :=
  match o.guard with
  | none => qstep (R := Option AV) none c hp (aval fr) o.op some
  | some (j, want) => (match dstOf all j with
    | some t => (match nth fr t with
      | .bool b => if b = want then qstep (R := Option AV) none c hp (aval fr) o.op some else some undefA
      | .tup [] => some undefA
      | _ => none)
    | none => none)

def qrun (c : Cfg) (all : List Oper) (hp : List AObj) : List Oper → List AV → Option (List AV)
  | [], fr => some fr
  | o :: r, fr => (qval c all hp o fr).elim none fun v => qrun c all hp r (putF fr o.dst v)

theorem aopsQ_eq (c : Cfg) (hs : SpecsCps c.sg) (all : List Oper) (hp : List AObj) : ∀ (l : List Oper) (fr : List AV),
    aopsQ (R := Option St) none c all l ⟨fr, hp⟩ some = (qrun c all hp l fr).elim none fun fr => some ⟨fr, hp⟩
  | [], fr => rfl
  | o :: r, fr => by
    have ih := aopsQ_eq c hs all hp r
    have step : ∀ fr, (qstep (R := Option St) none c hp (aval fr) o.op fun v => aopsQ (R := Option St) none c all r (St.put ⟨fr, hp⟩ o.dst v) some) =
        ((qstep (R := Option AV) none c hp (aval fr) o.op some).elim none fun v => qrun c all hp r (putF fr o.dst v)).elim none fun fr => some ⟨fr, hp⟩ := by
      intro fr
      have e1 := qstep_cps (R := Option St) none (hp := hp) c hs (aval fr) o.op fun v => aopsQ (R := Option St) none c all r (St.put ⟨fr, hp⟩ o.dst v) some
      rw [e1]
      cases qstep (R := Option AV) none c hp (aval fr) o.op some with
      | none => rfl
      | some v => simp only [Option.elim, putF_put]; exact ih _
    unfold qrun qval
    conv => lhs; unfold aopsQ
    cases hg : o.guard with
    | none => exact step fr
    | some x =>
      obtain ⟨j, want⟩ := x
      dsimp only
      cases hd : dstOf all j with
      | none => rfl
      | some t =>
        dsimp only
        cases hv : nth fr t with
        | bool b =>
          dsimp only
          cases b <;> cases want
          · rw [cond_false, if_pos rfl, setN_same hv]; exact step fr
          · rw [cond_false, if_neg (by simp), setN_same hv, putF_put]; exact ih _
          · rw [cond_true, if_neg (by simp), setN_same hv, putF_put]; exact ih _
          · rw [cond_true, if_pos rfl, setN_same hv]; exact step fr
        | tup l =>
          cases l with
          | nil => dsimp only; rw [putF_put]; exact ih _
          | cons _ _ => rfl
        | _ => rfl

theorem qrun_frames (c : Cfg) (all : List Oper) (hp : List AObj) : ∀ (l : List Oper) {fr fr' : List AV}, qrun c all hp l fr = some fr' →
    ∃ F : Nat → List AV, F 0 = fr ∧ F l.length = fr' ∧ ∀ (k : Nat) (o : Oper), l[k]? = some o → ∃ v, qval c all hp o (F k) = some v ∧ F (k + 1) = putF (F k) o.dst v
  | [], fr, fr', h => by cases h; exact ⟨fun _ => fr, rfl, rfl, fun k o h => by simp at h⟩
  | o :: l, fr, fr', h => by
    obtain ⟨v, hv, h⟩ := elim_some h
    obtain ⟨F, h0, hn, hk⟩ := qrun_frames c all hp l h
    refine ⟨fun | 0 => fr | k + 1 => F k, rfl, hn, ?_⟩
    intro k o' ho
    cases k with
    | zero =>
      simp only [List.getElem?_cons_zero, Option.some.injEq] at ho
      subst ho
      exact ⟨v, hv, h0⟩
    | succ k => exact hk k o' (by simpa using ho)

section congr
variable {tt : Tab} {hp : List AObj} {ev ev' : Operand → AV}

theorem map_congr' {l : List Operand} (h : ∀ x ∈ l, ev x = ev' x) : l.map ev = l.map ev' := List.map_congr_left h

theorem rop_congr (op : Op) (h : ∀ x ∈ op.operands.toList, ev x = ev' x) : rop (R := Option AV) none tt hp ev op some = rop (R := Option AV) none tt hp ev' op some := by
  unfold rop
  split
  case h_8 f first caps =>
    split
    · rw [map_congr' (ev := ev) (ev' := ev') fun x hx => h x (by simp [Op.operands, hx])]
    · rfl
  case h_9 t x lo hi =>
    have h1 := h x (by simp [Op.operands])
    have h2 : lo.map ev = lo.map ev' := by
      cases lo with
      | none => rfl
      | some y => simp [h y (by simp [Op.operands])]
    have h3 : hi.map ev = hi.map ev' := by
      cases hi with
      | none => rfl
      | some y => simp [h y (by simp [Op.operands])]
    rw [h1, h2, h3]
  case h_16 t parts =>
    have : (parts.toList.map fun x => (x.1, ev x.2)) = parts.toList.map fun x => (x.1, ev' x.2) := by
      apply List.map_congr_left
      intro x hx
      rw [h x.2 (by simp only [Op.operands, List.mem_map]; exact ⟨x, hx, rfl⟩)]
    rw [this]
  case h_17 cl =>
    split
    · split
      · rename_i hcal _ _ x t ha _
        rw [h x (by simp [Op.operands, Call.operands, hcal, ha])]
      · rfl
    · rename_i hcal
      split
      · rename_i x l ha
        have hx := h x (by simp [Op.operands, Call.operands, hcal, ha])
        have hl : l.map ev = l.map ev' := map_congr' fun y hy => h y (by simp [Op.operands, Call.operands, hcal, ha, hy])
        rw [hx, hl]
      · rfl
    · rename_i hcal
      split
      · rename_i x l ha
        have hx := h x (by simp [Op.operands, Call.operands, hcal, ha])
        have hl : l.map ev = l.map ev' := map_congr' fun y hy => h y (by simp [Op.operands, Call.operands, hcal, ha, hy])
        rw [hx, hl]
      · rfl
    · rfl
  all_goals first
    | rfl
    | (simp only [Op.operands, List.mem_cons, List.not_mem_nil, or_false, forall_eq_or_imp, forall_eq] at h
       first
         | rw [h]
         | (obtain ⟨h1, h2⟩ := h; rw [h1, h2])
         | (obtain ⟨h1, h2, h3⟩ := h; rw [h1, h2, h3]))

theorem qstep_congr (c : Cfg) (op : Op) (h : ∀ x ∈ op.operands.toList, ev x = ev' x) : qstep (R := Option AV) none c hp ev op some = qstep (R := Option AV) none c hp ev' op some := by
  unfold qstep
  split
  · rename_i cl
    split
    · rename_i f hcal
      have hf := h f (by simp [Op.operands, Call.operands, hcal])
      have ha : cl.args.toList.map ev = cl.args.toList.map ev' := map_congr' fun y hy => h y (by simp [Op.operands, Call.operands, hcal]; exact .inr (by simpa using hy))
      rw [hf, ha]
    · exact rop_congr _ h
  · exact rop_congr _ h
end congr

theorem qval_congr (c : Cfg) (all : List Oper) (hp : List AObj) (o : Oper) {fr fr' : List AV} (h : ∀ t ∈ readsOf all o, nth fr t = nth fr' t) : qval c all hp o fr = qval c all hp o fr' := by
  have hq : qstep (R := Option AV) none c hp (aval fr) o.op some = qstep (R := Option AV) none c hp (aval fr') o.op some := by
    apply qstep_congr
    intro x hx
    cases x with
    | tmp t => exact h t (by simp only [readsOf, List.mem_append, List.mem_flatMap]; exact .inr ⟨_, hx, by simp [tmpOf]⟩)
    | _ => rfl
  unfold qval
  rw [hq]
  cases hg : o.guard with
  | none => rfl
  | some x =>
    obtain ⟨j, want⟩ := x
    dsimp only
    cases hd : dstOf all j with
    | none => rfl
    | some t =>
      dsimp only
      rw [h t (by simp [readsOf, slotOf, hg, hd])]

section step
variable {P : Program} {w w0 : World} {FP Mx : Nat → Prop} {ρ ρ0 : List CObj} {a : Act}

theorem qstep_sound (c : Cfg) (hT : TabOk P c.tt) (hS : SpecsOk P c.sg) {hp : List AObj} {fr : List AV} (h : Rel c.tt w0 FP Mx ρ0 ρ ⟨fr, hp⟩ a w) (o : Oper) {v : AV}
    (hq : qstep (R := Option AV) none c hp (aval fr) o.op some = some v) : StepOk P c.tt w0 FP Mx ρ0 o a w (St.put ⟨fr, hp⟩ o.dst v) := by
  have hr : rop (R := Option AV) none c.tt hp (aval fr) o.op some = some v → StepOk P c.tt w0 FP Mx ρ0 o a w (St.put ⟨fr, hp⟩ o.dst v) := by
    intro h1
    refine rop_stepOk hT h o ?_
    have := rop_cps (R := Option St) none (tt := c.tt) (hp := hp) (aval fr) o.op fun v => some (St.put ⟨fr, hp⟩ o.dst v)
    rw [this, h1]; rfl
  unfold qstep at hq
  split at hq
  · rename_i cl ho
    split at hq
    · rename_i f hcal
      split at hq
      · rename_i f' caps ht
        split at hq
        · rename_i go hsg
          have hgo := (show PureOk P f' go from hS _ _ hsg).lent
          refine callv_step h o ho hcal ht hgo ?_
          rw [callPure_cps _ hgo.cps] at hq
          rw [callPure_cps _ hgo.cps]
          obtain ⟨⟨r, objs, l⟩, hc, h2⟩ := elim_some hq
          rw [hc]
          cases objs with
          | nil =>
            cases l with
            | nil =>
              cases h2
              simp only [Option.elim, St.freezeAll, St.joined, List.map_nil, List.append_nil]
            | cons _ _ => cases h2
          | cons _ _ => cases h2
        · cases hq
      · cases hq
    · rename_i hcal
      exact hr hq
  · exact hr hq

/-- One operation of such a region: carried out, or skipped. -/
theorem qval_sound (c : Cfg) (hT : TabOk P c.tt) (hS : SpecsOk P c.sg) {ops : Array Oper} {hp : List AObj} {fr : List AV} (h : Rel c.tt w0 FP Mx ρ0 ρ ⟨fr, hp⟩ a w) (o : Oper) {v : AV}
    (hv : qval c ops.toList hp o fr = some v) :
    (Region.wanted o (yielded ops a.tmps) = true ∧ StepOk P c.tt w0 FP Mx ρ0 o a w ⟨putF fr o.dst v, hp⟩) ∨ (Region.wanted o (yielded ops a.tmps) = false ∧ Goes c.tt w0 FP Mx ρ0 ⟨putF fr o.dst v, hp⟩ (a.put o.dst undef) w) := by
  rw [← putF_put]
  unfold qval at hv
  split at hv
  · rename_i hg
    exact .inl ⟨by simp [Region.wanted, hg], qstep_sound c hT hS h o hv⟩
  · rename_i j want hg
    split at hv
    · rename_i t ht
      split at hv
      · rename_i b hb
        have hy : yielded ops a.tmps j = some b := by
          rw [yielded_some ht, slot_bool h hb]
        by_cases e : b = want
        · rw [if_pos e] at hv
          exact .inl ⟨by simp [Region.wanted, hg, hy, e], qstep_sound c hT hS h o hv⟩
        · rw [if_neg e] at hv
          cases hv
          exact .inr ⟨by simp [Region.wanted, hg, hy, e], ρ, h.put o.dst (.tup .nil)⟩
      · rename_i hb
        cases hv
        have hy : yielded ops a.tmps j = none := by
          rw [yielded_some ht, slot_tup h hb]; rfl
        exact .inr ⟨by simp [Region.wanted, hg, hy], ρ, h.put o.dst (.tup .nil)⟩
      · cases hv
    · cases hv
end step

/-- Where the reading stands when some operations have been carried out, in any order that keeps to what stands ahead of what. -/
structure QInv (all : List Oper) (B : List Nat) (F : Nat → List AV) (S : Nat → Prop) (fr : List AV) : Prop where
  len : fr.length = (F 0).length
  cut : ∀ t, ∃ k, k ≤ all.length ∧ nth fr t = nth (F k) t ∧ ∀ (i : Nat) (o : Oper), all[i]? = some o → o.dst = some t → (i < k ↔ S i)
  closed : ∀ i, S i → ∀ k, bitN (nthN B i) k = true → S k

section run
variable {c : Cfg} {all : List Oper} {hp : List AObj} {F : Nat → List AV} {S : Nat → Prop} {fr : List AV}

theorem frames_len (hF : ∀ (k : Nat) (o : Oper), all[k]? = some o → ∃ v, qval c all hp o (F k) = some v ∧ F (k + 1) = putF (F k) o.dst v) : ∀ k, k ≤ all.length → (F k).length = (F 0).length
  | 0, _ => rfl
  | k + 1, h => by
    obtain ⟨v, _, e⟩ := hF k all[k] (List.getElem?_eq_getElem (by omega))
    rw [e, putF_length, frames_len hF k (by omega)]

theorem frames_same (hF : ∀ (k : Nat) (o : Oper), all[k]? = some o → ∃ v, qval c all hp o (F k) = some v ∧ F (k + 1) = putF (F k) o.dst v) {t : Nat} {k1 : Nat} : ∀ (n : Nat), k1 + n ≤ all.length →
    (∀ (i : Nat) (o : Oper), all[i]? = some o → o.dst = some t → ¬ (k1 ≤ i ∧ i < k1 + n)) → nth (F (k1 + n)) t = nth (F k1) t
  | 0, _, _ => rfl
  | n + 1, h, hw => by
    have ho : all[k1 + n]? = some all[k1 + n] := List.getElem?_eq_getElem (by omega)
    obtain ⟨v, _, e⟩ := hF (k1 + n) _ ho
    rw [show k1 + (n + 1) = (k1 + n) + 1 by omega, e, putF_other fun hd => hw _ _ ho hd ⟨by omega, by omega⟩]
    exact frames_same hF n (by omega) fun i o h1 h2 h3 => hw i o h1 h2 ⟨h3.1, by omega⟩

theorem frames_cut (hF : ∀ (k : Nat) (o : Oper), all[k]? = some o → ∃ v, qval c all hp o (F k) = some v ∧ F (k + 1) = putF (F k) o.dst v) {t k1 k2 : Nat} (h1 : k1 ≤ all.length) (h2 : k2 ≤ all.length)
    (hw : ∀ (i : Nat) (o : Oper), all[i]? = some o → o.dst = some t → (i < k1 ↔ i < k2)) : nth (F k1) t = nth (F k2) t := by
  rcases Nat.le_total k1 k2 with h | h
  · have := frames_same hF (t := t) (k1 := k1) (k2 - k1) (by omega) fun i o ho hd hx => by have := hw i o ho hd; omega
    rw [show k1 + (k2 - k1) = k2 by omega] at this
    exact this.symm
  · have := frames_same hF (t := t) (k1 := k2) (k1 - k2) (by omega) fun i o ho hd hx => by have := hw i o ho hd; omega
    rw [show k2 + (k1 - k2) = k1 by omega] at this
    exact this

theorem QInv.start {B : List Nat} : QInv all B F (fun _ => False) (F 0) :=
  ⟨rfl, fun _ => ⟨0, Nat.zero_le _, rfl, fun i o _ _ => by simp⟩, fun _ h => h.elim⟩

theorem QInv.step (hdraw : drawOk all = true) (hF : ∀ (k : Nat) (o : Oper), all[k]? = some o → ∃ v, qval c all hp o (F k) = some v ∧ F (k + 1) = putF (F k) o.dst v)
    (h : QInv all (befs all []) F S fr) {j : Nat} {o : Oper} (ho : all[j]? = some o) (hj : ¬ S j) (hr : ∀ e ∈ o.after.toList, bindsA e = true → S e.on) :
    ∃ v, qval c all hp o fr = some v ∧ QInv all (befs all []) F (fun i => i = j ∨ S i) (putF fr o.dst v) := by
  have hjl : j < all.length := by
    rcases Nat.lt_or_ge j all.length with h' | h'
    · exact h'
    · rw [List.getElem?_eq_none h'] at ho; cases ho
  obtain ⟨hb, hap⟩ := drawAll_spec hdraw j o ho
  rw [Nat.zero_add] at hb hap
  have hbits : ∀ k, bitN (nthN (befs all []) j) k = true → S k := by
    intro k hk
    obtain ⟨e, he, hbe, hx⟩ := befs_spec all [] j o ho k (by simpa using hk)
    rcases hx with rfl | hx
    · exact hr e he hbe
    · exact h.closed _ (hr e he hbe) k hx
  have hwr : ∀ t ∈ namesOf all o, ∀ (i : Nat) (o' : Oper), all[i]? = some o' → o'.dst = some t → (i < j ↔ S i) := by
    intro t ht i o' hi hd
    constructor
    · intro hlt
      have := (apartN_spec hap i o' t hi hd ht (by omega)).1 (by omega)
      rw [Nat.zero_add] at this
      exact hbits i this
    · intro hSi
      rcases Nat.lt_trichotomy i j with hlt | rfl | hgt
      · exact hlt
      · exact absurd hSi hj
      · have := (apartN_spec hap i o' t hi hd ht (by omega)).2 (by omega)
        rw [Nat.zero_add] at this
        exact absurd (h.closed i hSi j this) hj
  have hread : ∀ t ∈ namesOf all o, nth fr t = nth (F j) t := by
    intro t ht
    obtain ⟨k, hk, e, hcut⟩ := h.cut t
    rw [e]
    exact frames_cut hF hk (by omega) fun i o' hi hd => (hcut i o' hi hd).trans (hwr t ht i o' hi hd).symm
  obtain ⟨v, hv, hnext⟩ := hF j o ho
  have hsub : ∀ t ∈ readsOf all o, t ∈ namesOf all o := by
    intro t ht
    unfold namesOf
    cases o.dst with
    | none => exact ht
    | some d => simp [ht]
  refine ⟨v, by rw [qval_congr c all hp o fun t ht => hread t (hsub t ht)]; exact hv, ?_, ?_, ?_⟩
  · rw [putF_length, h.len]
  · intro t
    by_cases hd : o.dst = some t
    · refine ⟨j + 1, by omega, ?_, ?_⟩
      · rw [hnext, hd]
        exact putF_same (by rw [h.len, frames_len hF j (by omega)])
      · intro i o' hi hd'
        have := hwr t (by simp [namesOf, hd]) i o' hi hd'
        constructor
        · intro hlt
          rcases Nat.lt_or_ge i j with h' | h'
          · exact .inr (this.1 h')
          · exact .inl (by omega)
        · rintro (rfl | hs)
          · omega
          · have := this.2 hs; omega
    · obtain ⟨k, hk, e, hcut⟩ := h.cut t
      refine ⟨k, hk, by rw [putF_other hd]; exact e, ?_⟩
      intro i o' hi hd'
      rw [hcut i o' hi hd']
      constructor
      · exact .inr
      · rintro (rfl | hs)
        · rw [ho] at hi; cases hi; exact absurd hd' hd
        · exact hs
  · rintro i (rfl | hs) k hk
    · exact .inr (hbits k hk)
    · exact .inr (h.closed i hs k hk)

theorem QInv.done (hF : ∀ (k : Nat) (o : Oper), all[k]? = some o → ∃ v, qval c all hp o (F k) = some v ∧ F (k + 1) = putF (F k) o.dst v) {B : List Nat}
    (h : QInv all B F S fr) (hall : ∀ i, i < all.length → S i) : fr = F all.length := by
  have hlen : fr.length = (F all.length).length := by rw [h.len, frames_len hF _ (Nat.le_refl _)]
  apply List.ext_getElem hlen
  intro t h1 h2
  obtain ⟨k, hk, e, hcut⟩ := h.cut t
  have e2 : nth (F k) t = nth (F all.length) t := by
    refine frames_cut hF hk (Nat.le_refl _) fun i o hi hd => ?_
    have hlt : i < all.length := by
      rcases Nat.lt_or_ge i all.length with h' | h'
      · exact h'
      · rw [List.getElem?_eq_none h'] at hi; cases hi
    exact (hcut i o hi hd).trans ⟨fun _ => hlt, fun _ => hall i hlt⟩
  rw [e2, nth_eq_getElem?, nth_eq_getElem?, List.getElem?_eq_getElem h1, List.getElem?_eq_getElem h2] at e
  exact e
end run

def unlisted (n : Nat) (listed : Array Bool) : Nat := ((List.range n).filter fun i => !listed.getD i true).length

theorem filter_lt {p q : Nat → Bool} : ∀ {l : List Nat} {x : Nat}, (∀ i ∈ l, q i = true → p i = true) → x ∈ l → p x = true → q x = false → (l.filter q).length < (l.filter p).length
  | a :: l, x, himp, hx, hp, hq => by
    have hle : ∀ l : List Nat, (∀ i ∈ l, q i = true → p i = true) → (l.filter q).length ≤ (l.filter p).length := by
      intro l
      induction l with
      | nil => intro _; simp
      | cons b l ih =>
        intro h
        have := ih fun i hi => h i (by simp [hi])
        have hb := h b (by simp)
        simp only [List.filter_cons]
        cases hqb : q b with
        | true => rw [hb hqb]; simpa using this
        | false => cases p b <;> simp <;> omega
    simp only [List.filter_cons]
    rcases List.mem_cons.1 hx with rfl | hx
    · rw [hp, hq]
      have := hle l fun i hi => himp i (by simp [hi])
      simp; omega
    · have ih := filter_lt (l := l) (fun i hi => himp i (by simp [hi])) hx hp hq
      have ha := himp a (by simp)
      cases hqa : q a with
      | true => rw [ha hqa]; simpa using ih
      | false => cases p a <;> simp <;> omega

section draw
variable {P : Program} {w w0 : World} {FP Mx : Nat → Prop} {ρ ρ0 : List CObj} {a : Act}

theorem ready_mem {ops : Array Oper} {listed : Array Bool} {i : Nat} : i ∈ Region.ready .any ops listed ↔
    i < ops.size ∧ listed.getD i true = false ∧ ∃ o, ops[i]? = some o ∧ ∀ e ∈ o.after.toList, bindsA e = true → listed.getD e.on false = true := by
  unfold Region.ready
  rw [List.mem_filter, List.mem_range]
  constructor
  · rintro ⟨h1, h2⟩
    simp only [Bool.and_eq_true, Bool.not_eq_true'] at h2
    refine ⟨h1, h2.1, ?_⟩
    have ho : ops[i]? = some ops[i] := Array.getElem?_eq_getElem h1
    refine ⟨_, ho, ?_⟩
    have h3 := h2.2
    rw [ho] at h3
    simp only [Option.map_some, Option.getD_some, Array.all_eq_true'] at h3
    intro e he hb
    have := h3 e (by simpa using he)
    rw [← bindsA_eq, hb] at this
    simpa using this
  · rintro ⟨h1, h2, o, ho, h3⟩
    refine ⟨h1, ?_⟩
    rw [h2, ho]
    simp only [Bool.not_false, Option.map_some, Option.getD_some, Bool.true_and, Array.all_eq_true']
    intro e he
    rw [← bindsA_eq]
    cases hb : bindsA e with
    | true => simpa using h3 e (by simpa using he) hb
    | false => rfl

theorem all_listed {ops : Array Oper} (hdraw : drawOk ops.toList = true) {listed : Array Bool} (hsz : listed.size = ops.size) (hnil : Region.ready .any ops listed = []) :
    ∀ i, i < ops.size → listed.getD i true = true := by
  intro i
  induction i using Nat.strongRecOn with
  | _ i ih =>
    intro hi
    cases hl : listed.getD i true with
    | true => rfl
    | false =>
      have ho : ops[i]? = some ops[i] := Array.getElem?_eq_getElem hi
      have hb := (drawAll_spec hdraw i ops[i] (by simp)).1
      rw [Nat.zero_add] at hb
      have : i ∈ Region.ready .any ops listed := ready_mem.2 ⟨hi, hl, _, ho, fun e he hbe => by
        have hlt := backN_spec hb e he hbe
        have := ih e.on hlt (by omega)
        have hs : e.on < listed.size := by omega
        simp [Array.getD, hs] at this ⊢
        exact this⟩
      rw [hnil] at this
      cases this

theorem draw_any (c : Cfg) (hT : TabOk P c.tt) (hS : SpecsOk P c.sg) {ops : Array Oper} (hdraw : drawOk ops.toList = true) {hp : List AObj} {F : Nat → List AV}
    (hF : ∀ (k : Nat) (o : Oper), ops.toList[k]? = some o → ∃ v, qval c ops.toList hp o (F k) = some v ∧ F (k + 1) = putF (F k) o.dst v) {Q : Exit → Act → World → Prop}
    (hQ : ∀ a' w', Goes c.tt w0 FP Mx ρ0 ⟨F ops.size, hp⟩ a' w' → Q .normal a' w') :
    ∀ (fuel : Nat) (listed : Array Bool) (fr : List AV) (ρ : List CObj) (a : Act) (w : World), listed.size = ops.size → unlisted ops.size listed ≤ fuel →
      QInv ops.toList (befs ops.toList []) F (fun i => listed.getD i false = true) fr → Rel c.tt w0 FP Mx ρ0 ρ ⟨fr, hp⟩ a w → wpAny P .any ops Q fuel listed a w := by
  have fin : ∀ (listed : Array Bool) (fr : List AV) (ρ : List CObj) (a : Act) (w : World), listed.size = ops.size → (∀ i, i < ops.size → listed.getD i true = true) →
      QInv ops.toList (befs ops.toList []) F (fun i => listed.getD i false = true) fr → Rel c.tt w0 FP Mx ρ0 ρ ⟨fr, hp⟩ a w → Q .normal a w := by
    intro listed fr ρ a w hsz hall hI hR
    apply hQ
    have e : fr = F ops.toList.length := hI.done hF fun i hi => by
      have hi' : i < ops.size := by simpa using hi
      have := hall i hi'
      have hs : i < listed.size := by omega
      simp [Array.getD, hs] at this ⊢
      exact this
    rw [Array.length_toList] at e
    subst e
    exact ⟨ρ, hR⟩
  intro fuel
  induction fuel with
  | zero =>
    intro listed fr ρ a w hsz hcnt hI hR
    have hall : ∀ i, i < ops.size → listed.getD i true = true := by
      intro i hi
      cases hl : listed.getD i true with
      | true => rfl
      | false =>
        exfalso
        have : 0 < unlisted ops.size listed := List.length_pos_of_mem (a := i) (List.mem_filter.2 ⟨List.mem_range.2 hi, by simp [hl]⟩)
        omega
    refine ⟨?_, fin listed fr ρ a w hsz hall hI hR⟩
    cases hr : Region.ready .any ops listed with
    | nil => rfl
    | cons i l =>
      exfalso
      have : i ∈ Region.ready .any ops listed := by rw [hr]; simp
      obtain ⟨h1, h2, _⟩ := ready_mem.1 this
      rw [hall i h1] at h2; cases h2
  | succ fuel ih =>
    intro listed fr ρ a w hsz hcnt hI hR
    refine ⟨fun hnil => fin listed fr ρ a w hsz (all_listed hdraw hsz hnil) hI hR, ?_⟩
    intro i hi
    obtain ⟨hlt, hun, o, ho, hr⟩ := ready_mem.1 hi
    have hs : i < listed.size := by omega
    have hun' : ¬ listed.getD i false = true := by
      simp [Array.getD, hs] at hun ⊢
      exact hun
    obtain ⟨v, hv, hI'⟩ := hI.step hdraw hF (j := i) (o := o) (by simpa using ho) hun' hr
    have next : ∀ a' w', Goes c.tt w0 FP Mx ρ0 ⟨putF fr o.dst v, hp⟩ a' w' → wpAny P .any ops Q fuel (listed.setIfInBounds i true) a' w' := by
      rintro a' w' ⟨ρ', hR'⟩
      refine ih _ _ ρ' a' w' (by simpa using hsz) ?_ ?_ hR'
      · have : unlisted ops.size (listed.setIfInBounds i true) < unlisted ops.size listed := by
          refine filter_lt (x := i) ?_ (List.mem_range.2 hlt) (by simp [hun]) ?_
          · intro k hk hq
            by_cases e : k = i
            · subst e; simp [hun]
            · have hne : i ≠ k := fun h => e h.symm
              simpa [Array.getD_eq_getD_getElem?, Array.getElem?_setIfInBounds, hne] using hq
          · simp [Array.getD_eq_getD_getElem?, Array.getElem?_setIfInBounds, hs]
        omega
      · refine ⟨hI'.len, fun t => ?_, fun k hk m hm => ?_⟩
        · obtain ⟨k, hk, e, hc⟩ := hI'.cut t
          refine ⟨k, hk, e, fun m om h1 h2 => (hc m om h1 h2).trans ?_⟩
          by_cases e : m = i
          · subst e; simp [Array.getD_eq_getD_getElem?, Array.getElem?_setIfInBounds, hs]
          · have hne : i ≠ m := fun h => e h.symm
            simp [Array.getD_eq_getD_getElem?, Array.getElem?_setIfInBounds, hne, e]
        · have hx : ∀ m, (listed.setIfInBounds i true).getD m false = true ↔ (m = i ∨ listed.getD m false = true) := by
            intro m
            by_cases e : m = i
            · subst e; simp [Array.getD_eq_getD_getElem?, Array.getElem?_setIfInBounds, hs]
            · have hne : i ≠ m := fun h => e h.symm
              simp [Array.getD_eq_getD_getElem?, Array.getElem?_setIfInBounds, hne, e]
          exact (hx m).2 (hI'.closed k ((hx k).1 hk) m hm)
    unfold wpOp
    rw [ho]
    dsimp only
    rcases qval_sound c hT hS hR o hv with ⟨hw, hk⟩ | ⟨hw, hg⟩
    · rw [if_pos hw]
      exact .inl (hk _ _ next)
    · rw [if_neg (by simp [hw])]
      exact next _ _ hg

/-- A REGION OF WHICH THE ORDER IS DRAWN. -/
theorem aopsQ_sound (c : Cfg) (hT : TabOk P c.tt) (hS : SpecsOk P c.sg) (hm : P.follows .mixedOrders = true) {id : Nat} {ops : Array Oper} (hdraw : drawOk ops.toList = true) {s s' : St}
    (h : Rel c.tt w0 FP Mx ρ0 ρ s a w) (hs : aopsQ (R := Option St) none c ops.toList ops.toList s some = some s') {Q : Exit → Act → World → Prop}
    (hQ : ∀ a' w', Goes c.tt w0 FP Mx ρ0 s' a' w' → Q .normal a' w') : (Code.region id ops true).wp P Q a w := by
  obtain ⟨fr, hp⟩ := s
  rw [aopsQ_eq c hS.cps] at hs
  obtain ⟨fr', hq, hs⟩ := elim_some hs
  cases hs
  obtain ⟨F, h0, hn, hF⟩ := qrun_frames c _ _ _ hq
  refine wp_region_any hm (draw_any c hT hS hdraw hF (w0 := w0) (FP := FP) (Mx := Mx) (ρ0 := ρ0) ?_ _ _ fr ρ a _ (by simp) ?_ ?_ (h.grew ⟨rfl, rfl, rfl, Nat.le_refl _, fun _ _ => rfl⟩))
  · rw [Array.length_toList] at hn
    rw [hn]; exact hQ
  · unfold unlisted
    have := List.length_filter_le (fun i => !(Array.replicate ops.size false).getD i true) (List.range ops.size)
    simpa using this
  · have h1 := QInv.start (all := ops.toList) (F := F) (B := befs ops.toList [])
    rw [h0] at h1
    have e : (fun i => (Array.replicate ops.size false).getD i false = true) = fun _ : Nat => False := by
      funext i
      simp [Array.getD_eq_getD_getElem?, Array.getElem?_replicate]
      split <;> simp
    rw [e]
    exact h1
end draw
end Go.Proofs.YtcmhpngmjjcloaaGm
