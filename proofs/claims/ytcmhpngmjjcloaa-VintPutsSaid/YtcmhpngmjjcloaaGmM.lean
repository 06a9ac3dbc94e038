/- A part of a reader of loaded code that is proved sound; no condition. -/
import Derived.Test.YtcmhpngmjjcloaaGmL
namespace Go.Proofs.YtcmhpngmjjcloaaGm

section
variable {P : Program} {tt : Tab} {w w' w0 : World} {FP Mx : Nat → Prop} {ρ ρ0 : List CObj} {hp : List AObj} {s : St} {a : Act}

theorem freeze_get {s : St} {o i : Nat} (hne : i ≠ o) {E : Nat} {p : Pay AV} (h : hget s.hp i = .arr E p) : hget (s.freeze o).hp i = .arr E p := by
  have hs := hget_some h (by simp)
  unfold St.freeze
  split
  · rename_i E2 p2 _
    have : (hset (s.mapRefs (frozenAs o p2)).hp o .dead)[i]? = some (.arr E p) := by
      have key : ∀ {l : List AObj} {i o : Nat} {v x : AObj}, i ≠ o → l[i]? = some x → (hset l o v)[i]? = some x := by
        intro l
        induction l with
        | nil => intro i o v x _ h; simp at h
        | cons y l ih =>
          intro i o v x hne h
          cases o with
          | zero => cases i with
            | zero => omega
            | succ i => simpa [hset] using h
          | succ o => cases i with
            | zero => simpa [hset] using h
            | succ i => simp [hset]; exact ih (by omega) (by simpa using h)
      exact key hne (by simp [St.mapRefs, hs, mapObj])
    have conv : ∀ {l : List AObj} {i : Nat} {x : AObj}, l[i]? = some x → hget l i = x := by
      intro l
      induction l with
      | nil => intro i x h; simp at h
      | cons y l ih => intro i x h; cases i with
        | zero => simp at h; simp [hget, h]
        | succ i => exact ih (by simpa using h)
    exact conv this
  · exact h

theorem Rel.freezeAll : ∀ (L : List Nat) {ρ : List CObj} {s : St}, Rel tt w0 FP Mx ρ0 ρ s a w → ∃ ρ', Rel tt w0 FP Mx ρ0 ρ' (s.freezeAll L) a w ∧ (∀ b, Mof Mx ρ' b → Mof Mx ρ b) ∧
    (∀ i ∈ L, ∀ E p c b, hget s.hp i = .arr E p → ρ[i]? = some c → c.block? = some b → ¬ Mof Mx ρ' b)
  | [], ρ, s, h => ⟨ρ, h, fun _ hb => hb, fun i hi => by cases hi⟩
  | o :: L, ρ, s, h => by
    obtain ⟨ρ1, h1, s1, n1, k1⟩ := h.freeze o
    obtain ⟨ρ2, h2, s2, n2⟩ := Rel.freezeAll L h1
    refine ⟨ρ2, h2, fun b hb => s1 b (s2 b hb), ?_⟩
    intro i hi E p c b hE hc hb hm
    by_cases e : i = o
    · subst e; exact n1 E p c b hE hc hb (s2 b hm)
    · rcases List.mem_cons.1 hi with hi | hi
      · exact e hi
      · rcases k1 i c hc with hc' | ⟨e', _⟩
        · exact n2 i hi E p c b (freeze_get e hE) hc' hb hm
        · exact e e'

theorem memN_iff {L : List Nat} {o : Nat} : memN L o = true ↔ o ∈ L := by
  induction L with
  | nil => simp [memN]
  | cons a L ih =>
    simp only [memN]
    cases h : Nat.beq a o with
    | true => have := Nat.eq_of_beq_eq_true h; subst this; simp
    | false => simp only [cond_false, ih, List.mem_cons]; constructor
               · exact .inr
               · rintro (e | e)
                 · subst e; simp at h
                 · exact e

/-- Lent rows may be read where their blocks are not written. -/
theorem lend_rep {L : List Nat} {M : Nat → Prop} (hE : Env tt w Mx ρ hp) (hL : Later w (Mof Mx ρ) w' M)
    (hM : ∀ i ∈ L, ∀ E p c b, hget hp i = .arr E p → ρ[i]? = some c → c.block? = some b → ¬ M b ∧ w'.heap[b]? = w.heap[b]?) (ρ' : List CObj) :
    ∀ a v, isRef a = true → RepV w (Mof Mx ρ) ρ a v → RepV w' M ρ' (lendL L hp a) v := by
  intro a v ha hr
  cases a with
  | own o =>
    simp only [lendL]
    cases hb : memN L o with
    | false => exact .top _
    | true =>
      simp only [cond_true]
      split
      · rename_i E p hi
        obtain ⟨c, hc, _⟩ := hE.at (hget_some hi (by simp))
        have := frozenSelf_rep hE hi hc hL (fun b hb' => hM o (memN_iff.1 hb) E p c b hi hc hb') ρ' (.own o) v (by simp [isOf]) hr
        simpa [frozenAs] using this
      · exact .top _
  | sub o k n =>
    simp only [lendL]
    cases hb : memN L o with
    | false => exact .top _
    | true =>
      simp only [cond_true]
      split
      · rename_i E p hi
        obtain ⟨c, hc, _⟩ := hE.at (hget_some hi (by simp))
        have := frozenSelf_rep hE hi hc hL (fun b hb' => hM o (memN_iff.1 hb) E p c b hi hc hb') ρ' (.sub o k n) v (by simp [isOf]) hr
        simpa [frozenAs] using this
      · exact .top _
  | aptr o i off => exact .top _
  | ptr o off => exact .top _
  | mapo o => exact .top _
  | _ => cases ha

theorem RepL.scalar {M M' : Nat → Prop} {ρ ρ' : List CObj} : ∀ {l : List AV} {vs : List Value}, RepL w M ρ l vs → (∀ a ∈ l, scalarLeaf a = true) → RepL w' M' ρ' l vs
  | _, _, .nil, _ => .nil
  | _, _, .cons (a := a) hv t, hp => .cons (by
      have := hp a (by simp)
      cases hv <;> first | (simp [scalarLeaf] at this; done) | (constructor; done) | (constructor; assumption)) (t.scalar fun x hx => hp x (by simp [hx]))

mutual
theorem RepV.noRo {M M' : Nat → Prop} {ρ' : List CObj} : ∀ (n : Nat) {a : AV} {v : Value}, hasRo n a = false → RepV w M [] a v → RepV w' M' ρ' a v
  | n, _, _, h, .top v => by cases n <;> simp [hasRo] at h
  | _, _, _, _, .bool b => .bool b
  | _, _, _, _, .int hk => .int hk
  | _, _, _, _, .str hs => .str hs
  | n + 1, _, _, h, .agg hl h1 => .agg (hl.noRo n (by simpa [hasRo] using h)) h1
  | 0, _, _, h, .agg hl h1 => by simp [hasRo] at h
  | _, _, _, _, .arr hl h1 hp => .arr (hl.scalar hp) h1 hp
  | n + 1, _, _, h, .tup hl => .tup (hl.noRo n (by simpa [hasRo] using h))
  | 0, _, _, h, .tup hl => by simp [hasRo] at h
  | _, _, _, _, .nilp => .nilp
  | _, _, _, _, .ptr e => by simp at e
  | _, _, _, _, .aptr e hi => by simp at e
  | n, _, _, h, .eptr .. => by cases n <;> simp [hasRo] at h
  | _, _, _, _, .nil => .nil
  | n, _, _, h, .roN .. => by cases n <;> simp [hasRo] at h
  | n, _, _, h, .ro .. => by cases n <;> simp [hasRo] at h
  | n, _, _, h, .rn .. => by cases n <;> simp [hasRo] at h
  | _, _, _, _, .own e h1 => by simp at e
  | _, _, _, _, .subN e => by simp at e
  | _, _, _, _, .sub e hle ha => by simp at e
  | n, _, _, h, .fn hl => by cases n <;> simp [hasRo] at h
  | _, _, _, _, .nilf => .nilf
  | _, _, _, _, .nilm => .nilm
  | _, _, _, _, .mapo e => by simp at e
  | n, _, _, h, .iface hv => by cases n <;> simp [hasRo] at h
  | _, _, _, _, .nili => .nili
theorem RepL.noRo {M M' : Nat → Prop} {ρ' : List CObj} : ∀ (n : Nat) {l : List AV} {vs : List Value}, (∀ a ∈ l, hasRo n a = false) → RepL w M [] l vs → RepL w' M' ρ' l vs
  | _, _, _, _, .nil => .nil
  | n, _, _, h, .cons hv t => .cons (hv.noRo n (h _ (by simp))) (t.noRo n fun a ha => h a (by simp [ha]))
end

mutual
/-- No row that is read is led to: the same in any world in which the references are kept. -/
theorem RepV.mapvN {M M' : Nat → Prop} {ρ ρ' : List CObj} (f : AV → AV) (hf : ∀ a v, isRef a = true → RepV w M ρ a v → RepV w' M' ρ' (f a) v) : ∀ (n : Nat) {a : AV} {v : Value}, hasRo n a = false → RepV w M ρ a v → RepV w' M' ρ' (mapv f n a) v
  | n, _, _, h, .top v => by cases n <;> simp [hasRo] at h
  | n, _, _, _, .bool b => by cases n <;> exact .bool b
  | n, _, _, _, .int hk => by cases n <;> exact .int hk
  | n, _, _, _, .str hs => by cases n <;> exact .str hs
  | n + 1, _, _, h, .agg hl h1 => .agg (hl.mapvN f hf n (by simpa [hasRo] using h)) h1
  | 0, _, _, h, .agg hl h1 => by simp [hasRo] at h
  | n, _, _, _, .arr hl h1 hp => by cases n <;> exact .arr (hl.scalar hp) h1 hp
  | n + 1, _, _, h, .tup hl => .tup (hl.mapvN f hf n (by simpa [hasRo] using h))
  | 0, _, _, h, .tup hl => by simp [hasRo] at h
  | n, _, _, _, .nilp => by cases n <;> exact .nilp
  | n, _, _, _, .ptr e => by cases n <;> exact hf _ _ rfl (.ptr e)
  | n, _, _, _, .aptr e hi => by cases n <;> exact hf _ _ rfl (.aptr e hi)
  | n, _, _, h, .eptr .. => by cases n <;> simp [hasRo] at h
  | n, _, _, _, .nil => by cases n <;> exact .nil
  | n, _, _, h, .roN .. => by cases n <;> simp [hasRo] at h
  | n, _, _, h, .ro .. => by cases n <;> simp [hasRo] at h
  | n, _, _, h, .rn .. => by cases n <;> simp [hasRo] at h
  | n, _, _, _, .own e h1 => by cases n <;> exact hf _ _ rfl (.own e h1)
  | n, _, _, _, .subN e => by cases n <;> exact hf _ _ rfl (.subN e)
  | n, _, _, _, .sub e hle ha => by cases n <;> exact hf _ _ rfl (.sub e hle ha)
  | n, _, _, h, .fn hl => by cases n <;> simp [hasRo] at h
  | n, _, _, _, .nilf => by cases n <;> exact .nilf
  | n, _, _, _, .nilm => by cases n <;> exact .nilm
  | n, _, _, _, .mapo e => by cases n <;> exact hf _ _ rfl (.mapo e)
  | n, _, _, h, .iface hv => by cases n <;> simp [hasRo] at h
  | n, _, _, _, .nili => by cases n <;> exact .nili
theorem RepL.mapvN {M M' : Nat → Prop} {ρ ρ' : List CObj} (f : AV → AV) (hf : ∀ a v, isRef a = true → RepV w M ρ a v → RepV w' M' ρ' (f a) v) : ∀ (n : Nat) {l : List AV} {vs : List Value}, (∀ a ∈ l, hasRo n a = false) → RepL w M ρ l vs → RepL w' M' ρ' (l.map (mapv f n)) vs
  | _, _, _, _, .nil => .nil
  | n, _, _, h, .cons hv t => .cons (hv.mapvN f hf n (h _ (by simp))) (t.mapvN f hf n fun a ha => h a (by simp [ha]))
end

theorem shift_rep {M M' : Nat → Prop} {ρ1 ρr : List CObj} {n : Nat} (hn : ρ1.length = n) : ∀ a v, isRef a = true → RepV w M ρr a v → RepV w' M' (ρ1 ++ ρr) (shiftR n a) v := by
  subst hn
  have look : ∀ {o : Nat} {c : CObj}, ρr[o]? = some c → (ρ1 ++ ρr)[ρ1.length + o]? = some c := by
    intro o c h
    rw [List.getElem?_append_right (by omega)]
    simpa using h
  intro a v ha hr
  cases a with
  | own o => cases hr with | own e h1 => exact .own (look e) h1
  | sub o k l =>
    cases hr with
    | subN e => exact .subN (look e)
    | sub e hle had => exact .sub (look e) hle had
  | ptr o k => cases hr with | ptr e => exact .ptr (look e)
  | aptr o i k => cases hr with | aptr e hi => exact .aptr (look e) hi
  | mapo o => cases hr with | mapo e => exact .mapo (look e)
  | _ => cases ha

/-- WHAT A CALL HAS MADE comes to lie behind what was there. -/
theorem Rel.join (h : Rel tt w0 FP Mx ρ0 ρ s a w) (hg : Grew w w') {M : Nat → Prop} {tt' : Tab} {ρr : List CObj} {objs : List AObj} (hE : Env tt' w' M ρr objs) (hfit : objs.all (objFits tt) = true)
    (hfr : ∀ (i : Nat) (c : CObj) (b : Nat), ρr[i]? = some c → c.block? = some b → w.heap.size ≤ b) {r : AV} {v : Value} (hr : RepV w' (Mof M ρr) ρr r v)
    (hcase : (∀ b, Mof Mx ρ b → M b) ∨ (hasRo 3 r = false ∧ objs.any objRo = false)) (d : Option Nat) : Goes tt w0 FP Mx ρ0 (s.joined objs d r) (a.put d v) w' := by
  have hlenS : ρ.length = s.hp.length := h.env.len
  have hL1 : Later w (Mof Mx ρ) w' (Mof Mx (ρ ++ ρr)) := by
    refine ⟨hg.size, fun b hb _ => hg.block b hb, fun b hb hm => ?_⟩
    rcases hm with hm | ⟨c, hc, hcb⟩
    · exact .inl hm
    · rcases List.mem_append.1 hc with hc | hc
      · exact .inr ⟨c, hc, hcb⟩
      · obtain ⟨i, hi⟩ := List.getElem?_of_mem hc
        exact absurd (hfr i c b hi hcb) (by omega)
  have hsh := fun {M M' : Nat → Prop} => shift_rep (w := w') (w' := w') (M := M) (M' := M') (ρ1 := ρ) (ρr := ρr) hlenS
  have hL2 : (∀ b, Mof Mx ρ b → M b) → Later w' (Mof M ρr) w' (Mof Mx (ρ ++ ρr)) := by
    intro hM
    refine ⟨Nat.le_refl _, fun _ _ _ => rfl, fun b _ hm => ?_⟩
    rcases hm with hm | ⟨c, hc, hcb⟩
    · exact .inl (hM b (.inl hm))
    · rcases List.mem_append.1 hc with hc | hc
      · exact .inl (hM b (.inr ⟨c, hc, hcb⟩))
      · exact .inr ⟨c, hc, hcb⟩
  have hr' : RepV w' (Mof Mx (ρ ++ ρr)) (ρ ++ ρr) (mapv (shiftR s.hp.length) 3 r) v := by
    rcases hcase with hM | ⟨hno, _⟩
    · exact hr.mapv _ (hL2 hM) hsh 3
    · exact hr.mapvN _ hsh 3 hno
  have hobj : ∀ (o : AObj) (c : CObj), o ∈ objs → RepO tt' w' (Mof M ρr) ρr o c → RepO tt w' (Mof Mx (ρ ++ ρr)) (ρ ++ ρr) (mapObj (shiftR s.hp.length) o) c := by
    intro o c hm ho
    have hfit' := List.all_eq_true.1 hfit o hm
    cases ho with
    | dead c hc => exact .dead c hc
    | @var T b cs us hb hl h1 =>
      refine .var hb ?_ h1
      rcases hcase with hM | ⟨_, hno⟩
      · exact hl.mapv _ (hL2 hM) hsh 3
      · refine hl.mapvN _ hsh 3 fun x hx => ?_
        have := List.any_eq_false.1 hno _ hm
        simp only [objRo, Bool.not_eq_true] at this
        simpa using List.any_eq_false.1 this x hx
    | @arr E sz p v us ho hl h1 hp hw hs hE =>
      refine .arr ho ?_ h1 hp hw hs hfit'
      rcases hcase with hM | ⟨_, hno⟩
      · exact hl.pure (hL2 hM) hp
      · have := List.any_eq_false.1 hno _ hm
        cases p with
        | rows n l => simp [objRo] at this
        | bytes l => exact hl.scalar fun x hx => by simp [Pay.cells] at hx; obtain ⟨y, _, rfl⟩ := hx; rfl
        | ints k l => exact hl.scalar fun x hx => by simp [Pay.cells] at hx; obtain ⟨y, _, rfl⟩ := hx; rfl
  refine ⟨ρ ++ ρr, Rel.put (s := ⟨s.fr, s.hp ++ objs.map (mapObj (shiftR s.hp.length))⟩) ⟨⟨?_, ?_, ?_, ?_, ?_⟩, ?_, h.defers, h.keeps.grew hg, ?_, ?_, ?_⟩ d hr'⟩
  · simp [hlenS, hE.len]
  · intro i o c ho hc
    rcases Nat.lt_or_ge i ρ.length with hi | hi
    · rw [List.getElem?_append_left (by omega)] at ho
      rw [List.getElem?_append_left hi] at hc
      exact (h.env.obj i o c ho hc).later' hL1 (fun b hb => hg.block b (h.env.block_lt hc hb)) (fun o c e => by
        rw [List.getElem?_append_left (by
          rcases Nat.lt_or_ge o ρ.length with h' | h'
          · exact h'
          · rw [List.getElem?_eq_none h'] at e; cases e)]
        exact e)
    · rw [List.getElem?_append_right (by omega), List.getElem?_map, Option.map_eq_some_iff] at ho
      obtain ⟨o', ho', rfl⟩ := ho
      rw [List.getElem?_append_right hi] at hc
      rw [← hlenS] at ho'
      exact hobj o' c (List.mem_of_getElem? ho') (hE.obj _ _ _ ho' hc)
  · intro i j ci cj b hne hi hj hbi hbj
    rcases Nat.lt_or_ge i ρ.length with h1 | h1 <;> rcases Nat.lt_or_ge j ρ.length with h2 | h2
    · rw [List.getElem?_append_left h1] at hi; rw [List.getElem?_append_left h2] at hj
      exact h.env.sep i j ci cj b hne hi hj hbi hbj
    · rw [List.getElem?_append_left h1] at hi; rw [List.getElem?_append_right h2] at hj
      have e1 := h.env.block_lt hi hbi
      have e2 := hfr _ _ _ hj hbj
      omega
    · rw [List.getElem?_append_right h1] at hi; rw [List.getElem?_append_left h2] at hj
      have e1 := h.env.block_lt hj hbj
      have e2 := hfr _ _ _ hi hbi
      omega
    · rw [List.getElem?_append_right h1] at hi; rw [List.getElem?_append_right h2] at hj
      exact hE.sep _ _ ci cj b (by omega) hi hj hbi hbj
  · intro i c b hi hb hm
    rcases Nat.lt_or_ge i ρ.length with h1 | h1
    · rw [List.getElem?_append_left h1] at hi
      exact h.env.mx i c b hi hb hm
    · rw [List.getElem?_append_right h1] at hi
      have e1 := hfr _ _ _ hi hb
      have e2 := h.env.lt b hm
      omega
  · intro b hb
    exact Nat.lt_of_lt_of_le (h.env.lt b hb) hg.size
  · exact h.fr.later hL1 (fun o c e => by
      rw [List.getElem?_append_left (by
        rcases Nat.lt_or_ge o ρ.length with h' | h'
        · exact h'
        · rw [List.getElem?_eq_none h'] at e; cases e)]
      exact e)
  · intro i c b hi hb
    rcases Nat.lt_or_ge i ρ.length with h1 | h1
    · rw [List.getElem?_append_left h1] at hi
      exact h.fresh i c b hi hb
    · rw [List.getElem?_append_right h1] at hi
      exact .inr (Nat.le_trans h.keeps.size (hfr _ _ _ hi hb))
  · intro i b hi
    have := h.hold i b hi
    rw [List.getElem?_append_left (by
      rcases Nat.lt_or_ge i ρ.length with h' | h'
      · exact h'
      · rw [List.getElem?_eq_none h'] at this; cases this)]
    exact this
  · rw [List.length_append]; have := h.old; omega
end
end Go.Proofs.YtcmhpngmjjcloaaGm
