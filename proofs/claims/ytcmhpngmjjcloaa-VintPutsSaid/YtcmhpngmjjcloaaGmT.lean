/- A part of a reader of loaded code that is proved sound; no condition. -/
import Derived.Test.YtcmhpngmjjcloaaGmS
namespace Go.Proofs.YtcmhpngmjjcloaaGm

section
variable {P : Program} {tt : Tab} {w w' w0 : World} {FP Mx M M' : Nat → Prop} {ρ ρ0 ρ' : List CObj} {hp : List AObj} {s : St} {a : Act}

theorem RepL.setSame {l : List AV} {vs : List Value} (h : RepL w M ρ l vs) {t : Nat} {v : AV} (hv : RepV w M ρ v (vs.getD t undef)) : RepL w M ρ (setN l t v) vs := by
  rcases Nat.lt_or_ge t vs.length with ht | ht
  · have := h.set t hv
    have e : vs.set t (vs.getD t undef) = vs := by
      apply List.ext_getElem?
      intro i
      rw [List.getElem?_set]
      split
      · rename_i hi; subst hi; simp [List.getD, ht]
      · rfl
    rw [e] at this; exact this
  · rw [setN_eq, List.set_eq_of_length_le (by rw [h.length]; exact ht)]; exact h

theorem emptyPay_wf {tt : Tab} {E : Nat} (h : 0 < (emptyPay tt E).sz) : (emptyPay tt E).wf := by
  unfold emptyPay at h ⊢
  split
  · trivial
  · trivial
  · rename_i e he hne
    refine ⟨?_, by simp⟩
    simp_all [Pay.sz]
  · refine ⟨?_, by simp⟩
    simp_all [Pay.sz]

theorem Rel.owned : ∀ (l : List (Nat × Nat)) {ρ : List CObj} {s : St}, Rel tt w0 FP Mx ρ0 ρ s a w → Goes tt w0 FP Mx ρ0 (s.owned tt l) a w
  | [], ρ, s, h => ⟨ρ, h⟩
  | (t, E) :: r, ρ, s, h => by
    unfold St.owned
    split
    · rename_i hn
      cases hb : Nat.blt 0 (emptyPay tt E).sz with
      | false => exact Rel.owned r h
      | true =>
        have hpos : 0 < (emptyPay tt E).sz := by simp [Nat.blt] at hb; omega
        have hv := h.fr.nth t
        rw [hn] at hv
        have key := h.newObj (w' := w) (.refl w) (o := .arr E (emptyPay tt E)) (c := .row (.slice none 0 0) (emptyPay tt E).sz) (fun b hb => by cases hb)
          (.arr (us := []) (by rw [emptyPay_len]; exact World.ownsRow_nil w 0 E _) (by rw [emptyPay_cells]; exact .nil) (by simp) (by rw [emptyPay_cells]; simp) (emptyPay_wf hpos) rfl (emptyPay_kind tt E))
        refine Rel.owned r (s := ⟨setN s.fr t (.own s.hp.length), s.hp ++ [.arr E (emptyPay tt E)]⟩) ⟨key.env, ?_, key.defers, key.keeps, key.fresh, key.hold, key.old⟩
        refine key.fr.setSame ?_
        generalize hu : a.tmps.toList.getD t undef = u at hv
        cases hv
        exact newRow_own h.env rfl
    · exact Rel.owned r h

theorem RepL.keep (keep : List Nat) : ∀ {l : List AV} {vs : List Value} (i : Nat), RepL w M ρ l vs → RepL w M ρ (keepF keep l i) vs
  | _, _, _, .nil => .nil
  | _, _, i, .cons h t => by
    unfold keepF
    refine .cons ?_ (t.keep keep (i + 1))
    cases memN keep i with
    | true => exact h
    | false => exact .top _

theorem reach_prefix : ∀ (n : Nat) (todo acc : List Nat), ∃ r, reach hp n todo acc = acc ++ r
  | 0, _, acc => ⟨[], by simp [reach]⟩
  | n + 1, [], acc => ⟨[], by simp [reach]⟩
  | n + 1, o :: todo, acc => by
    unfold reach
    cases memN acc o with
    | true => exact reach_prefix n todo acc
    | false =>
      obtain ⟨r, hr⟩ := reach_prefix n (todo ++ objRefs (hget hp o)) (acc ++ [o])
      exact ⟨o :: r, by rw [cond_false, hr]; simp⟩

theorem reach_nodup : ∀ (n : Nat) (todo acc : List Nat), acc.Nodup → (reach hp n todo acc).Nodup
  | 0, _, acc, h => by simpa [reach] using h
  | n + 1, [], acc, h => by simpa [reach] using h
  | n + 1, o :: todo, acc, h => by
    unfold reach
    cases hb : memN acc o with
    | true => exact reach_nodup n todo acc h
    | false =>
      refine reach_nodup n _ _ ?_
      rw [List.nodup_append]
      refine ⟨h, by simp, ?_⟩
      rintro x hx y hy rfl
      simp at hy; subst hy
      rw [← memN_iff, hb] at hx; cases hx

theorem upto_eq : ∀ n, upto n = List.range n
  | 0 => rfl
  | n + 1 => by rw [upto, upto_eq n, List.range_succ]

theorem posN_some : ∀ {l : List Nat} {o i : Nat}, posN l o = some i → l[i]? = some o
  | [], _, _, h => by simp [posN] at h
  | a :: l, o, i, h => by
    simp only [posN] at h
    cases hb : Nat.beq a o with
    | true =>
      simp only [hb, cond_true, Option.some.injEq] at h
      subst h
      have := Nat.eq_of_beq_eq_true hb
      simp [this]
    | false =>
      simp only [hb, cond_false] at h
      split at h
      · rename_i j hj
        cases h
        simpa using posN_some hj
      · cases h

theorem hget_get {l : List AObj} {i : Nat} : hget l i = (l[i]?).getD .dead := by
  induction l generalizing i with
  | nil => rfl
  | cons y l ih => cases i with
    | zero => rfl
    | succ i => simpa [hget] using ih

theorem Rel.gc (h : Rel tt w0 FP Mx ρ0 ρ s a w) {h0 : Nat} (hh : ρ0.length = h0) : Goes tt w0 FP Mx ρ0 (s.gc h0) a w := by
  unfold St.gc
  dsimp only
  generalize hids : reach s.hp 200 (s.fr.flatMap (refsIn 4) ++ (upto h0).flatMap fun i => objRefs (hget s.hp i)) (upto h0) = ids
  have hnd : ids.Nodup := by rw [← hids]; exact reach_nodup _ _ _ (by rw [upto_eq]; exact List.nodup_range)
  obtain ⟨r, hr⟩ : ∃ r, ids = upto h0 ++ r := by rw [← hids]; exact reach_prefix _ _ _
  let ρ1 : List CObj := ids.map fun o => (ρ[o]?).getD .gone
  have hget1 : ∀ (i : Nat) (c : CObj), ρ1[i]? = some c → ∃ o, ids[i]? = some o ∧ c = (ρ[o]?).getD .gone := by
    intro i c hc
    simp only [ρ1, List.getElem?_map, Option.map_eq_some_iff] at hc
    obtain ⟨o, ho, rfl⟩ := hc
    exact ⟨o, ho, rfl⟩
  have hold1 : ∀ (i : Nat) (c : CObj) (b : Nat), ρ1[i]? = some c → c.block? = some b → ∃ o, ids[i]? = some o ∧ ρ[o]? = some c := by
    intro i c b hc hb
    obtain ⟨o, ho, rfl⟩ := hget1 i c hc
    refine ⟨o, ho, ?_⟩
    cases hx : ρ[o]? with
    | none => rw [hx] at hb; cases hb
    | some d => rfl
  have hsub : ∀ b, Mof Mx ρ1 b → Mof Mx ρ b := by
    rintro b (hb | ⟨d, hd, hb⟩)
    · exact .inl hb
    · obtain ⟨i, hi⟩ := List.getElem?_of_mem hd
      obtain ⟨o, _, ho⟩ := hold1 i d b hi hb
      exact .inr ⟨d, List.mem_of_getElem? ho, hb⟩
  have hL : Later w (Mof Mx ρ) w (Mof Mx ρ1) := ⟨Nat.le_refl _, fun _ _ _ => rfl, fun b _ hb => hsub b hb⟩
  have hpos : ∀ {o i : Nat} {c : CObj}, posN ids o = some i → ρ[o]? = some c → ρ1[i]? = some c := by
    intro o i c hp ho
    simp [ρ1, List.getElem?_map, posN_some hp, ho]
  have hf : ∀ x v, isRef x = true → RepV w (Mof Mx ρ) ρ x v → RepV w (Mof Mx ρ1) ρ1 (renum ids x) v := by
    intro x v hx hr
    cases x with
    | own o =>
      simp only [renum]
      cases hr with | own e e1 =>
      split
      · rename_i i hi; exact .own (hpos hi e) e1
      · exact .top _
    | sub o k n =>
      simp only [renum]
      split
      · rename_i i hi
        cases hr with
        | subN e => exact .subN (hpos hi e)
        | sub e hle had => exact .sub (hpos hi e) hle had
      · exact .top _
    | aptr o j off =>
      simp only [renum]
      cases hr with | aptr e hj =>
      split
      · rename_i i hi; exact .aptr (hpos hi e) hj
      · exact .top _
    | ptr o off =>
      simp only [renum]
      cases hr with | ptr e =>
      split
      · rename_i i hi; exact .ptr (hpos hi e)
      · exact .top _
    | mapo o =>
      simp only [renum]
      cases hr with | mapo e =>
      split
      · rename_i i hi; exact .mapo (hpos hi e)
      · exact .top _
    | _ => cases hx
  refine ⟨ρ1, ⟨⟨?_, ?_, ?_, ?_, h.env.lt⟩, h.fr.mapv _ hL hf 4, h.defers, h.keeps, ?_, ?_, ?_⟩⟩
  · simp [ρ1]
  · intro i o c ho hc
    obtain ⟨k, hk, rfl⟩ := hget1 i c hc
    simp only [List.getElem?_map, hk, Option.map_some, Option.some.injEq] at ho
    subst ho
    rw [hget_get]
    rcases Nat.lt_or_ge k s.hp.length with hlt | hge
    · have e1 : s.hp[k]? = some s.hp[k] := List.getElem?_eq_getElem hlt
      have hlt' : k < ρ.length := by rw [h.env.len]; exact hlt
      have e2 : ρ[k]? = some ρ[k] := List.getElem?_eq_getElem hlt'
      rw [e1, e2]
      exact (h.env.obj k _ _ e1 e2).later hL (fun _ _ => rfl) hf
    · rw [List.getElem?_eq_none hge, List.getElem?_eq_none (by rw [h.env.len]; exact hge)]
      exact .dead _ rfl
  · intro i j ci cj b hne hi hj hb hb'
    obtain ⟨oi, h1, h2⟩ := hold1 i ci b hi hb
    obtain ⟨oj, h3, h4⟩ := hold1 j cj b hj hb'
    refine h.env.sep oi oj ci cj b ?_ h2 h4 hb hb'
    rintro rfl
    exact hne ((List.getElem?_inj (by
      rcases Nat.lt_or_ge i ids.length with h' | h'
      · exact h'
      · rw [List.getElem?_eq_none h'] at h1; cases h1) hnd).1 (h1.trans h3.symm))
  · intro i c b hc hb
    obtain ⟨o, _, ho⟩ := hold1 i c b hc hb
    exact h.env.mx o c b ho hb
  · intro i c b hc hb
    obtain ⟨o, _, ho⟩ := hold1 i c b hc hb
    exact h.fresh o c b ho hb
  · intro i b hi
    have hlt : i < h0 := by
      rw [← hh]
      rcases Nat.lt_or_ge i ρ0.length with h' | h'
      · exact h'
      · rw [List.getElem?_eq_none h'] at hi; cases hi
    have e : ids[i]? = some i := by
      rw [hr, List.getElem?_append_left (by rw [upto_eq]; simpa using hlt), upto_eq]
      simp [hlt]
    simp [ρ1, List.getElem?_map, e, h.hold i b hi]
  · simp only [ρ1, List.length_map, hr, List.length_append, upto_eq, List.length_range]; omega

theorem Rel.mask (h : Rel tt w0 FP Mx ρ0 ρ s a w) {h0 : Nat} (hh : ρ0.length = h0) (m : Mask) : Goes tt w0 FP Mx ρ0 (maskSt tt h0 m s) a w := by
  unfold maskSt
  obtain ⟨ρ1, h1⟩ := h.owned m.own
  have h2 : Rel tt w0 FP Mx ρ0 ρ1 ⟨keepF m.keep (s.owned tt m.own).fr 0, (s.owned tt m.own).hp⟩ a w := ⟨h1.env, h1.fr.keep m.keep 0, h1.defers, h1.keeps, h1.fresh, h1.hold, h1.old⟩
  exact h2.gc hh

theorem Rel.maskAt (h : Rel tt w0 FP Mx ρ0 ρ s a w) {h0 : Nat} (hh : ρ0.length = h0) (ms : List (Nat × Mask)) (key : Nat) : Goes tt w0 FP Mx ρ0 (maskAt tt h0 ms key s) a w := by
  unfold YtcmhpngmjjcloaaGm.maskAt
  split
  · exact h.mask hh _
  · exact ⟨ρ, h⟩
end
end Go.Proofs.YtcmhpngmjjcloaaGm
