/- A part of a reader of loaded code that is proved sound; no condition. -/
import Derived.Test.YtcmhpngmjjcloaaGmJ
namespace Go.Proofs.YtcmhpngmjjcloaaGm

theorem Grew.grownBy {w w' : World} (h : Grew w w') (row : Option Nat) : w.grownBy w' row := ⟨h.os, h.tape, h.output, h.size, fun k hk _ => h.block k hk⟩

section
variable {P : Program} {tt : Tab} {w w' w0 : World} {FP Mx : Nat → Prop} {ρ ρ0 : List CObj} {hp : List AObj} {s : St} {a : Act}

theorem RepO.block_lt {M : Nat → Prop} {o : AObj} {c : CObj} (h : RepO tt w M ρ o c) {b : Nat} (hb : c.block? = some b) : b < w.heap.size := by
  cases h with
  | dead c hc => rw [hc] at hb; cases hb
  | var hh => cases hb; exact (Array.getElem?_eq_some_iff.1 hh).1
  | arr ho => exact (ho.lt b hb).2

theorem Env.block_lt (h : Env tt w Mx ρ hp) {i : Nat} {c : CObj} {b : Nat} (hi : ρ[i]? = some c) (hb : c.block? = some b) : b < w.heap.size := by
  have hlt : i < hp.length := by
    rw [← h.len]
    rcases Nat.lt_or_ge i ρ.length with h' | h'
    · exact h'
    · rw [List.getElem?_eq_none h'] at hi; cases hi
  exact (h.obj i _ c (List.getElem?_eq_getElem hlt) hi).block_lt hb

theorem Env.mof_lt (h : Env tt w Mx ρ hp) {b : Nat} (hb : Mof Mx ρ b) : b < w.heap.size := by
  rcases hb with hb | ⟨c, hc, hb⟩
  · exact h.lt b hb
  · obtain ⟨i, hi⟩ := List.getElem?_of_mem hc
    exact h.block_lt hi hb

/-- An object whose block stays as it was, in a later world, with its references told anew. -/
theorem RepO.later {M M' : Nat → Prop} {ρ' : List CObj} {f : AV → AV} {o : AObj} {c : CObj} (h : RepO tt w M ρ o c) (hL : Later w M w' M')
    (hb : ∀ b, c.block? = some b → w'.heap[b]? = w.heap[b]?) (hf : ∀ a v, isRef a = true → RepV w M ρ a v → RepV w' M' ρ' (f a) v) : RepO tt w' M' ρ' (mapObj f o) c := by
  cases h with
  | dead c hc => exact .dead c hc
  | var hh hl h1 => exact .var (by rw [hb _ rfl]; exact hh) (hl.mapv f hL hf 3) h1
  | @arr E sz p v us ho hl h1 hp hw hs hE =>
    refine .arr ?_ (hl.pure hL hp) h1 hp hw hs hE
    refine ⟨ho.1, ?_⟩
    rcases ho.2 with hn | ⟨g, cap, cur, rfl, hg0, hg, rest⟩
    · exact .inl hn
    · exact .inr ⟨g, cap, cur, rfl, hg0, by rw [hb g rfl]; exact hg, rest⟩

theorem RepO.later' {M M' : Nat → Prop} {ρ' : List CObj} {o : AObj} {c : CObj} (h : RepO tt w M ρ o c) (hL : Later w M w' M')
    (hb : ∀ b, c.block? = some b → w'.heap[b]? = w.heap[b]?) (hρ : ∀ (o : Nat) (c : CObj), ρ[o]? = some c → ρ'[o]? = some c) : RepO tt w' M' ρ' o c := by
  cases h with
  | dead c hc => exact .dead c hc
  | var hh hl h1 => exact .var (by rw [hb _ rfl]; exact hh) (hl.later hL hρ) h1
  | @arr E sz p v us ho hl h1 hp hw hs hE =>
    refine .arr ?_ (hl.pure hL hp) h1 hp hw hs hE
    refine ⟨ho.1, ?_⟩
    rcases ho.2 with hn | ⟨g, cap, cur, rfl, hg0, hg, rest⟩
    · exact .inl hn
    · exact .inr ⟨g, cap, cur, rfl, hg0, by rw [hb g rfl]; exact hg, rest⟩

theorem Env.grew (h : Env tt w Mx ρ hp) (hg : Grew w w') : Env tt w' Mx ρ hp where
  len := h.len
  obj i o c ho hc := (h.obj i o c ho hc).later' (hg.later _) (fun b hb => hg.block b (h.block_lt hc hb)) (fun _ _ e => e)
  sep := h.sep
  mx := h.mx
  lt b hb := Nat.lt_of_lt_of_le (h.lt b hb) hg.size

theorem Keeps.grew (h : Keeps w0 w FP) (hg : Grew w w') : Keeps w0 w' FP :=
  ⟨hg.os.trans h.os, hg.tape.trans h.tape, hg.output.trans h.output, Nat.le_trans h.size hg.size, fun b hb hn => (hg.block b (Nat.lt_of_lt_of_le hb h.size)).trans (h.block b hb hn)⟩

theorem Rel.grew (h : Rel tt w0 FP Mx ρ0 ρ s a w) (hg : Grew w w') : Rel tt w0 FP Mx ρ0 ρ s a w' :=
  ⟨h.env.grew hg, h.fr.later (hg.later _) (fun _ _ e => e), h.defers, h.keeps.grew hg, h.fresh, h.hold, h.old⟩

theorem put_tmps (a : Act) (d : Option Nat) (v : Value) : (a.put d v).tmps.toList = (match d with | some t => a.tmps.toList.set t v | none => a.tmps.toList) := by
  cases d <;> simp [Act.put]

theorem Rel.put (h : Rel tt w0 FP Mx ρ0 ρ s a w) (d : Option Nat) {r : AV} {u : Value} (hr : RepV w (Mof Mx ρ) ρ r u) : Rel tt w0 FP Mx ρ0 ρ (s.put d r) (a.put d u) w := by
  cases d with
  | none => exact h
  | some t =>
    refine ⟨h.env, ?_, h.defers, h.keeps, h.fresh, h.hold, h.old⟩
    rw [put_tmps]
    exact h.fr.set t hr

/-- What is asked of the state behind an operation. -/
def Goes (tt : Tab) (w0 : World) (FP Mx : Nat → Prop) (ρ0 : List CObj) (s' : St) (a' : Act) (w' : World) : Prop := ∃ ρ', Rel tt w0 FP Mx ρ0 ρ' s' a' w'

theorem rop_step (hT : TabOk P tt) (h : Rel tt w0 FP Mx ρ0 ρ s a w) (o : Oper) {s' : St}
    (hs : (rop (R := Option St) none tt s.hp (aval s.fr) o.op fun v => some (s.put o.dst v)) = some s') :
    ∃ u w', (execOp a.eval o).run P w = .ok (.value u) w' ∧ Goes tt w0 FP Mx ρ0 s' (a.put o.dst u) w' := by
  rw [rop_cps] at hs
  obtain ⟨r, hr, hs⟩ := elim_some hs
  cases hs
  obtain ⟨u, w', h1, h2, h3⟩ := rop_sound hT h.env h.fr (fun b hb => h.env.mof_lt hb) o hr
  exact ⟨u, w', h1, ρ, (h.grew h2).put o.dst h3⟩

/-- A new object. -/
theorem Mof_snoc {c : CObj} {b : Nat} : Mof Mx (ρ ++ [c]) b ↔ Mof Mx ρ b ∨ c.block? = some b := by
  unfold Mof
  constructor
  · rintro (h | ⟨d, hd, hb⟩)
    · exact .inl (.inl h)
    · rcases List.mem_append.1 hd with hd | hd
      · exact .inl (.inr ⟨d, hd, hb⟩)
      · rw [List.mem_singleton.1 hd] at hb; exact .inr hb
  · rintro ((h | ⟨d, hd, hb⟩) | h)
    · exact .inl h
    · exact .inr ⟨d, by simp [hd], hb⟩
    · exact .inr ⟨c, by simp, h⟩

theorem getElem?_snoc {α : Type} {l : List α} {x y : α} {i : Nat} (h : (l ++ [x])[i]? = some y) : (i < l.length ∧ l[i]? = some y) ∨ (i = l.length ∧ y = x) := by
  rcases Nat.lt_or_ge i l.length with hi | hi
  · exact .inl ⟨hi, by rw [← h, List.getElem?_append_left hi]⟩
  · rw [List.getElem?_append_right hi] at h
    cases hd : i - l.length with
    | zero => rw [hd] at h; simp at h; exact .inr ⟨by omega, h.symm⟩
    | succ n => rw [hd] at h; simp at h

theorem snoc_left {α : Type} {l : List α} {x y : α} {i : Nat} (h : l[i]? = some y) : (l ++ [x])[i]? = some y := by
  have hi : i < l.length := by
    rcases Nat.lt_or_ge i l.length with hi | hi
    · exact hi
    · rw [List.getElem?_eq_none hi] at h; cases h
  rw [List.getElem?_append_left hi]; exact h

theorem Rel.newObj (h : Rel tt w0 FP Mx ρ0 ρ s a w) (hg : Grew w w') {o : AObj} {c : CObj} (hc : ∀ b, c.block? = some b → w.heap.size ≤ b ∧ b < w'.heap.size)
    (ho : RepO tt w' (Mof Mx (ρ ++ [c])) (ρ ++ [c]) o c) : Rel tt w0 FP Mx ρ0 (ρ ++ [c]) ⟨s.fr, s.hp ++ [o]⟩ a w' := by
  have hL : Later w (Mof Mx ρ) w' (Mof Mx (ρ ++ [c])) := by
    refine ⟨hg.size, fun b hb _ => hg.block b hb, fun b hb hm => ?_⟩
    rcases Mof_snoc.1 hm with hm | hm
    · exact hm
    · have := (hc b hm).1; omega
  have hρ : ∀ (o : Nat) (d : CObj), ρ[o]? = some d → (ρ ++ [c])[o]? = some d := fun _ _ e => snoc_left e
  refine ⟨⟨?_, ?_, ?_, ?_, ?_⟩, h.fr.later hL hρ, h.defers, h.keeps.grew hg, ?_, fun i b e => snoc_left (h.hold i b e), by simp; have := h.old; omega⟩
  · simp [h.env.len]
  · intro i x d hx hd
    rcases getElem?_snoc hx with ⟨hi, hx⟩ | ⟨hi, rfl⟩
    · rcases getElem?_snoc hd with ⟨_, hd⟩ | ⟨hi', _⟩
      · exact (h.env.obj i x d hx hd).later' hL (fun b hb => hg.block b (h.env.block_lt hd hb)) hρ
      · have := h.env.len; omega
    · rcases getElem?_snoc hd with ⟨hi', _⟩ | ⟨_, rfl⟩
      · have := h.env.len; omega
      · exact ho
  · intro i j ci cj b hne hi hj hb hb'
    rcases getElem?_snoc hi with ⟨hi1, hi2⟩ | ⟨hi1, ei⟩
    · rcases getElem?_snoc hj with ⟨hj1, hj2⟩ | ⟨hj1, ej⟩
      · exact h.env.sep i j ci cj b hne hi2 hj2 hb hb'
      · subst ej; have := h.env.block_lt hi2 hb; have := (hc b hb').1; omega
    · rcases getElem?_snoc hj with ⟨hj1, hj2⟩ | ⟨hj1, ej⟩
      · subst ei; have := h.env.block_lt hj2 hb'; have := (hc b hb).1; omega
      · omega
  · intro i d b hi hb hm
    rcases getElem?_snoc hi with ⟨_, hi⟩ | ⟨_, rfl⟩
    · exact h.env.mx i d b hi hb hm
    · have := h.env.lt b hm; have := (hc b hb).1; omega
  · exact fun b hb => Nat.lt_of_lt_of_le (h.env.lt b hb) hg.size
  · intro i d b hi hb
    rcases getElem?_snoc hi with ⟨_, hi⟩ | ⟨_, rfl⟩
    · exact h.fresh i d b hi hb
    · right; have := (hc b hb).1; have := h.keeps.size; omega

theorem setN_get {l : List AV} {i : Nat} {v : AV} : (setN l i v).length = l.length := by
  induction l generalizing i with
  | nil => rfl
  | cons a l ih => cases i <;> simp [setN, ih]

theorem hset_get : ∀ {l : List AObj} {i j : Nat} {v x : AObj}, (hset l i v)[j]? = some x → (j = i ∧ x = v) ∨ (j ≠ i ∧ l[j]? = some x)
  | [], _, _, _, _, h => by simp [hset] at h
  | _ :: l, 0, 0, _, _, h => by simp [hset] at h; exact .inl ⟨rfl, h.symm⟩
  | _ :: l, 0, j + 1, _, _, h => by simp [hset] at h; exact .inr ⟨by omega, by simpa using h⟩
  | _ :: l, i + 1, 0, _, _, h => by simp [hset] at h; exact .inr ⟨by omega, by simp [h]⟩
  | _ :: l, i + 1, j + 1, _, _, h => by
    simp [hset] at h
    rcases hset_get h with ⟨h1, h2⟩ | ⟨h1, h2⟩
    · exact .inl ⟨by omega, h2⟩
    · exact .inr ⟨by omega, by simpa using h2⟩

theorem hset_length : ∀ {l : List AObj} {i : Nat} {v : AObj}, (hset l i v).length = l.length
  | [], _, _ => rfl
  | _ :: _, 0, _ => rfl
  | _ :: l, i + 1, v => by simp [hset, hset_length (l := l)]

theorem Keeps.step (h : Keeps w0 w FP) (hos : w'.os = w.os) (ht : w'.tape = w.tape) (ho : w'.output = w.output) (hs : w.heap.size ≤ w'.heap.size)
    (hb : ∀ b, b < w0.heap.size → ¬ FP b → w'.heap[b]? = w.heap[b]?) : Keeps w0 w' FP :=
  ⟨hos.trans h.os, ht.trans h.tape, ho.trans h.output, Nat.le_trans h.size hs, fun b h1 h2 => (hb b h1 h2).trans (h.block b h1 h2)⟩

/-- One object in its place changes what it holds; every reference to the others stays. -/
theorem Rel.change (h : Rel tt w0 FP Mx ρ0 ρ s a w) {i : Nat} {c c' : CObj} {o' : AObj} {f : AV → AV} (hc : ρ[i]? = some c)
    (hos : w'.os = w.os) (ht : w'.tape = w.tape) (hou : w'.output = w.output) (hsz : w.heap.size ≤ w'.heap.size)
    (hblk : ∀ b, b < w.heap.size → c.block? ≠ some b → w'.heap[b]? = w.heap[b]?)
    (hnew : ∀ b, c'.block? = some b → (c.block? = some b ∨ w.heap.size ≤ b) ∧ b < w'.heap.size)
    (hk : ∀ b, c = .blk b → c' = .blk b)
    (hf : ∀ a v, isRef a = true → RepV w (Mof Mx ρ) ρ a v → RepV w' (Mof Mx (ρ.set i c')) (ρ.set i c') (f a) v)
    (ho : RepO tt w' (Mof Mx (ρ.set i c')) (ρ.set i c') o' c') :
    Rel tt w0 FP Mx ρ0 (ρ.set i c') ⟨(s.mapRefs f).fr, hset (s.mapRefs f).hp i o'⟩ a w' := by
  have hin : Mof Mx ρ = fun b => Mof Mx ρ b := rfl
  have hL : Later w (Mof Mx ρ) w' (Mof Mx (ρ.set i c')) := by
    refine ⟨hsz, fun b hb hm => hblk b hb fun e => hm (.inr ⟨c, List.mem_of_getElem? hc, e⟩), fun b hb hm => ?_⟩
    rcases hm with hm | ⟨d, hd, hm⟩
    · exact .inl hm
    · rcases List.mem_or_eq_of_mem_set hd with hd | rfl
      · exact .inr ⟨d, hd, hm⟩
      · rcases (hnew b hm).1 with e | e
        · exact .inr ⟨c, List.mem_of_getElem? hc, e⟩
        · omega
  have get : ∀ {j : Nat} {d : CObj}, (ρ.set i c')[j]? = some d → (j = i ∧ d = c') ∨ (j ≠ i ∧ ρ[j]? = some d) := by
    intro j d hd
    rw [List.getElem?_set] at hd
    by_cases e : i = j
    · subst e
      left
      rw [if_pos rfl] at hd
      split at hd
      · cases hd; exact ⟨rfl, rfl⟩
      · cases hd
    · rw [if_neg e] at hd; exact .inr ⟨fun h => e h.symm, hd⟩
  have other : ∀ {j : Nat} {d : CObj}, j ≠ i → ρ[j]? = some d → ∀ b, d.block? = some b → w'.heap[b]? = w.heap[b]? := by
    intro j d hne hd b hb
    exact hblk b (h.env.block_lt hd hb) fun e => h.env.sep j i d c b hne hd hc hb e
  refine ⟨⟨?_, ?_, ?_, ?_, ?_⟩, h.fr.mapv f hL hf 4, h.defers, ?_, ?_, ?_, by simpa using h.old⟩
  · simp [hset_length, St.mapRefs, h.env.len]
  · intro j x d hx hd
    rcases hset_get hx with ⟨e, rfl⟩ | ⟨hne, hx⟩
    · rcases get hd with ⟨_, rfl⟩ | ⟨hne, _⟩
      · exact ho
      · exact absurd e hne
    · rcases get hd with ⟨e, _⟩ | ⟨_, hd⟩
      · exact absurd e hne
      · simp only [St.mapRefs, List.getElem?_map, Option.map_eq_some_iff] at hx
        obtain ⟨y, hy, rfl⟩ := hx
        exact (h.env.obj j y d hy hd).later hL (other hne hd) hf
  · intro j k cj ck b hne hj hk' hb hb'
    rcases get hj with ⟨e1, e2⟩ | ⟨hnj, hj2⟩
    · rcases get hk' with ⟨e, _⟩ | ⟨hnk, hk2⟩
      · omega
      · subst e2
        rcases (hnew b hb).1 with e | e
        · exact h.env.sep k i ck c b hnk hk2 hc hb' e
        · have := h.env.block_lt hk2 hb'; omega
    · rcases get hk' with ⟨e1, e2⟩ | ⟨hnk, hk2⟩
      · subst e2
        rcases (hnew b hb').1 with e | e
        · exact h.env.sep j i cj c b hnj hj2 hc hb e
        · have := h.env.block_lt hj2 hb; omega
      · exact h.env.sep j k cj ck b hne hj2 hk2 hb hb'
  · intro j d b hj hb hm
    rcases get hj with ⟨rfl, rfl⟩ | ⟨_, hj⟩
    · rcases (hnew b hb).1 with e | e
      · exact h.env.mx j c b hc e hm
      · have := h.env.lt b hm; omega
    · exact h.env.mx j d b hj hb hm
  · exact fun b hb => Nat.lt_of_lt_of_le (h.env.lt b hb) hsz
  · refine h.keeps.step hos ht hou hsz fun b hb hn => hblk b (Nat.lt_of_lt_of_le hb h.keeps.size) fun e => ?_
    rcases h.fresh i c b hc e with h1 | h1
    · exact hn h1
    · omega
  · intro j d b hj hb
    rcases get hj with ⟨rfl, rfl⟩ | ⟨_, hj⟩
    · rcases (hnew b hb).1 with e | e
      · exact h.fresh j c b hc e
      · right; have := h.keeps.size; omega
    · exact h.fresh j d b hj hb
  · intro j b hj
    have := h.hold j b hj
    by_cases e : i = j
    · subst e
      rw [hc] at this
      cases this
      rw [hk b rfl, List.getElem?_set_self]
      rcases Nat.lt_or_ge i ρ.length with h' | h'
      · exact h'
      · rw [List.getElem?_eq_none h'] at hc; cases hc
    · rw [List.getElem?_set_ne e]; exact this
end
end Go.Proofs.YtcmhpngmjjcloaaGm
