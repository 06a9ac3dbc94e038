/- A part of a reader of loaded code that is proved sound; no condition. -/
import Derived.Test.YtmkgmlgklggnlaaGm1
namespace Go.Proofs.YtmkgmlgklggnlaaGm

theorem Grew.grownBy {w w' : World} (h : Grew w w') (row : Option Nat) : w.grownBy w' row := ⟨h.os, h.tape, h.output, h.size, fun k hk _ => h.block k hk⟩

section
variable {P : Program} {tt : Tab} {w w' w0 : World} {FP Mx : Nat → Prop} {ρ ρ0 : List CObj} {hp : List AObj} {s : St} {a : Act}

theorem RepO.block_lt {M : Nat → Prop} {o : AObj} {c : CObj} (h : RepO tt w M ρ o c) {b : Nat} (hb : c.block? = some b) : b < w.heap.size := by
  cases h with
  | dead c hc => rw [hc] at hb; cases hb
  | var hh => cases hb; exact (Array.getElem?_eq_some_iff.1 hh).1
  | vara hh => cases hb; exact (Array.getElem?_eq_some_iff.1 hh).1
  | arr ho => exact (ho.lt b hb).2

theorem Env.block_lt (h : Env tt w Mx ρ hp) {i : Nat} {c : CObj} {b : Nat} (hi : ρ[i]? = some c) (hb : c.block? = some b) : b < w.heap.size := by
  have hlt : i < hp.length := by
    rw [← h.len]
    rcases Nat.lt_or_ge i ρ.length with h' | h'
    · exact h'
    · rw [List.getElem?_eq_none h'] at hi; cases hi
  exact (h.obj i _ c (List.getElem?_eq_getElem hlt) hi).block_lt hb

theorem Env.mof_lt (h : Env tt w Mx ρ hp) {b : Nat} (hb : Mof Mx ρ b) : b < w.heap.size := by
  rcases hb with hb | ⟨c, hc, hb⟩
  · exact h.lt b hb
  · obtain ⟨i, hi⟩ := List.getElem?_of_mem hc
    exact h.block_lt hi hb

theorem ints_mapv (f : AV → AV) (k : IntKind) (l : List Int) (n : Nat) : (l.map (AV.int k)).map (mapv f n) = l.map (AV.int k) := by
  rw [List.map_map]
  apply List.map_congr_left
  intro x _
  cases n <;> rfl
/-- An object whose block stays as it was, in a later world, with its references told anew. -/
theorem RepO.later {M M' : Nat → Prop} {ρ' : List CObj} {f : AV → AV} {o : AObj} {c : CObj} (h : RepO tt w M ρ o c) (hL : Later w M w' M')
    (hb : ∀ b, c.block? = some b → w'.heap[b]? = w.heap[b]?) (hf : ∀ a v, isRef a = true → RepV w M ρ a v → RepV w' M' ρ' (f a) v) : RepO tt w' M' ρ' (mapObj f o) c := by
  cases h with
  | dead c hc => exact .dead c hc
  | var hh hl h1 => exact .var (by rw [hb _ rfl]; exact hh) (hl.mapv f hL hf 3) h1
  | @vara T b k l us hh hl h1 =>
    refine .vara (by rw [hb _ rfl]; exact hh) ?_ h1
    have := hl.mapv f hL hf 3
    rw [ints_mapv] at this
    exact this
  | @arr E sz p v us ho hl h1 hp hw hs hE =>
    refine .arr ?_ (hl.pure hL hp) h1 hp hw hs hE
    refine ⟨ho.1, ?_⟩
    rcases ho.2 with hn | ⟨g, cap, cur, rfl, hg0, hg, rest⟩
    · exact .inl hn
    · exact .inr ⟨g, cap, cur, rfl, hg0, by rw [hb g rfl]; exact hg, rest⟩

theorem RepO.later' {M M' : Nat → Prop} {ρ' : List CObj} {o : AObj} {c : CObj} (h : RepO tt w M ρ o c) (hL : Later w M w' M')
    (hb : ∀ b, c.block? = some b → w'.heap[b]? = w.heap[b]?) (hρ : ∀ (o : Nat) (c : CObj), ρ[o]? = some c → ρ'[o]? = some c) : RepO tt w' M' ρ' o c := by
  cases h with
  | dead c hc => exact .dead c hc
  | var hh hl h1 => exact .var (by rw [hb _ rfl]; exact hh) (hl.later hL hρ) h1
  | vara hh hl h1 => exact .vara (by rw [hb _ rfl]; exact hh) (hl.later hL hρ) h1
  | @arr E sz p v us ho hl h1 hp hw hs hE =>
    refine .arr ?_ (hl.pure hL hp) h1 hp hw hs hE
    refine ⟨ho.1, ?_⟩
    rcases ho.2 with hn | ⟨g, cap, cur, rfl, hg0, hg, rest⟩
    · exact .inl hn
    · exact .inr ⟨g, cap, cur, rfl, hg0, by rw [hb g rfl]; exact hg, rest⟩

theorem Env.grew (h : Env tt w Mx ρ hp) (hg : Grew w w') : Env tt w' Mx ρ hp where
  len := h.len
  obj i o c ho hc := (h.obj i o c ho hc).later' (hg.later _) (fun b hb => hg.block b (h.block_lt hc hb)) (fun _ _ e => e)
  sep := h.sep
  mx := h.mx
  lt b hb := Nat.lt_of_lt_of_le (h.lt b hb) hg.size

theorem Keeps.grew (h : Keeps w0 w FP) (hg : Grew w w') : Keeps w0 w' FP :=
  ⟨hg.os.trans h.os, hg.tape.trans h.tape, hg.output.trans h.output, Nat.le_trans h.size hg.size, fun b hb hn => (hg.block b (Nat.lt_of_lt_of_le hb h.size)).trans (h.block b hb hn)⟩

theorem Rel.grew (h : Rel tt w0 FP Mx ρ0 ρ s a w) (hg : Grew w w') : Rel tt w0 FP Mx ρ0 ρ s a w' :=
  ⟨h.env.grew hg, h.fr.later (hg.later _) (fun _ _ e => e), h.defers, h.keeps.grew hg, h.fresh, h.hold, h.old⟩

theorem put_tmps (a : Act) (d : Option Nat) (v : Value) : (a.put d v).tmps.toList = (match d with | some t => a.tmps.toList.set t v | none => a.tmps.toList) := by
  cases d <;> simp [Act.put]

theorem Rel.put (h : Rel tt w0 FP Mx ρ0 ρ s a w) (d : Option Nat) {r : AV} {u : Value} (hr : RepV w (Mof Mx ρ) ρ r u) : Rel tt w0 FP Mx ρ0 ρ (s.put d r) (a.put d u) w := by
  cases d with
  | none => exact h
  | some t =>
    refine ⟨h.env, ?_, h.defers, h.keeps, h.fresh, h.hold, h.old⟩
    rw [put_tmps]
    exact h.fr.set t hr

/-- What is asked of the state behind an operation. -/
def Goes (tt : Tab) (w0 : World) (FP Mx : Nat → Prop) (ρ0 : List CObj) (s' : St) (a' : Act) (w' : World) : Prop := ∃ ρ', Rel tt w0 FP Mx ρ0 ρ' s' a' w'

theorem rop_step (hT : TabOk P tt) (h : Rel tt w0 FP Mx ρ0 ρ s a w) (o : Oper) {s' : St}
    (hs : (rop (R := Option St) none tt s.hp (aval s.fr) o.op fun v => some (s.put o.dst v)) = some s') :
    ∃ u w', (execOp a.eval o).run P w = .ok (.value u) w' ∧ Goes tt w0 FP Mx ρ0 s' (a.put o.dst u) w' := by
  rw [rop_cps] at hs
  obtain ⟨r, hr, hs⟩ := elim_some hs
  cases hs
  obtain ⟨u, w', h1, h2, h3⟩ := rop_sound hT h.env h.fr (fun b hb => h.env.mof_lt hb) o hr
  exact ⟨u, w', h1, ρ, (h.grew h2).put o.dst h3⟩

/-- A new object. -/
theorem Mof_snoc {c : CObj} {b : Nat} : Mof Mx (ρ ++ [c]) b ↔ Mof Mx ρ b ∨ c.block? = some b := by
  unfold Mof
  constructor
  · rintro (h | ⟨d, hd, hb⟩)
    · exact .inl (.inl h)
    · rcases List.mem_append.1 hd with hd | hd
      · exact .inl (.inr ⟨d, hd, hb⟩)
      · rw [List.mem_singleton.1 hd] at hb; exact .inr hb
  · rintro ((h | ⟨d, hd, hb⟩) | h)
    · exact .inl h
    · exact .inr ⟨d, by simp [hd], hb⟩
    · exact .inr ⟨c, by simp, h⟩

theorem getElem?_snoc {α : Type} {l : List α} {x y : α} {i : Nat} (h : (l ++ [x])[i]? = some y) : (i < l.length ∧ l[i]? = some y) ∨ (i = l.length ∧ y = x) := by
  rcases Nat.lt_or_ge i l.length with hi | hi
  · exact .inl ⟨hi, by rw [← h, List.getElem?_append_left hi]⟩
  · rw [List.getElem?_append_right hi] at h
    cases hd : i - l.length with
    | zero => rw [hd] at h; simp at h; exact .inr ⟨by omega, h.symm⟩
    | succ n => rw [hd] at h; simp at h

theorem snoc_left {α : Type} {l : List α} {x y : α} {i : Nat} (h : l[i]? = some y) : (l ++ [x])[i]? = some y := by
  have hi : i < l.length := by
    rcases Nat.lt_or_ge i l.length with hi | hi
    · exact hi
    · rw [List.getElem?_eq_none hi] at h; cases h
  rw [List.getElem?_append_left hi]; exact h

theorem Rel.newObj (h : Rel tt w0 FP Mx ρ0 ρ s a w) (hg : Grew w w') {o : AObj} {c : CObj} (hc : ∀ b, c.block? = some b → w.heap.size ≤ b ∧ b < w'.heap.size)
    (ho : RepO tt w' (Mof Mx (ρ ++ [c])) (ρ ++ [c]) o c) : Rel tt w0 FP Mx ρ0 (ρ ++ [c]) ⟨s.fr, s.hp ++ [o]⟩ a w' := by
  have hL : Later w (Mof Mx ρ) w' (Mof Mx (ρ ++ [c])) := by
    refine ⟨hg.size, fun b hb _ => hg.block b hb, fun b hb hm => ?_⟩
    rcases Mof_snoc.1 hm with hm | hm
    · exact hm
    · have := (hc b hm).1; omega
  have hρ : ∀ (o : Nat) (d : CObj), ρ[o]? = some d → (ρ ++ [c])[o]? = some d := fun _ _ e => snoc_left e
  refine ⟨⟨?_, ?_, ?_, ?_, ?_⟩, h.fr.later hL hρ, h.defers, h.keeps.grew hg, ?_, fun i b e => snoc_left (h.hold i b e), by simp; have := h.old; omega⟩
  · simp [h.env.len]
  · intro i x d hx hd
    rcases getElem?_snoc hx with ⟨hi, hx⟩ | ⟨hi, rfl⟩
    · rcases getElem?_snoc hd with ⟨_, hd⟩ | ⟨hi', _⟩
      · exact (h.env.obj i x d hx hd).later' hL (fun b hb => hg.block b (h.env.block_lt hd hb)) hρ
      · have := h.env.len; omega
    · rcases getElem?_snoc hd with ⟨hi', _⟩ | ⟨_, rfl⟩
      · have := h.env.len; omega
      · exact ho
  · intro i j ci cj b hne hi hj hb hb'
    rcases getElem?_snoc hi with ⟨hi1, hi2⟩ | ⟨hi1, ei⟩
    · rcases getElem?_snoc hj with ⟨hj1, hj2⟩ | ⟨hj1, ej⟩
      · exact h.env.sep i j ci cj b hne hi2 hj2 hb hb'
      · subst ej; have := h.env.block_lt hi2 hb; have := (hc b hb').1; omega
    · rcases getElem?_snoc hj with ⟨hj1, hj2⟩ | ⟨hj1, ej⟩
      · subst ei; have := h.env.block_lt hj2 hb'; have := (hc b hb).1; omega
      · omega
  · intro i d b hi hb hm
    rcases getElem?_snoc hi with ⟨_, hi⟩ | ⟨_, rfl⟩
    · exact h.env.mx i d b hi hb hm
    · have := h.env.lt b hm; have := (hc b hb).1; omega
  · exact fun b hb => Nat.lt_of_lt_of_le (h.env.lt b hb) hg.size
  · intro i d b hi hb
    rcases getElem?_snoc hi with ⟨_, hi⟩ | ⟨_, rfl⟩
    · exact h.fresh i d b hi hb
    · right; have := (hc b hb).1; have := h.keeps.size; omega

theorem setN_get {l : List AV} {i : Nat} {v : AV} : (setN l i v).length = l.length := by
  induction l generalizing i with
  | nil => rfl
  | cons a l ih => cases i <;> simp [setN, ih]

theorem hset_get : ∀ {l : List AObj} {i j : Nat} {v x : AObj}, (hset l i v)[j]? = some x → (j = i ∧ x = v) ∨ (j ≠ i ∧ l[j]? = some x)
  | [], _, _, _, _, h => by simp [hset] at h
  | _ :: l, 0, 0, _, _, h => by simp [hset] at h; exact .inl ⟨rfl, h.symm⟩
  | _ :: l, 0, j + 1, _, _, h => by simp [hset] at h; exact .inr ⟨by omega, by simpa using h⟩
  | _ :: l, i + 1, 0, _, _, h => by simp [hset] at h; exact .inr ⟨by omega, by simp [h]⟩
  | _ :: l, i + 1, j + 1, _, _, h => by
    simp [hset] at h
    rcases hset_get h with ⟨h1, h2⟩ | ⟨h1, h2⟩
    · exact .inl ⟨by omega, h2⟩
    · exact .inr ⟨by omega, by simpa using h2⟩

theorem hset_length : ∀ {l : List AObj} {i : Nat} {v : AObj}, (hset l i v).length = l.length
  | [], _, _ => rfl
  | _ :: _, 0, _ => rfl
  | _ :: l, i + 1, v => by simp [hset, hset_length (l := l)]

theorem Keeps.step (h : Keeps w0 w FP) (hos : w'.os = w.os) (ht : w'.tape = w.tape) (ho : w'.output = w.output) (hs : w.heap.size ≤ w'.heap.size)
    (hb : ∀ b, b < w0.heap.size → ¬ FP b → w'.heap[b]? = w.heap[b]?) : Keeps w0 w' FP :=
  ⟨hos.trans h.os, ht.trans h.tape, ho.trans h.output, Nat.le_trans h.size hs, fun b h1 h2 => (hb b h1 h2).trans (h.block b h1 h2)⟩

/-- One object in its place changes what it holds; every reference to the others stays. -/
theorem Rel.changeV (h : Rel tt w0 FP Mx ρ0 ρ s a w) {i : Nat} {c c' : CObj} {o' : AObj} {f : AV → AV} (hc : ρ[i]? = some c)
    (hos : w'.os = w.os) (ht : w'.tape = w.tape) (hou : w'.output = w.output) (hsz : w.heap.size ≤ w'.heap.size)
    (hblk : ∀ b, b < w.heap.size → c.block? ≠ some b → w'.heap[b]? = w.heap[b]?)
    (hnew : ∀ b, c'.block? = some b → (c.block? = some b ∨ w.heap.size ≤ b) ∧ b < w'.heap.size)
    (hk : ρ0.length ≤ i ∨ ∀ b, c = .blk b → c' = .blk b)
    (hf : ∀ a v, isRef a = true → RepV w (Mof Mx ρ) ρ a v → RepV w' (Mof Mx (ρ.set i c')) (ρ.set i c') (f a) v)
    (ho : RepO tt w' (Mof Mx (ρ.set i c')) (ρ.set i c') o' c') :
    Rel tt w0 FP Mx ρ0 (ρ.set i c') ⟨(s.mapRefs f).fr, hset (s.mapRefs f).hp i o'⟩ a w' := by
  have hin : Mof Mx ρ = fun b => Mof Mx ρ b := rfl
  have hL : Later w (Mof Mx ρ) w' (Mof Mx (ρ.set i c')) := by
    refine ⟨hsz, fun b hb hm => hblk b hb fun e => hm (.inr ⟨c, List.mem_of_getElem? hc, e⟩), fun b hb hm => ?_⟩
    rcases hm with hm | ⟨d, hd, hm⟩
    · exact .inl hm
    · rcases List.mem_or_eq_of_mem_set hd with hd | rfl
      · exact .inr ⟨d, hd, hm⟩
      · rcases (hnew b hm).1 with e | e
        · exact .inr ⟨c, List.mem_of_getElem? hc, e⟩
        · omega
  have get : ∀ {j : Nat} {d : CObj}, (ρ.set i c')[j]? = some d → (j = i ∧ d = c') ∨ (j ≠ i ∧ ρ[j]? = some d) := by
    intro j d hd
    rw [List.getElem?_set] at hd
    by_cases e : i = j
    · subst e
      left
      rw [if_pos rfl] at hd
      split at hd
      · cases hd; exact ⟨rfl, rfl⟩
      · cases hd
    · rw [if_neg e] at hd; exact .inr ⟨fun h => e h.symm, hd⟩
  have other : ∀ {j : Nat} {d : CObj}, j ≠ i → ρ[j]? = some d → ∀ b, d.block? = some b → w'.heap[b]? = w.heap[b]? := by
    intro j d hne hd b hb
    exact hblk b (h.env.block_lt hd hb) fun e => h.env.sep j i d c b hne hd hc hb e
  refine ⟨⟨?_, ?_, ?_, ?_, ?_⟩, h.fr.mapv f hL hf 4, h.defers, ?_, ?_, ?_, by simpa using h.old⟩
  · simp [hset_length, St.mapRefs, h.env.len]
  · intro j x d hx hd
    rcases hset_get hx with ⟨e, rfl⟩ | ⟨hne, hx⟩
    · rcases get hd with ⟨_, rfl⟩ | ⟨hne, _⟩
      · exact ho
      · exact absurd e hne
    · rcases get hd with ⟨e, _⟩ | ⟨_, hd⟩
      · exact absurd e hne
      · simp only [St.mapRefs, List.getElem?_map, Option.map_eq_some_iff] at hx
        obtain ⟨y, hy, rfl⟩ := hx
        exact (h.env.obj j y d hy hd).later hL (other hne hd) hf
  · intro j k cj ck b hne hj hk' hb hb'
    rcases get hj with ⟨e1, e2⟩ | ⟨hnj, hj2⟩
    · rcases get hk' with ⟨e, _⟩ | ⟨hnk, hk2⟩
      · omega
      · subst e2
        rcases (hnew b hb).1 with e | e
        · exact h.env.sep k i ck c b hnk hk2 hc hb' e
        · have := h.env.block_lt hk2 hb'; omega
    · rcases get hk' with ⟨e1, e2⟩ | ⟨hnk, hk2⟩
      · subst e2
        rcases (hnew b hb').1 with e | e
        · exact h.env.sep j i cj c b hnj hj2 hc hb e
        · have := h.env.block_lt hj2 hb; omega
      · exact h.env.sep j k cj ck b hne hj2 hk2 hb hb'
  · intro j d b hj hb hm
    rcases get hj with ⟨rfl, rfl⟩ | ⟨_, hj⟩
    · rcases (hnew b hb).1 with e | e
      · exact h.env.mx j c b hc e hm
      · have := h.env.lt b hm; omega
    · exact h.env.mx j d b hj hb hm
  · exact fun b hb => Nat.lt_of_lt_of_le (h.env.lt b hb) hsz
  · refine h.keeps.step hos ht hou hsz fun b hb hn => hblk b (Nat.lt_of_lt_of_le hb h.keeps.size) fun e => ?_
    rcases h.fresh i c b hc e with h1 | h1
    · exact hn h1
    · omega
  · intro j d b hj hb
    rcases get hj with ⟨rfl, rfl⟩ | ⟨_, hj⟩
    · rcases (hnew b hb).1 with e | e
      · exact h.fresh j c b hc e
      · right; have := h.keeps.size; omega
    · exact h.fresh j d b hj hb
  · intro j b hj
    have := h.hold j b hj
    by_cases e : i = j
    · subst e
      rw [hc] at this
      cases this
      have hk := hk.resolve_left fun hle => by rw [List.getElem?_eq_none hle] at hj; cases hj
      rw [hk b rfl, List.getElem?_set_self]
      rcases Nat.lt_or_ge i ρ.length with h' | h'
      · exact h'
      · rw [List.getElem?_eq_none h'] at hc; cases hc
    · rw [List.getElem?_set_ne e]; exact this
theorem Rel.change (h : Rel tt w0 FP Mx ρ0 ρ s a w) {i : Nat} {c c' : CObj} {o' : AObj} {f : AV → AV} (hc : ρ[i]? = some c)
    (hos : w'.os = w.os) (ht : w'.tape = w.tape) (hou : w'.output = w.output) (hsz : w.heap.size ≤ w'.heap.size)
    (hblk : ∀ b, b < w.heap.size → c.block? ≠ some b → w'.heap[b]? = w.heap[b]?)
    (hnew : ∀ b, c'.block? = some b → (c.block? = some b ∨ w.heap.size ≤ b) ∧ b < w'.heap.size)
    (hk : ∀ b, c = .blk b → c' = .blk b)
    (hf : ∀ a v, isRef a = true → RepV w (Mof Mx ρ) ρ a v → RepV w' (Mof Mx (ρ.set i c')) (ρ.set i c') (f a) v)
    (ho : RepO tt w' (Mof Mx (ρ.set i c')) (ρ.set i c') o' c') :
    Rel tt w0 FP Mx ρ0 (ρ.set i c') ⟨(s.mapRefs f).fr, hset (s.mapRefs f).hp i o'⟩ a w' := h.changeV hc hos ht hou hsz hblk hnew (.inr hk) hf ho
end
end Go.Proofs.YtmkgmlgklggnlaaGm

namespace Go.Proofs.YtmkgmlgklggnlaaGm

section
variable {P : Program} {tt : Tab} {w w' w0 : World} {FP Mx : Nat → Prop} {ρ ρ0 : List CObj} {hp : List AObj} {s : St} {a : Act}

theorem list_toArray (l : Array Value) : l.toList.toArray = l := by cases l; rfl

/-- A new variable. -/
theorem Rel.newVar (h : Rel tt w0 FP Mx ρ0 ρ s a w) {T : Nat} {ls : List AV} {us : Array Value} (hl : RepL w (Mof Mx ρ) ρ ls us.toList) (h1 : ∀ u ∈ us.toList, u.oneCell' = true) :
    Rel tt w0 FP Mx ρ0 (ρ ++ [.blk w.heap.size]) ⟨s.fr, s.hp ++ [.var T ls]⟩ a (w.alloc (.cells us T)) := by
  have hL : Later w (Mof Mx ρ) (w.alloc (.cells us T)) (Mof Mx (ρ ++ [.blk w.heap.size])) := by
    refine ⟨by simp, fun b hb _ => Go.RowKit.Below.heap_alloc w _ b hb, fun b hb hm => ?_⟩
    rcases Mof_snoc.1 hm with hm | hm
    · exact hm
    · cases hm; omega
  refine h.newObj (grew_alloc _) (fun b hb => by cases hb; simp) (.var (us := us.toList) ?_ (hl.later hL fun _ _ e => snoc_left e) h1)
  rw [list_toArray]; exact heap_alloc_new w _

theorem run_newVar (t : TypeId) (v : Value) : (newVar t v).run P w = .ok ⟨w.heap.size, 0, none⟩ (w.alloc (.cells v.cells t)) := by
  simp [newVar, newRow]

theorem alloc_step (hT : TabOk P tt) (h : Rel tt w0 FP Mx ρ0 ρ s a w) {T : Nat} {e : TyE} (he : tget tt T = some e) (hz : leavesOk e.zero = true) (d : Option Nat) :
    ∃ u w', (Instr.alloc T true (.tuple #[])).run P w = .ok u w' ∧ Goes tt w0 FP Mx ρ0 (St.put ⟨s.fr, s.hp ++ [.var T (leavesOf e.zero)]⟩ d (.ptr s.hp.length 0)) (a.put d u) w' := by
  obtain ⟨z1, z2⟩ := zero_rep (w := w) (M := Mof Mx ρ) (ρ := ρ) hz
  refine ⟨.pointer (some ⟨w.heap.size, 0, none⟩), _, by simp [Instr.alloc, run_zeroValue_of (hT T e he), run_newVar], _, (h.newVar z1 z2).put d (.ptr ?_)⟩
  rw [← h.env.len]; simp

theorem box_step (h : Rel tt w0 FP Mx ρ0 ρ s a w) {T : Nat} {v : AV} {u : Value} (hv : RepV w (Mof Mx ρ) ρ v u) (hz : leavesOk v = true) (d : Option Nat) :
    ∃ u' w', (Instr.box T u).run P w = .ok u' w' ∧ Goes tt w0 FP Mx ρ0 (St.put ⟨s.fr, s.hp ++ [.var T (leavesOf v)]⟩ d (.ptr s.hp.length 0)) (a.put d u') w' := by
  obtain ⟨z1, z2⟩ := leaves_rep hv hz
  refine ⟨.pointer (some ⟨w.heap.size, 0, none⟩), _, by simp [Instr.box, run_newVar], _, (h.newVar z1 z2).put d (.ptr ?_)⟩
  rw [← h.env.len]; simp

/-- A variable is written. -/
theorem Rel.write (h : Rel tt w0 FP Mx ρ0 ρ s a w) {i b T : Nat} {cs : List AV} {us : List Value} (hc : ρ[i]? = some (.blk b)) (hcur : ∃ cur, w.heap[b]? = some (.cells cur T (0, 0)))
    (hl : RepL w (Mof Mx ρ) ρ cs us) (h1 : ∀ u ∈ us, u.oneCell' = true) :
    Rel tt w0 FP Mx ρ0 ρ ⟨s.fr, hset s.hp i (.var T cs)⟩ a (w.setRow b us.toArray) := by
  obtain ⟨cur, hcur⟩ := hcur
  have hblk : ∀ k, k ≠ b → (w.setRow b us.toArray).heap[k]? = w.heap[k]? := fun k hk => setRow_other w b k _ hk
  have hL : Later w (Mof Mx ρ) (w.setRow b us.toArray) (Mof Mx ρ) :=
    ⟨by simp, fun k _ hm => hblk k fun e => hm (.inr ⟨_, List.mem_of_getElem? hc, by rw [e]; rfl⟩), fun _ _ hm => hm⟩
  refine ⟨⟨?_, ?_, h.env.sep, h.env.mx, fun b hb => by simpa using h.env.lt b hb⟩, h.fr.later hL (fun _ _ e => e), h.defers, ?_, h.fresh, h.hold, h.old⟩
  · simp [hset_length, h.env.len]
  · intro j x d hx hd
    rcases hset_get hx with ⟨rfl, rfl⟩ | ⟨hne, hx⟩
    · rw [hc] at hd; cases hd
      exact .var (setRow_heap w b cur _ T _ hcur) (hl.later hL fun _ _ e => e) h1
    · refine (h.env.obj j x d hx hd).later' hL (fun k hk => hblk k fun e => ?_) (fun _ _ e => e)
      exact h.env.sep j i d _ k hne hd hc hk (by rw [e]; rfl)
  · refine h.keeps.step rfl rfl rfl (by simp) fun k hk hn => hblk k fun e => ?_
    rcases h.fresh i _ b hc rfl with h1 | h1
    · exact hn (e ▸ h1)
    · omega

theorem setN_eq (l : List AV) (i : Nat) (v : AV) : setN l i v = l.set i v := by
  induction l generalizing i with
  | nil => rfl
  | cons a l ih => cases i <;> simp [setN, ih]

/-- What a run of stores leaves: cell by cell. -/
theorem foldl_set_seg (off : Nat) : ∀ (us vs : List Value) (n : Nat), off + n + us.length ≤ vs.length →
    (us.zipIdx n).foldl (fun c x => c.set (off + x.2) x.1) vs = vs.take (off + n) ++ us ++ vs.drop (off + n + us.length)
  | [], vs, n, _ => by simp
  | u :: us, vs, n, h => by
    simp only [List.zipIdx_cons, List.foldl_cons]
    simp only [List.length_cons] at h
    rw [foldl_set_seg off us (vs.set (off + n) u) (n + 1) (by simp; omega)]
    have := list_seg_step vs (off + n) u us (by omega)
    rw [show off + (n + 1) = off + n + 1 by omega, this]
    simp

theorem storeVar_step (hT : TabOk P tt) (h : Rel tt w0 FP Mx ρ0 ρ s a w) {t b off T : Nat} {e : TyE} {cs : List AV} {v : AV} {u : Value} (he : tget tt t = some e) (hv : RepV w (Mof Mx ρ) ρ v u)
    (hok : leavesOk v = true) (hlen : (leavesOf v).length = e.size) (hb : hget s.hp b = .var T cs) (hle : off + e.size ≤ cs.length) {ad : Value} (had : RepV w (Mof Mx ρ) ρ (.ptr b off) ad) (d : Option Nat) :
    ∃ w', (Instr.storeAt t ad u).run P w = .ok () w' ∧ Goes tt w0 FP Mx ρ0 (St.put ⟨s.fr, hset s.hp b (.var T (setRange cs off (leavesOf v)))⟩ d undefA) (a.put d undef) w' := by
  obtain ⟨c, hc, hr⟩ := h.env.at (hget_some hb (by simp))
  cases had with | @ptr _ _ g hp' =>
  rw [hc] at hp'; cases hp'
  cases hr with | @var _ _ _ us hh hl h1 =>
  obtain ⟨l1, l2⟩ := leaves_rep hv hok
  have hul : u.cells.toList.length = e.size := by rw [← l1.length]; exact hlen
  have hcl : cs.length = us.length := hl.length
  have hst := run_storeCells_at P g off T u.cells.toList 0 us.toArray w hh (by simp; simp at hul; omega) l2
  have hsz : u.cells.size = e.size := by simpa using hul
  have key := setRange_rep off hl l1
  rw [foldl_set_seg off _ _ 0 (by simp; simp at hul; omega)] at key
  simp only [Nat.add_zero] at key hst
  refine ⟨_, ?_, ρ, ((h.write hc ⟨_, hh⟩ key ?_)).put d (.tup .nil)⟩
  · simp only [Instr.storeAt, Instr.sureAddr, Sem.run_bind, Sem.run_pure, Result.andThen_ok, storeVar, run_sizeOf_of (hT t e he)]
    rw [if_neg (by simp [hsz])]
    simpa using hst
  · intro x hx
    rcases List.mem_append.1 hx with hx | hx
    · rcases List.mem_append.1 hx with hx | hx
      · exact h1 x (List.mem_of_mem_take hx)
      · exact l2 x hx
    · exact h1 x (List.mem_of_mem_drop hx)

/-- The same objects, said in another way. -/
theorem Rel.reobj (h : Rel tt w0 FP Mx ρ0 ρ s a w) {hp' : List AObj} (hlen : hp'.length = s.hp.length)
    (ho : ∀ (i : Nat) (o o' : AObj) (c : CObj), s.hp[i]? = some o → hp'[i]? = some o' → RepO tt w (Mof Mx ρ) ρ o c → RepO tt w (Mof Mx ρ) ρ o' c) : Rel tt w0 FP Mx ρ0 ρ ⟨s.fr, hp'⟩ a w := by
  refine ⟨⟨by rw [h.env.len, hlen], fun i o' c hi hc => ?_, h.env.sep, h.env.mx, h.env.lt⟩, h.fr, h.defers, h.keeps, h.fresh, h.hold, h.old⟩
  have hlt : i < s.hp.length := by
    rw [← hlen]
    rcases Nat.lt_or_ge i hp'.length with h' | h'
    · exact h'
    · rw [List.getElem?_eq_none h'] at hi; cases hi
  exact ho i _ o' c (List.getElem?_eq_getElem hlt) hi (h.env.obj i _ c (List.getElem?_eq_getElem hlt) hc)
theorem hset_hset : ∀ (l : List AObj) (i : Nat) (x y : AObj), hset (hset l i x) i y = hset l i y
  | [], _, _, _ => rfl
  | _ :: l, 0, _, _ => rfl
  | z :: l, i + 1, x, y => by show z :: hset (hset l i x) i y = z :: hset l i y; rw [hset_hset l i x y]
theorem hget_hset : ∀ {l : List AObj} {i : Nat} {x : AObj}, i < l.length → hget (hset l i x) i = x
  | [], i, x, h => by simp at h
  | _ :: l, 0, x, _ => rfl
  | _ :: l, i + 1, x, h => hget_hset (l := l) (by simpa using h)
theorem ints_back {k : IntKind} {a : List AV} (h : a.all (isInt k) = true) : (a.map intOf).map (AV.int k) = a := by
  rw [List.map_map]
  conv => rhs; rw [← List.map_id a]
  apply List.map_congr_left
  intro x hx
  have := List.all_eq_true.1 h x hx
  cases x with
  | int k' m =>
    have hk : k = k' := by
      cases k <;> cases k' <;> first | rfl | (simp [isInt, ikEq] at this)
    subst hk; rfl
  | _ => simp [isInt] at this
theorem setRange_all : ∀ (a pre post cs : List AV), cs.length = a.length → setRange (pre ++ cs ++ post) pre.length a = pre ++ a ++ post
  | [], pre, post, cs, h => by
    have : cs = [] := List.eq_nil_of_length_eq_zero h
    subst this; rfl
  | x :: a, pre, post, [], h => by cases h
  | x :: a, pre, post, c :: cs, h => by
    have e : setN (pre ++ (c :: cs) ++ post) pre.length x = (pre ++ [x]) ++ cs ++ post := by
      rw [setN_eq]
      simp [List.set_append_right]
    show setRange (setN (pre ++ (c :: cs) ++ post) pre.length x) (pre.length + 1) a = _
    rw [e]
    have := setRange_all a (pre ++ [x]) post cs (by simpa using h)
    rw [List.length_append, List.length_singleton] at this
    rw [this]
    simp
theorem stInts_eq {kk : IntKind} {v : AV} {l : List Int} {off : Nat} (h : stIntsOk kk v l off = true) : setRange (l.map (AV.int kk)) off (leavesOf v) = (stInts v l off).map (AV.int kk) := by
  unfold stIntsOk at h
  unfold stInts
  cases v with
  | arr a =>
    simp only [Bool.and_eq_true] at h
    obtain ⟨⟨h0, h1⟩, h2⟩ := h
    have h0 := Nat.eq_of_beq_eq_true h0
    have h1 := Nat.eq_of_beq_eq_true h1
    subst h0
    dsimp only
    rw [ints_back h2]
    have := setRange_all a [] [] (l.map (AV.int kk)) (by rw [List.length_map]; omega)
    show setRange (l.map (AV.int kk)) 0 a = a
    simpa using this
  | int k n =>
    simp only [Bool.and_eq_true] at h
    have hk : kk = k := by
      have := h.1
      cases kk <;> cases k <;> first | rfl | (simp [isInt, ikEq] at this)
    subst hk
    show setN (l.map (AV.int kk)) off (.int kk n) = _
    rw [setN_eq, ← List.map_set]; rfl
  | _ => simp [isInt] at h
theorem storeVara_step (hT : TabOk P tt) (h : Rel tt w0 FP Mx ρ0 ρ s a w) {t b off T : Nat} {e : TyE} {kk : IntKind} {l : List Int} {v : AV} {u : Value} (he : tget tt t = some e) (hv : RepV w (Mof Mx ρ) ρ v u)
    (hok : leavesOk v = true) (hlen : (leavesOf v).length = e.size) (hb : hget s.hp b = .vara T kk l) (hle : stIntsOk kk v l off = true) {ad : Value} (had : RepV w (Mof Mx ρ) ρ (.ptr b off) ad) (d : Option Nat) :
    ∃ w', (Instr.storeAt t ad u).run P w = .ok () w' ∧ Goes tt w0 FP Mx ρ0 (St.put ⟨s.fr, hset s.hp b (.vara T kk (stInts v l off))⟩ d undefA) (a.put d undef) w' := by
  have hb' := hget_some hb (by simp)
  have hlt : b < s.hp.length := by
    rcases Nat.lt_or_ge b s.hp.length with h' | h'
    · exact h'
    · rw [List.getElem?_eq_none h'] at hb'; cases hb'
  have h1 : Rel tt w0 FP Mx ρ0 ρ ⟨s.fr, hset s.hp b (.var T (l.map (AV.int kk)))⟩ a w := h.reobj hset_length fun i o o' c hi hi' hr => by
    rcases hset_get hi' with ⟨rfl, rfl⟩ | ⟨_, hx⟩
    · rw [hb'] at hi; cases hi
      cases hr with | vara k1 k2 k3 => exact .var k1 k2 k3
    · rw [hi] at hx; cases hx; exact hr
  have hsz : off + e.size ≤ (l.map (AV.int kk)).length := by
    rw [List.length_map, ← hlen]
    unfold stIntsOk at hle
    cases v with
    | arr a =>
      simp only [Bool.and_eq_true] at hle
      have h0 := Nat.eq_of_beq_eq_true hle.1.1
      have h2 := Nat.eq_of_beq_eq_true hle.1.2
      show off + a.length ≤ _
      omega
    | int k n =>
      simp only [Bool.and_eq_true] at hle
      have := hle.2
      simp [Nat.blt] at this
      show off + 1 ≤ _
      omega
    | _ => simp [isInt] at hle
  obtain ⟨w', hrun, ρ', hg⟩ := storeVar_step hT h1 he hv hok hlen (hget_hset hlt) hsz had d
  refine ⟨w', hrun, ρ', ?_⟩
  rw [hset_hset, stInts_eq hle] at hg
  have key := hg.reobj (hp' := hset s.hp b (.vara T kk (stInts v l off))) (by cases d <;> simp [St.put, hset_length]) fun i o o' c hi hi' hr => by
    have hi : (hset s.hp b (.var T ((stInts v l off).map (AV.int kk))))[i]? = some o := by cases d <;> exact hi
    rcases hset_get hi' with ⟨rfl, rfl⟩ | ⟨hne, hx⟩
    · rcases hset_get hi with ⟨_, rfl⟩ | ⟨hne, _⟩
      · cases hr with | var k1 k2 k3 => exact .vara k1 k2 k3
      · exact absurd rfl hne
    · rcases hset_get hi with ⟨e, _⟩ | ⟨_, hy⟩
      · exact absurd e hne
      · rw [hx] at hy; cases hy; exact hr
  cases d <;> exact key

/-- What leads to a row that is not written any more reads it. -/
theorem frozenSelf_rep {i : Nat} {p : Pay AV} {c : CObj} {M : Nat → Prop} {E : Nat} (hE : Env tt w Mx ρ hp) (hi : hget hp i = .arr E p) (hc : ρ[i]? = some c)
    (hL : Later w (Mof Mx ρ) w' M) (hblk : ∀ b, c.block? = some b → ¬ M b ∧ ∀ off v, w.cell? ⟨b, off, none⟩ = some v → w'.cell? ⟨b, off, none⟩ = some v) (ρ' : List CObj) :
    ∀ a v, isOf i a = true → RepV w (Mof Mx ρ) ρ a v → RepV w' M ρ' (frozenAs i p a) v := by
  intro a v ha hr
  obtain ⟨c', hc', hro⟩ := hE.at (hget_some hi (by simp))
  rw [hc] at hc'; cases hc'
  cases hro with | @arr _ sz _ v0 us ho hl h1 hpl hw hs hk =>
  -- the row, read
  have read : (v0 = .slice none 0 0 ∧ p.len = 0) ∨ ∃ g cap, v0 = .slice (some ⟨g, 0, none⟩) p.len cap ∧ p.len ≤ cap ∧ cap ≤ maxLen ∧ g < w.heap.size ∧ CellsAt w' g 0 us ∧ ¬ M g := by
    rcases ownsRow_cells ho with h0 | ⟨g, cap, e, hn, hm, hlt, hcl⟩
    · exact .inl h0
    · subst e
      have := hblk g rfl
      refine .inr ⟨g, cap, rfl, hn, hm, hlt, fun j u hu => ?_, this.1⟩
      exact this.2 _ _ (hcl j u hu)
  have hl' : RepL w' M ρ' p.cells us := hl.pure hL hpl
  cases a with
  | own o =>
    simp only [isOf] at ha
    have := Nat.eq_of_beq_eq_true ha; subst this
    simp only [frozenAs, Nat.beq_refl, cond_true]
    cases hr with | own e e1 =>
    rw [hc] at e; cases e
    rcases read with ⟨rfl, h0⟩ | ⟨g, cap, rfl, hn, hm, hlt, hcl, hM⟩
    · exact .roN h0 (by decide) (fun _ => rfl)
    · exact .ro hl' hcl hM (Nat.lt_of_lt_of_le hlt hL.size) h1 hpl hw hn hm
  | sub o k n =>
    simp only [isOf] at ha
    have := Nat.eq_of_beq_eq_true ha; subst this
    simp only [frozenAs, Nat.beq_refl, cond_true]
    cases hr with
    | subN e =>
      rw [hc] at e; cases e
      rcases read with ⟨_, h0⟩ | ⟨g, cap, e, _⟩
      · exact .roN (Pay.cut_zero_len h0 _ _) (by decide) (fun _ => rfl)
      · cases e
    | @sub _ _ _ g m cap sz' addr e hle had =>
      rw [hc] at e; cases e
      rcases read with ⟨e, _⟩ | ⟨g', cap', e, hn, hm, hlt, hcl, hM⟩
      · cases e
      · cases e
        have := RepV.roCut (a := k) (n := n) (c' := cap - k) (ad := some (if cap = k then ⟨g, 0, none⟩ else ⟨g, 0 + k * p.sz, none⟩)) hl' hcl hM (Nat.lt_of_lt_of_le hlt hL.size) h1 hpl hw hn hm hle rfl (by split <;> rfl) rfl
        by_cases hck : cap - k = 0
        · -- no room: the address does not matter
          have hn0 : n = 0 := by omega
          subst hn0
          rw [hck]
          exact .roN (Pay.cut_len k 0 hle) (by omega) (by simp)
        · rw [if_neg (by omega)] at this
          rw [had hck]
          rw [Nat.zero_add, hs] at this
          exact this
  | aptr o j off =>
    simp only [isOf] at ha
    have := Nat.eq_of_beq_eq_true ha; subst this
    simp only [frozenAs, Nat.beq_refl, cond_true]
    cases hr with | aptr e hj =>
    rw [hc] at e; cases e
    rcases read with ⟨e, _⟩ | ⟨g', cap', e, hn, hm, hlt, hcl, hM⟩
    · cases e
    · cases e
      have := RepV.eptr (i := j) (off := off) hl' hcl hM (Nat.lt_of_lt_of_le hlt hL.size) h1 hpl hw hj
      rw [Nat.zero_add, hs] at this
      exact this
  | ptr o off =>
    simp only [isOf] at ha
    simp only [frozenAs, lose, isOf, ha, cond_true]
    exact .top _
  | mapo o =>
    simp only [isOf] at ha
    simp only [frozenAs, lose, isOf, ha, cond_true]
    exact .top _
  | vsl o m =>
    simp only [isOf] at ha
    simp only [frozenAs, lose, isOf, ha, cond_true]
    exact .top _
  | _ => cases ha

/-- What is frozen is read from now on. -/
theorem frozen_rep {i : Nat} {p : Pay AV} {c : CObj} {M : Nat → Prop} {ρ' : List CObj} {E : Nat} (hE : Env tt w Mx ρ hp) (hi : hget hp i = .arr E p) (hc : ρ[i]? = some c)
    (hL : Later w (Mof Mx ρ) w' M) (hblk : ∀ b, c.block? = some b → ¬ M b ∧ ∀ off v, w.cell? ⟨b, off, none⟩ = some v → w'.cell? ⟨b, off, none⟩ = some v) (hρ : ∀ (o : Nat) (d : CObj), o ≠ i → ρ[o]? = some d → ρ'[o]? = some d) :
    ∀ a v, isRef a = true → RepV w (Mof Mx ρ) ρ a v → RepV w' M ρ' (frozenAs i p a) v := by
  intro a v ha hr
  cases hof : isOf i a with
  | true => exact frozenSelf_rep hE hi hc hL hblk ρ' a v hof hr
  | false =>
    have ne : ∀ {o : Nat}, Nat.beq o i = false → o ≠ i := fun h e => by subst e; simp at h
    cases a with
    | own o =>
      simp only [isOf] at hof
      simp only [frozenAs, hof, cond_false]
      cases hr with | own e e1 => exact .own (hρ _ _ (ne hof) e) e1
    | sub o k n =>
      simp only [isOf] at hof
      simp only [frozenAs, hof, cond_false]
      cases hr with
      | subN e => exact .subN (hρ _ _ (ne hof) e)
      | sub e hle had => exact .sub (hρ _ _ (ne hof) e) hle had
    | aptr o j off =>
      simp only [isOf] at hof
      simp only [frozenAs, hof, cond_false]
      cases hr with | aptr e hj => exact .aptr (hρ _ _ (ne hof) e) hj
    | ptr o off =>
      simp only [isOf] at hof
      simp only [frozenAs, lose, isOf, hof, cond_false]
      cases hr with | ptr e => exact .ptr (hρ _ _ (ne hof) e)
    | mapo o =>
      simp only [isOf] at hof
      simp only [frozenAs, lose, isOf, hof, cond_false]
      cases hr with | mapo e => exact .mapo (hρ _ _ (ne hof) e)
    | vsl o m =>
      simp only [isOf] at hof
      simp only [frozenAs, lose, isOf, hof, cond_false]
      cases hr with | vsl e => exact .vsl (hρ _ _ (ne hof) e)
    | _ => cases ha

/-- No reference to what moves. -/
theorem lose_rep {i : Nat} {M : Nat → Prop} {ρ' : List CObj} (_hL : Later w (Mof Mx ρ) w' M) (hρ : ∀ (o : Nat) (d : CObj), o ≠ i → ρ[o]? = some d → ρ'[o]? = some d) :
    ∀ a v, isRef a = true → RepV w (Mof Mx ρ) ρ a v → RepV w' M ρ' (lose i a) v := by
  intro a v ha hr
  unfold lose
  cases hof : isOf i a with
  | true => exact .top _
  | false =>
    simp only [cond_false]
    have ne : ∀ {o : Nat}, Nat.beq o i = false → o ≠ i := fun h e => by subst e; simp at h
    cases a with
    | own o => simp only [isOf] at hof; cases hr with | own e e1 => exact .own (hρ _ _ (ne hof) e) e1
    | sub o k n =>
      simp only [isOf] at hof
      cases hr with
      | subN e => exact .subN (hρ _ _ (ne hof) e)
      | sub e hle had => exact .sub (hρ _ _ (ne hof) e) hle had
    | aptr o j off => simp only [isOf] at hof; cases hr with | aptr e hj => exact .aptr (hρ _ _ (ne hof) e) hj
    | ptr o off => simp only [isOf] at hof; cases hr with | ptr e => exact .ptr (hρ _ _ (ne hof) e)
    | mapo o => simp only [isOf] at hof; cases hr with | mapo e => exact .mapo (hρ _ _ (ne hof) e)
    | vsl o m => simp only [isOf] at hof; cases hr with | vsl e => exact .vsl (hρ _ _ (ne hof) e)
    | _ => cases ha

theorem loseN_rep {i n : Nat} {M : Nat → Prop} {ρ' : List CObj} (hL : Later w (Mof Mx ρ) w' M) (hρ : ∀ (o : Nat) (d : CObj), o ≠ i → ρ[o]? = some d → ρ'[o]? = some d)
    (hn : ∀ v sz, ρ[i]? = some (.row v sz) → ∃ a cap, v = .slice a n cap ∧ n ≤ maxLen) :
    ∀ a v, isRef a = true → RepV w (Mof Mx ρ) ρ a v → RepV w' M ρ' (loseN i n a) v := by
  intro a v ha hr
  cases a with
  | own o =>
    unfold loseN
    dsimp only
    cases hof : Nat.beq o i with
    | true =>
      have e : o = i := Nat.eq_of_beq_eq_true hof
      subst e
      cases hr with | own e e1 =>
      obtain ⟨a, cap, rfl, h1⟩ := hn _ _ e
      exact .len h1
    | false =>
      have ne : o ≠ i := fun e => by subst e; simp at hof
      cases hr with | own e e1 => exact .own (hρ _ _ ne e) e1
  | _ => exact lose_rep hL hρ _ _ ha hr

theorem mapRefs_eq (f : AV → AV) (s : St) : s.mapRefs f = ⟨s.fr.map (mapv f 4), s.hp.map (mapObj f)⟩ := rfl

theorem Rel.freeze (h : Rel tt w0 FP Mx ρ0 ρ s a w) (i : Nat) : ∃ ρ', Rel tt w0 FP Mx ρ0 ρ' (s.freeze i) a w ∧ (∀ b, Mof Mx ρ' b → Mof Mx ρ b) ∧
    (∀ E p c b, hget s.hp i = .arr E p → ρ[i]? = some c → c.block? = some b → ¬ Mof Mx ρ' b) ∧ (∀ j c, ρ[j]? = some c → ρ'[j]? = some c ∨ (j = i ∧ ρ'[j]? = some .gone)) := by
  unfold St.freeze
  split
  · rename_i E p hi
    obtain ⟨c, hc, hr⟩ := h.env.at (hget_some hi (by simp))
    have hlt : i < ρ.length := by
      rcases Nat.lt_or_ge i ρ.length with h' | h'
      · exact h'
      · rw [List.getElem?_eq_none h'] at hc; cases hc
    have hsub : ∀ b, Mof Mx (ρ.set i .gone) b → Mof Mx ρ b := by
      rintro b (hb | ⟨d, hd, hb⟩)
      · exact .inl hb
      · rcases List.mem_or_eq_of_mem_set hd with hd | rfl
        · exact .inr ⟨d, hd, hb⟩
        · cases hb
    have hnot : ∀ b, c.block? = some b → ¬ Mof Mx (ρ.set i .gone) b := by
      rintro b hb (hm | ⟨d, hd, hm⟩)
      · exact h.env.mx i c b hc hb hm
      · obtain ⟨j, hj⟩ := List.getElem?_of_mem hd
        by_cases e : i = j
        · subst e
          rw [List.getElem?_set_self hlt] at hj
          cases hj; cases hm
        · rw [List.getElem?_set_ne e] at hj
          exact h.env.sep i j c d b e hc hj hb hm
    refine ⟨ρ.set i .gone, ?_, hsub, ?_, ?_⟩
    · refine h.change (w' := w) (c' := .gone) hc rfl rfl rfl (Nat.le_refl _) (fun _ _ _ => rfl) (fun b hb => by cases hb) ?_ ?_ (.dead _ rfl)
      · intro b e; subst e; cases hr
      · refine frozen_rep h.env hi hc ⟨Nat.le_refl _, fun _ _ _ => rfl, fun b _ hb => hsub b hb⟩ (fun b hb => ⟨hnot b hb, fun _ _ hv => hv⟩) ?_
        intro o d hne hd
        rw [List.getElem?_set_ne (fun e => hne e.symm)]; exact hd
    · intro E' p' c' b hE' hc' hb
      rw [hc] at hc'; cases hc'
      exact hnot b hb
    · intro j d hd
      by_cases e : j = i
      · subst e; exact .inr ⟨rfl, by rw [List.getElem?_set_self hlt]⟩
      · left; rw [List.getElem?_set_ne (fun h => e h.symm)]; exact hd
  · rename_i hne
    exact ⟨ρ, h, fun _ hb => hb, fun E p c b he => absurd he (hne E p), fun j c hc => .inl hc⟩
end
end Go.Proofs.YtmkgmlgklggnlaaGm

namespace Go.Proofs.YtmkgmlgklggnlaaGm

section
variable {P : Program} {tt : Tab} {w w' w0 : World} {FP Mx : Nat → Prop} {ρ ρ0 : List CObj} {hp : List AObj} {s : St} {a : Act}

theorem freeze_get {s : St} {o i : Nat} (hne : i ≠ o) {E : Nat} {p : Pay AV} (h : hget s.hp i = .arr E p) : hget (s.freeze o).hp i = .arr E p := by
  have hs := hget_some h (by simp)
  unfold St.freeze
  split
  · rename_i E2 p2 _
    have : (hset (s.mapRefs (frozenAs o p2)).hp o .dead)[i]? = some (.arr E p) := by
      have key : ∀ {l : List AObj} {i o : Nat} {v x : AObj}, i ≠ o → l[i]? = some x → (hset l o v)[i]? = some x := by
        intro l
        induction l with
        | nil => intro i o v x _ h; simp at h
        | cons y l ih =>
          intro i o v x hne h
          cases o with
          | zero => cases i with
            | zero => omega
            | succ i => simpa [hset] using h
          | succ o => cases i with
            | zero => simpa [hset] using h
            | succ i => simp [hset]; exact ih (by omega) (by simpa using h)
      exact key hne (by simp [St.mapRefs, hs, mapObj])
    have conv : ∀ {l : List AObj} {i : Nat} {x : AObj}, l[i]? = some x → hget l i = x := by
      intro l
      induction l with
      | nil => intro i x h; simp at h
      | cons y l ih => intro i x h; cases i with
        | zero => simp at h; simp [hget, h]
        | succ i => exact ih (by simpa using h)
    exact conv this
  · exact h

theorem Rel.freezeAll : ∀ (L : List Nat) {ρ : List CObj} {s : St}, Rel tt w0 FP Mx ρ0 ρ s a w → ∃ ρ', Rel tt w0 FP Mx ρ0 ρ' (s.freezeAll L) a w ∧ (∀ b, Mof Mx ρ' b → Mof Mx ρ b) ∧
    (∀ i ∈ L, ∀ E p c b, hget s.hp i = .arr E p → ρ[i]? = some c → c.block? = some b → ¬ Mof Mx ρ' b)
  | [], ρ, s, h => ⟨ρ, h, fun _ hb => hb, fun i hi => by cases hi⟩
  | o :: L, ρ, s, h => by
    obtain ⟨ρ1, h1, s1, n1, k1⟩ := h.freeze o
    obtain ⟨ρ2, h2, s2, n2⟩ := Rel.freezeAll L h1
    refine ⟨ρ2, h2, fun b hb => s1 b (s2 b hb), ?_⟩
    intro i hi E p c b hE hc hb hm
    by_cases e : i = o
    · subst e; exact n1 E p c b hE hc hb (s2 b hm)
    · rcases List.mem_cons.1 hi with hi | hi
      · exact e hi
      · rcases k1 i c hc with hc' | ⟨e', _⟩
        · exact n2 i hi E p c b (freeze_get e hE) hc' hb hm
        · exact e e'

theorem memN_iff {L : List Nat} {o : Nat} : memN L o = true ↔ o ∈ L := by
  induction L with
  | nil => simp [memN]
  | cons a L ih =>
    simp only [memN]
    cases h : Nat.beq a o with
    | true => have := Nat.eq_of_beq_eq_true h; subst this; simp
    | false => simp only [cond_false, ih, List.mem_cons]; constructor
               · exact .inr
               · rintro (e | e)
                 · subst e; simp at h
                 · exact e

/-- Lent rows may be read where their blocks are not written. -/
theorem lend_rep {L : List Nat} {M : Nat → Prop} (hE : Env tt w Mx ρ hp) (hL : Later w (Mof Mx ρ) w' M)
    (hM : ∀ i ∈ L, ∀ E p c b, hget hp i = .arr E p → ρ[i]? = some c → c.block? = some b → ¬ M b ∧ w'.heap[b]? = w.heap[b]?) (ρ' : List CObj) :
    ∀ a v, isRef a = true → RepV w (Mof Mx ρ) ρ a v → RepV w' M ρ' (lendL L hp a) v := by
  intro a v ha hr
  cases a with
  | own o =>
    simp only [lendL]
    cases hb : memN L o with
    | false => exact .top _
    | true =>
      simp only [cond_true]
      split
      · rename_i E p hi
        obtain ⟨c, hc, _⟩ := hE.at (hget_some hi (by simp))
        have := frozenSelf_rep hE hi hc hL (fun b hb' => ⟨(hM o (memN_iff.1 hb) E p c b hi hc hb').1, fun off v hv => by rw [World.cell?_of_block (w := w) (hM o (memN_iff.1 hb) E p c b hi hc hb').2]; exact hv⟩) ρ' (.own o) v (by simp [isOf]) hr
        simpa [frozenAs] using this
      · exact .top _
  | sub o k n =>
    simp only [lendL]
    cases hb : memN L o with
    | false => exact .top _
    | true =>
      simp only [cond_true]
      split
      · rename_i E p hi
        obtain ⟨c, hc, _⟩ := hE.at (hget_some hi (by simp))
        have := frozenSelf_rep hE hi hc hL (fun b hb' => ⟨(hM o (memN_iff.1 hb) E p c b hi hc hb').1, fun off v hv => by rw [World.cell?_of_block (w := w) (hM o (memN_iff.1 hb) E p c b hi hc hb').2]; exact hv⟩) ρ' (.sub o k n) v (by simp [isOf]) hr
        simpa [frozenAs] using this
      · exact .top _
  | aptr o i off => exact .top _
  | ptr o off => exact .top _
  | mapo o => exact .top _
  | vsl o m => exact .top _
  | _ => cases ha

theorem RepL.scalar {M M' : Nat → Prop} {ρ ρ' : List CObj} : ∀ {l : List AV} {vs : List Value}, RepL w M ρ l vs → (∀ a ∈ l, scalarLeaf a = true) → RepL w' M' ρ' l vs
  | _, _, .nil, _ => .nil
  | _, _, .cons (a := a) hv t, hp => .cons (by
      have := hp a (by simp)
      cases hv <;> first | (simp [scalarLeaf] at this; done) | (constructor; done) | (constructor; assumption)) (t.scalar fun x hx => hp x (by simp [hx]))

theorem u8of_cells {w : World} {M : Nat → Prop} {ρ : List CObj} : ∀ {cs : List AV} {us : List Value}, RepL w M ρ cs us → cs.all (isInt .u8) = true → (Pay.bytes (u8of cs) : Pay AV).cells = cs
  | [], _, _, _ => rfl
  | a :: cs, _, .cons ha hl, h => by
    rw [List.all_cons, Bool.and_eq_true] at h
    have ih := u8of_cells hl h.2
    show AV.int .u8 ((UInt8.ofNat (intOf a).toNat).toNat : Int) :: (Pay.bytes (u8of cs) : Pay AV).cells = a :: cs
    rw [ih]
    congr 1
    have h1 := h.1
    cases a with
    | int k n =>
      cases k <;> first | (simp [isInt, ikEq] at h1; done) | skip
      cases ha with | int hk =>
      have hk : 0 ≤ n ∧ n ≤ 255 := by simpa [IntKind.has, IntKind.min, IntKind.max, IntKind.signed, IntKind.bits] using hk
      show AV.int .u8 _ = AV.int .u8 n
      congr 1
      show ((UInt8.ofNat n.toNat).toNat : Int) = n
      rw [UInt8.toNat_ofNat']
      omega
    | _ => cases h1
/-- An argument as it is lent. -/
theorem lendA_rep {L : List Nat} {M : Nat → Prop} (hE : Env tt w Mx ρ hp) (hL : Later w (Mof Mx ρ) w M)
    (hM : ∀ i ∈ L, ∀ E p c b, hget hp i = .arr E p → ρ[i]? = some c → c.block? = some b → ¬ M b) {a : AV} {v : Value}
    (hV : ∀ o n b, a = .vsl o n → ρ[o]? = some (.blk b) → ¬ M b) (hin : vslIn hp a = true) (h : RepV w (Mof Mx ρ) ρ a v) : RepV w M [] (lendA L hp a) v := by
  have key : RepV w M [] (mapv (lendL L hp) 3 a) v := h.mapv _ hL (lend_rep hE hL (fun i hi E p c b hE' hc hb => ⟨hM i hi E p c b hE' hc hb, rfl⟩) []) 3
  cases a with
  | vsl o n =>
    clear key
    unfold vslIn at hin
    unfold lendA
    dsimp only at hin ⊢
    cases h with | @vsl _ _ b hb =>
    cases ho : hget hp o with
    | var T cs =>
      rw [ho] at hin
      dsimp only at hin ⊢
      simp only [Bool.and_eq_true] at hin
      obtain ⟨⟨v2, v3⟩, v4⟩ := hin
      obtain ⟨c, hc, hr⟩ := hE.at (hget_some ho (by simp))
      rw [hb] at hc; cases hc
      cases hr with | @var _ _ _ us hheap hl h1 =>
      have hcl := u8of_cells hl v4
      have v2 := Nat.eq_of_beq_eq_true v2
      have v3 : n ≤ maxLen := Nat.le_trans (Nat.le_of_ble_eq_true v3) (by decide)
      have hq : (Pay.bytes (u8of cs) : Pay AV).len = n := by show (u8of cs).length = n; unfold u8of; rw [List.length_map]; exact v2
      have hlt : b < w.heap.size := (Array.getElem?_eq_some_iff.1 hheap).1
      have hsc : ∀ a ∈ cs, scalarLeaf a = true := fun a ha => by
        have := List.all_eq_true.1 v4 a ha
        cases a <;> first | rfl | cases this
      have hpl : ∀ a ∈ (Pay.bytes (u8of cs) : Pay AV).cells, pureLeaf a = true := fun a ha => by
        obtain ⟨x, _, rfl⟩ := List.mem_map.1 ha; rfl
      have r := RepV.ro (w := w) (M := M) (ρ := []) (p := .bytes (u8of cs)) (us := us) (b := b) (base := 0) (cap := n) (by rw [hcl]; exact hl.scalar hsc)
        (fun j u hj => by simp [World.cell?, hheap, hj]) (hV o n b rfl hb) hlt h1 hpl trivial (by rw [hq]; exact Nat.le_refl _) v3
      rw [hq] at r
      exact r
    | _ => rw [ho] at hin; cases hin
  | _ => exact key
theorem lendA_repL {L : List Nat} {M : Nat → Prop} (hE : Env tt w Mx ρ hp) (hL : Later w (Mof Mx ρ) w M)
    (hM : ∀ i ∈ L, ∀ E p c b, hget hp i = .arr E p → ρ[i]? = some c → c.block? = some b → ¬ M b) : ∀ {l : List AV} {vs : List Value},
    (∀ o n b, .vsl o n ∈ l → ρ[o]? = some (.blk b) → ¬ M b) → l.all (vslIn hp) = true → RepL w (Mof Mx ρ) ρ l vs → RepL w M [] (l.map (lendA L hp)) vs
  | _, _, _, _, .nil => .nil
  | _, _, hV, hin, .cons h t => by
    rw [List.all_cons, Bool.and_eq_true] at hin
    exact .cons (lendA_rep hE hL hM (fun o n b e hb => hV o n b (by simp [e]) hb) hin.1 h) (lendA_repL hE hL hM (fun o n b hm hb => hV o n b (by simp [hm]) hb) hin.2 t)

mutual
theorem RepV.noRo {M M' : Nat → Prop} {ρ' : List CObj} : ∀ (n : Nat) {a : AV} {v : Value}, hasRo n a = false → RepV w M [] a v → RepV w' M' ρ' a v
  | n, _, _, h, .top v => by cases n <;> simp [hasRo] at h
  | _, _, _, _, .bool b => .bool b
  | _, _, _, _, .int hk => .int hk
  | _, _, _, _, .str hs => .str hs
  | n + 1, _, _, h, .agg hl h1 => .agg (hl.noRo n (by simpa [hasRo] using h)) h1
  | 0, _, _, h, .agg hl h1 => by simp [hasRo] at h
  | _, _, _, _, .arr hl h1 hp => .arr (hl.scalar hp) h1 hp
  | n + 1, _, _, h, .tup hl => .tup (hl.noRo n (by simpa [hasRo] using h))
  | 0, _, _, h, .tup hl => by simp [hasRo] at h
  | _, _, _, _, .nilp => .nilp
  | _, _, _, _, .ptr e => by simp at e
  | _, _, _, _, .aptr e hi => by simp at e
  | n, _, _, h, .eptr .. => by cases n <;> simp [hasRo] at h
  | _, _, _, _, .nil => .nil
  | n, _, _, h, .roN .. => by cases n <;> simp [hasRo] at h
  | n, _, _, h, .ro .. => by cases n <;> simp [hasRo] at h
  | n, _, _, h, .rn .. => by cases n <;> simp [hasRo] at h
  | _, _, _, _, .own e h1 => by simp at e
  | _, _, _, _, .subN e => by simp at e
  | _, _, _, _, .sub e hle ha => by simp at e
  | n, _, _, h, .fn hl => by cases n <;> simp [hasRo] at h
  | _, _, _, _, .nilf => .nilf
  | _, _, _, _, .nilm => .nilm
  | _, _, _, _, .mapo e => by simp at e
  | _, _, _, _, .vsl e => by simp at e
  | n, _, _, h, .iface hv => by cases n <;> simp [hasRo] at h
  | _, _, _, _, .nili => .nili
  | _, _, _, _, .len h => .len h
  | n, _, _, h, .tin .. => by cases n <;> simp [hasRo] at h
theorem RepL.noRo {M M' : Nat → Prop} {ρ' : List CObj} : ∀ (n : Nat) {l : List AV} {vs : List Value}, (∀ a ∈ l, hasRo n a = false) → RepL w M [] l vs → RepL w' M' ρ' l vs
  | _, _, _, _, .nil => .nil
  | n, _, _, h, .cons hv t => .cons (hv.noRo n (h _ (by simp))) (t.noRo n fun a ha => h a (by simp [ha]))
end

mutual
/-- No row that is read is led to: the same in any world in which the references are kept. -/
theorem RepV.mapvN {M M' : Nat → Prop} {ρ ρ' : List CObj} (f : AV → AV) (hf : ∀ a v, isRef a = true → RepV w M ρ a v → RepV w' M' ρ' (f a) v) : ∀ (n : Nat) {a : AV} {v : Value}, hasRo n a = false → RepV w M ρ a v → RepV w' M' ρ' (mapv f n a) v
  | n, _, _, h, .top v => by cases n <;> simp [hasRo] at h
  | n, _, _, _, .bool b => by cases n <;> exact .bool b
  | n, _, _, _, .int hk => by cases n <;> exact .int hk
  | n, _, _, _, .str hs => by cases n <;> exact .str hs
  | n + 1, _, _, h, .agg hl h1 => .agg (hl.mapvN f hf n (by simpa [hasRo] using h)) h1
  | 0, _, _, h, .agg hl h1 => by simp [hasRo] at h
  | n, _, _, _, .arr hl h1 hp => by cases n <;> exact .arr (hl.scalar hp) h1 hp
  | n + 1, _, _, h, .tup hl => .tup (hl.mapvN f hf n (by simpa [hasRo] using h))
  | 0, _, _, h, .tup hl => by simp [hasRo] at h
  | n, _, _, _, .nilp => by cases n <;> exact .nilp
  | n, _, _, _, .ptr e => by cases n <;> exact hf _ _ rfl (.ptr e)
  | n, _, _, _, .aptr e hi => by cases n <;> exact hf _ _ rfl (.aptr e hi)
  | n, _, _, h, .eptr .. => by cases n <;> simp [hasRo] at h
  | n, _, _, _, .nil => by cases n <;> exact .nil
  | n, _, _, h, .roN .. => by cases n <;> simp [hasRo] at h
  | n, _, _, h, .ro .. => by cases n <;> simp [hasRo] at h
  | n, _, _, h, .rn .. => by cases n <;> simp [hasRo] at h
  | n, _, _, _, .own e h1 => by cases n <;> exact hf _ _ rfl (.own e h1)
  | n, _, _, _, .subN e => by cases n <;> exact hf _ _ rfl (.subN e)
  | n, _, _, _, .sub e hle ha => by cases n <;> exact hf _ _ rfl (.sub e hle ha)
  | n, _, _, h, .fn hl => by cases n <;> simp [hasRo] at h
  | n, _, _, _, .nilf => by cases n <;> exact .nilf
  | n, _, _, _, .nilm => by cases n <;> exact .nilm
  | n, _, _, _, .mapo e => by cases n <;> exact hf _ _ rfl (.mapo e)
  | n, _, _, _, .vsl e => by cases n <;> exact hf _ _ rfl (.vsl e)
  | n, _, _, h, .iface hv => by cases n <;> simp [hasRo] at h
  | n, _, _, _, .nili => by cases n <;> exact .nili
  | n, _, _, _, .len h => by cases n <;> exact .len h
  | n, _, _, h, .tin .. => by cases n <;> simp [hasRo] at h
theorem RepL.mapvN {M M' : Nat → Prop} {ρ ρ' : List CObj} (f : AV → AV) (hf : ∀ a v, isRef a = true → RepV w M ρ a v → RepV w' M' ρ' (f a) v) : ∀ (n : Nat) {l : List AV} {vs : List Value}, (∀ a ∈ l, hasRo n a = false) → RepL w M ρ l vs → RepL w' M' ρ' (l.map (mapv f n)) vs
  | _, _, _, _, .nil => .nil
  | n, _, _, h, .cons hv t => .cons (hv.mapvN f hf n (h _ (by simp))) (t.mapvN f hf n fun a ha => h a (by simp [ha]))
end

theorem shift_rep {M M' : Nat → Prop} {ρ1 ρr : List CObj} {n : Nat} (hn : ρ1.length = n) : ∀ a v, isRef a = true → RepV w M ρr a v → RepV w' M' (ρ1 ++ ρr) (shiftR n a) v := by
  subst hn
  have look : ∀ {o : Nat} {c : CObj}, ρr[o]? = some c → (ρ1 ++ ρr)[ρ1.length + o]? = some c := by
    intro o c h
    rw [List.getElem?_append_right (by omega)]
    simpa using h
  intro a v ha hr
  cases a with
  | own o => cases hr with | own e h1 => exact .own (look e) h1
  | sub o k l =>
    cases hr with
    | subN e => exact .subN (look e)
    | sub e hle had => exact .sub (look e) hle had
  | ptr o k => cases hr with | ptr e => exact .ptr (look e)
  | aptr o i k => cases hr with | aptr e hi => exact .aptr (look e) hi
  | mapo o => cases hr with | mapo e => exact .mapo (look e)
  | vsl o m => cases hr with | vsl e => exact .vsl (look e)
  | _ => cases ha

/-- WHAT A CALL HAS MADE comes to lie behind what was there. -/
theorem Rel.join (h : Rel tt w0 FP Mx ρ0 ρ s a w) (hg : Grew w w') {M : Nat → Prop} {tt' : Tab} {ρr : List CObj} {objs : List AObj} (hE : Env tt' w' M ρr objs) (hfit : objs.all (objFits tt) = true)
    (hfr : ∀ (i : Nat) (c : CObj) (b : Nat), ρr[i]? = some c → c.block? = some b → w.heap.size ≤ b) {r : AV} {v : Value} (hr : RepV w' (Mof M ρr) ρr r v)
    (hcase : (∀ b, Mof Mx ρ b → M b) ∨ (hasRo 3 r = false ∧ objs.any objRo = false)) (d : Option Nat) : Goes tt w0 FP Mx ρ0 (s.joined objs d r) (a.put d v) w' := by
  have hlenS : ρ.length = s.hp.length := h.env.len
  have hL1 : Later w (Mof Mx ρ) w' (Mof Mx (ρ ++ ρr)) := by
    refine ⟨hg.size, fun b hb _ => hg.block b hb, fun b hb hm => ?_⟩
    rcases hm with hm | ⟨c, hc, hcb⟩
    · exact .inl hm
    · rcases List.mem_append.1 hc with hc | hc
      · exact .inr ⟨c, hc, hcb⟩
      · obtain ⟨i, hi⟩ := List.getElem?_of_mem hc
        exact absurd (hfr i c b hi hcb) (by omega)
  have hsh := fun {M M' : Nat → Prop} => shift_rep (w := w') (w' := w') (M := M) (M' := M') (ρ1 := ρ) (ρr := ρr) hlenS
  have hL2 : (∀ b, Mof Mx ρ b → M b) → Later w' (Mof M ρr) w' (Mof Mx (ρ ++ ρr)) := by
    intro hM
    refine ⟨Nat.le_refl _, fun _ _ _ => rfl, fun b _ hm => ?_⟩
    rcases hm with hm | ⟨c, hc, hcb⟩
    · exact .inl (hM b (.inl hm))
    · rcases List.mem_append.1 hc with hc | hc
      · exact .inl (hM b (.inr ⟨c, hc, hcb⟩))
      · exact .inr ⟨c, hc, hcb⟩
  have hr' : RepV w' (Mof Mx (ρ ++ ρr)) (ρ ++ ρr) (mapv (shiftR s.hp.length) 3 r) v := by
    rcases hcase with hM | ⟨hno, _⟩
    · exact hr.mapv _ (hL2 hM) hsh 3
    · exact hr.mapvN _ hsh 3 hno
  have hobj : ∀ (o : AObj) (c : CObj), o ∈ objs → RepO tt' w' (Mof M ρr) ρr o c → RepO tt w' (Mof Mx (ρ ++ ρr)) (ρ ++ ρr) (mapObj (shiftR s.hp.length) o) c := by
    intro o c hm ho
    have hfit' := List.all_eq_true.1 hfit o hm
    cases ho with
    | dead c hc => exact .dead c hc
    | @vara T b k l us hb hl h1 =>
      refine .vara hb ?_ h1
      rcases hcase with hM | ⟨_, hno⟩
      · have := hl.mapv _ (hL2 hM) hsh 3
        rw [ints_mapv] at this
        exact this
      · have := hl.mapvN (M' := Mof Mx (ρ ++ ρr)) _ hsh 3 fun x hx => by
          obtain ⟨n, _, rfl⟩ := List.mem_map.1 hx; rfl
        rw [ints_mapv] at this
        exact this
    | @var T b cs us hb hl h1 =>
      refine .var hb ?_ h1
      rcases hcase with hM | ⟨_, hno⟩
      · exact hl.mapv _ (hL2 hM) hsh 3
      · refine hl.mapvN _ hsh 3 fun x hx => ?_
        have := List.any_eq_false.1 hno _ hm
        simp only [objRo, Bool.not_eq_true] at this
        simpa using List.any_eq_false.1 this x hx
    | @arr E sz p v us ho hl h1 hp hw hs hE =>
      refine .arr ho ?_ h1 hp hw hs hfit'
      rcases hcase with hM | ⟨_, hno⟩
      · exact hl.pure (hL2 hM) hp
      · have := List.any_eq_false.1 hno _ hm
        cases p with
        | rows n l => simp [objRo] at this
        | bytes l => exact hl.scalar fun x hx => by simp [Pay.cells] at hx; obtain ⟨y, _, rfl⟩ := hx; rfl
        | ints k l => exact hl.scalar fun x hx => by simp [Pay.cells] at hx; obtain ⟨y, _, rfl⟩ := hx; rfl
  refine ⟨ρ ++ ρr, Rel.put (s := ⟨s.fr, s.hp ++ objs.map (mapObj (shiftR s.hp.length))⟩) ⟨⟨?_, ?_, ?_, ?_, ?_⟩, ?_, h.defers, h.keeps.grew hg, ?_, ?_, ?_⟩ d hr'⟩
  · simp [hlenS, hE.len]
  · intro i o c ho hc
    rcases Nat.lt_or_ge i ρ.length with hi | hi
    · rw [List.getElem?_append_left (by omega)] at ho
      rw [List.getElem?_append_left hi] at hc
      exact (h.env.obj i o c ho hc).later' hL1 (fun b hb => hg.block b (h.env.block_lt hc hb)) (fun o c e => by
        rw [List.getElem?_append_left (by
          rcases Nat.lt_or_ge o ρ.length with h' | h'
          · exact h'
          · rw [List.getElem?_eq_none h'] at e; cases e)]
        exact e)
    · rw [List.getElem?_append_right (by omega), List.getElem?_map, Option.map_eq_some_iff] at ho
      obtain ⟨o', ho', rfl⟩ := ho
      rw [List.getElem?_append_right hi] at hc
      rw [← hlenS] at ho'
      exact hobj o' c (List.mem_of_getElem? ho') (hE.obj _ _ _ ho' hc)
  · intro i j ci cj b hne hi hj hbi hbj
    rcases Nat.lt_or_ge i ρ.length with h1 | h1 <;> rcases Nat.lt_or_ge j ρ.length with h2 | h2
    · rw [List.getElem?_append_left h1] at hi; rw [List.getElem?_append_left h2] at hj
      exact h.env.sep i j ci cj b hne hi hj hbi hbj
    · rw [List.getElem?_append_left h1] at hi; rw [List.getElem?_append_right h2] at hj
      have e1 := h.env.block_lt hi hbi
      have e2 := hfr _ _ _ hj hbj
      omega
    · rw [List.getElem?_append_right h1] at hi; rw [List.getElem?_append_left h2] at hj
      have e1 := h.env.block_lt hj hbj
      have e2 := hfr _ _ _ hi hbi
      omega
    · rw [List.getElem?_append_right h1] at hi; rw [List.getElem?_append_right h2] at hj
      exact hE.sep _ _ ci cj b (by omega) hi hj hbi hbj
  · intro i c b hi hb hm
    rcases Nat.lt_or_ge i ρ.length with h1 | h1
    · rw [List.getElem?_append_left h1] at hi
      exact h.env.mx i c b hi hb hm
    · rw [List.getElem?_append_right h1] at hi
      have e1 := hfr _ _ _ hi hb
      have e2 := h.env.lt b hm
      omega
  · intro b hb
    exact Nat.lt_of_lt_of_le (h.env.lt b hb) hg.size
  · exact h.fr.later hL1 (fun o c e => by
      rw [List.getElem?_append_left (by
        rcases Nat.lt_or_ge o ρ.length with h' | h'
        · exact h'
        · rw [List.getElem?_eq_none h'] at e; cases e)]
      exact e)
  · intro i c b hi hb
    rcases Nat.lt_or_ge i ρ.length with h1 | h1
    · rw [List.getElem?_append_left h1] at hi
      exact h.fresh i c b hi hb
    · rw [List.getElem?_append_right h1] at hi
      exact .inr (Nat.le_trans h.keeps.size (hfr _ _ _ hi hb))
  · intro i b hi
    have := h.hold i b hi
    rw [List.getElem?_append_left (by
      rcases Nat.lt_or_ge i ρ.length with h' | h'
      · exact h'
      · rw [List.getElem?_eq_none h'] at this; cases this)]
    exact this
  · rw [List.length_append]; have := h.old; omega
end
end Go.Proofs.YtmkgmlgklggnlaaGm

namespace Go.Proofs.YtmkgmlgklggnlaaGm

/-- A call that ends so: of a function with a body, or of one that the model's own entry carries out. -/
def CallOk (P : Program) (f : Nat) (cargs : Array Value) (w : World) (R : Ending → World → Prop) : Prop :=
  (∃ fn, P.funcs[f]? = some fn ∧ (fn.name == "runtime.NumGoroutine") = false ∧ fn.body.isNone = false ∧ Calls P f cargs w R) ∨
  (∃ v w', (callFunc f cargs).run P w = .ok (.value v) w' ∧ R (.returned v) w')

theorem CallOk.mono {P : Program} {f : Nat} {cargs : Array Value} {w : World} {R R' : Ending → World → Prop} (h : CallOk P f cargs w R) (hr : ∀ e w', R e w' → R' e w') : CallOk P f cargs w R' := by
  rcases h with ⟨fn, a, b, c, d⟩ | ⟨v, w', a, b⟩
  · exact .inl ⟨fn, a, b, c, d.mono hr⟩
  · exact .inr ⟨v, w', a, hr _ _ b⟩

/-- WHAT IS KNOWN OF A FUNCTION THAT READS AND ANSWERS. -/
structure PureOk (P : Program) (f : Nat) (go : Ans) : Prop where
  cps : PureCps go
  calls : ∀ (args : List AV) (r : AV) (objs : List AObj), go (Option (AV × List AObj)) none args (fun r o => some (r, o)) = some (r, objs) → ∀ (w : World) (M : Nat → Prop) (cargs : List Value), (∀ b, M b → b < w.heap.size) → RepL w M [] args cargs →
    CallOk P f cargs.toArray w fun e w' => ∃ v ρr tt, e = .returned v ∧ Env tt w' M ρr objs ∧ RepV w' (Mof M ρr) ρr r v ∧ Grew w w' ∧
      ∀ (i : Nat) (c : CObj) (b : Nat), ρr[i]? = some c → c.block? = some b → w.heap.size ≤ b

/-- WHAT IS KNOWN OF A FUNCTION THAT MAY CHANGE THE OBJECTS THAT IT IS HANDED. -/
structure EffOk (P : Program) (f : Nat) (go : EAns) : Prop where
  cps : EffCps go
  fn : ∃ fn, P.funcs[f]? = some fn ∧ (fn.name == "runtime.NumGoroutine") = false ∧ fn.body.isNone = false
  calls : ∀ (args : List AV) (hp : List AObj) (r : AV) (hp' : List AObj), go (Option (AV × List AObj)) none args hp (fun r o => some (r, o)) = some (r, hp') →
    ∀ (tt : Tab) (w : World) (M : Nat → Prop) (ρ : List CObj) (cargs : List Value), Env tt w M ρ hp → RepL w (Mof M ρ) ρ args cargs →
    Calls P f cargs.toArray w fun e w' => ∃ v ρ' tt', e = .returned v ∧ Env tt' w' M ρ' hp' ∧ RepV w' (Mof M ρ') ρ' r v ∧ Keeps w w' (fun b => ∃ c ∈ ρ, c.block? = some b) ∧
      (∀ (i : Nat) (c : CObj) (b : Nat), ρ'[i]? = some c → c.block? = some b → (∃ c ∈ ρ, c.block? = some b) ∨ w.heap.size ≤ b) ∧ (∀ (i b : Nat), ρ[i]? = some (.blk b) → ρ'[i]? = some (.blk b))

def SpecsOk (P : Program) (sg : List (Nat × Spec)) : Prop := ∀ f s, sget sg f = some s → match s with
  | .pure go => PureOk P f go
  | .eff go => EffOk P f go

theorem SpecsOk.cps {P : Program} {sg : List (Nat × Spec)} (h : SpecsOk P sg) : SpecsCps sg := by
  intro f s hf
  have := h f s hf
  cases s with
  | pure go => exact this.cps
  | eff go => exact this.cps

theorem SpecsOk.nil {P : Program} : SpecsOk P [] := fun f s h => by cases h
theorem SpecsOk.cons {P : Program} {f : Nat} {go : Ans} {sg : List (Nat × Spec)} (h : PureOk P f go) (t : SpecsOk P sg) : SpecsOk P ((f, .pure go) :: sg) := by
  intro g s hs
  simp only [sget] at hs
  cases hb : Nat.beq f g with
  | true =>
    rw [hb, cond_true] at hs
    cases hs
    have := Nat.eq_of_beq_eq_true hb
    subst this
    exact h
  | false =>
    rw [hb, cond_false] at hs
    exact t g s hs
theorem SpecsOk.consE {P : Program} {f : Nat} {go : EAns} {sg : List (Nat × Spec)} (h : EffOk P f go) (t : SpecsOk P sg) : SpecsOk P ((f, .eff go) :: sg) := by
  intro g s hs
  simp only [sget] at hs
  cases hb : Nat.beq f g with
  | true =>
    rw [hb, cond_true] at hs
    cases hs
    have := Nat.eq_of_beq_eq_true hb
    subst this
    exact h
  | false =>
    rw [hb, cond_false] at hs
    exact t g s hs

section
variable {P : Program} {tt : Tab} {w w' w0 : World} {FP Mx : Nat → Prop} {ρ ρ0 : List CObj} {hp : List AObj} {s : St} {a : Act}

theorem Mof_nil {Mx : Nat → Prop} {b : Nat} : Mof Mx [] b ↔ Mx b := by simp [Mof]

theorem Env.none {tt : Tab} {w : World} {M : Nat → Prop} (h : ∀ b, M b → b < w.heap.size) : Env tt w M [] [] :=
  ⟨rfl, fun i o c h => by simp at h, fun i j ci cj b _ h => by simp at h, fun i c b h => by simp at h, h⟩

/-- Who calls need not own what is answered. -/
theorem PureOk.lent {f : Nat} {go : Ans} (h : PureOk P f go) : PureOk P f (lentGo go) where
  cps := h.cps.lent
  calls := by
    intro args r objs hr w M cargs hM hargs
    have hr' : go (Option (AV × List AObj)) none args (fun r objs => some (mapv (lendL (ownIn 3 r) objs) 3 r, [])) = some (r, objs) := hr
    rw [h.cps] at hr'
    obtain ⟨⟨r0, objs0⟩, h1, h2⟩ := elim_some hr'
    cases h2
    refine (h.calls args r0 objs0 h1 w M cargs hM hargs).mono ?_
    rintro e w' ⟨v, ρr, tt, rfl, hE, hv, hg, hfr⟩
    refine ⟨v, [], tt, rfl, .none fun b hb => hE.lt b hb, ?_, hg, fun i c b hi => by simp at hi⟩
    have e0 : Mof M [] = M := by funext b; exact propext Mof_nil
    rw [e0]
    have hL : Later w' (Mof M ρr) w' M := ⟨Nat.le_refl _, fun _ _ _ => rfl, fun b _ hb => .inl hb⟩
    exact hv.mapv _ hL (lend_rep hE hL (fun i _ E p c b _ hc hb => ⟨fun hm => hE.mx i c b hc hb hm, rfl⟩) []) 3

theorem call_step (h : Rel tt w0 FP Mx ρ0 ρ s a w) {f : Nat} {go : Ans} (hgo : PureOk P f go) {args : List AV} {cargs : List Value}
    (hargs : RepL w (Mof Mx ρ) ρ args cargs) {d : Option Nat} {s' : St} (hs : callPure (R := Option St) none tt s.hp go args (fun r objs frz => some (St.joined (s.freezeAll frz) objs d r)) = some s') :
    CallOk P f cargs.toArray w fun e w' => ∃ v, e = .returned v ∧ Goes tt w0 FP Mx ρ0 s' (a.put d v) w' := by
  unfold callPure at hs
  cases hvs : args.all (vslIn s.hp) with
  | false => rw [hvs] at hs; cases hs
  | true =>
  rw [hvs, cond_true, hgo.cps] at hs
  obtain ⟨⟨r, objs⟩, hr, hs⟩ := elim_some hs
  cases hfit0 : objs.all (objFits tt) && !((hasRo 3 r || objs.any objRo) && args.any isVsl) with
  | false => simp only [hfit0, cond_false] at hs; cases hs
  | true =>
  simp only [hfit0, cond_true] at hs
  rw [Bool.and_eq_true] at hfit0
  obtain ⟨hfit, hnv⟩ := hfit0
  let L := args.flatMap (ownIn 3)
  let M : Nat → Prop := fun b => Mof Mx ρ b ∧ (∀ i ∈ L, ∀ E p c, hget s.hp i = .arr E p → ρ[i]? = some c → c.block? ≠ some b) ∧ ∀ o n, .vsl o n ∈ args → ρ[o]? ≠ some (.blk b)
  have hL : Later w (Mof Mx ρ) w M := ⟨Nat.le_refl _, fun _ _ _ => rfl, fun b _ hb => hb.1⟩
  have hlend : RepL w M [] (args.map (lendA L s.hp)) cargs :=
    lendA_repL h.env hL (fun i hi E p c b hE hc hb hm => hm.2.1 i hi E p c hE hc hb) (fun o n b hi hb hm => hm.2.2 o n hi hb) hvs hargs
  refine (hgo.calls _ r objs hr w M cargs (fun b hb => h.env.mof_lt hb.1) hlend).mono ?_
  rintro e w1 ⟨v, ρr, tt', rfl, hE, hv, hg, hfr⟩
  refine ⟨v, rfl, ?_⟩
  cases hro : hasRo 3 r || objs.any objRo with
  | false =>
    rw [hro] at hs
    simp only [cond_false, St.freezeAll, Option.some.injEq] at hs
    subst hs
    simp only [Bool.or_eq_false_iff] at hro
    exact h.join hg hE hfit hfr hv (.inr hro) d
  | true =>
    rw [hro] at hs
    simp only [cond_true, Option.some.injEq] at hs
    subst hs
    obtain ⟨ρ', h2, hsub, hnot⟩ := h.freezeAll L
    refine h2.join hg hE hfit hfr hv (.inl fun b hb => ⟨hsub b hb, fun i hi E p c hE' hc hcb => hnot i hi E p c b hE' hc hcb hb, fun o n hm => ?_⟩) d
    rw [hro, Bool.true_and, Bool.not_eq_true'] at hnv
    exact absurd hnv (by rw [List.any_eq_true.2 ⟨_, hm, rfl⟩]; simp)

theorem target_rep {v : AV} {u : Value} {f : Nat} {caps : List AV} {M : Nat → Prop} (h : RepV w M ρ v u) (ht : target v = some (f, caps)) : ∃ vs, u = .func (.func f) #[] vs.toArray ∧ RepL w M ρ caps vs := by
  cases v <;> simp only [target] at ht <;> cases ht
  cases h with | fn hl => exact ⟨_, rfl, hl⟩

/-- What an operation asks of what follows. -/
def StepOk (P : Program) (tt : Tab) (w0 : World) (FP Mx : Nat → Prop) (ρ0 : List CObj) (o : Oper) (a : Act) (w : World) (s' : St) : Prop :=
  ∀ (K : Act → World → Prop) (Q : Exit → Act → World → Prop), (∀ a' w', Goes tt w0 FP Mx ρ0 s' a' w' → K a' w') → o.wp P a w K Q

theorem StepOk.value {o : Oper} {s' : St} {u : Value} (h : (execOp a.eval o).run P w = .ok (.value u) w') (hg : Goes tt w0 FP Mx ρ0 s' (a.put o.dst u) w') : StepOk P tt w0 FP Mx ρ0 o a w s' := by
  intro K Q hK
  unfold Oper.wp
  rw [h]
  exact hK _ _ hg

theorem StepOk.skip {o : Oper} {s' : St} (h : (execOp a.eval o).run P w = .ok .skip w') (hg : Goes tt w0 FP Mx ρ0 s' (a.put o.dst undef) w') : StepOk P tt w0 FP Mx ρ0 o a w s' := by
  intro K Q hK
  unfold Oper.wp
  rw [h]
  exact hK _ _ hg

theorem callv_step (h : Rel tt w0 FP Mx ρ0 ρ s a w) (o : Oper) {cl : Call} (ho : o.op = .call cl) {x : Operand} (hcal : cl.callee = .value x) {f : Nat} {caps : List AV}
    (ht : target (aval s.fr x) = some (f, caps)) {go : Ans} (hgo : PureOk P f go) {s' : St}
    (hs : callPure (R := Option St) none tt s.hp go ((cl.args.toList.map (aval s.fr)).map deN ++ caps) (fun r objs frz => some (St.joined (s.freezeAll frz) objs o.dst r)) = some s') : StepOk P tt w0 FP Mx ρ0 o a w s' := by
  intro K Q hK
  obtain ⟨vs, hu, hl⟩ := target_rep (aval_rep h.fr x) ht
  have hargs := (repL_map h.fr cl.args.toList).deN.append hl
  rcases call_step h hgo hargs hs with ⟨fn, hfn, hname, hbody, hc⟩ | ⟨v, w1, hc, v', e, hg⟩
  · have hrun : (execOp a.eval o).run P w = .ok (.enter f (cl.args.toList.map a.eval ++ vs).toArray) w := by
      have hn : fn.name ≠ "runtime.NumGoroutine" := by simpa using hname
      have hb : fn.body ≠ none := by intro e; rw [e] at hbody; cases hbody
      simp [execOp, ho, resolve, hcal, hu, Deferred.ofValue, invoke, callFunc, hfn, hn, hb]
    unfold Oper.wp
    rw [hrun]
    refine hc.mono ?_
    rintro e w1 ⟨v, rfl, hg⟩
    exact hK _ _ hg
  · cases e
    have hrun : (execOp a.eval o).run P w = .ok (.value v) w1 := by
      have e : (cl.args.toList.map a.eval ++ vs).toArray = Array.map a.eval cl.args ++ vs.toArray := by simp
      rw [e] at hc
      simpa [execOp, ho, resolve, hcal, hu, Deferred.ofValue, invoke] using hc
    unfold Oper.wp
    rw [hrun]
    exact hK _ _ hg

/-- One element written: the cells behind it. -/
theorem setAt_rep {M : Nat → Prop} {p p' : Pay AV} {us : List Value} {i off : Nat} {ls : List AV} {vs : List Value} (hl : RepL w M ρ p.cells us) (hls : RepL w M ρ ls vs) (hw : p.wf) (hi : i < p.len)
    (hoff : off + ls.length ≤ p.sz) (h : p.setAt i off ls = some p') :
    RepL w M ρ p'.cells (vs.zipIdx.foldl (fun c x => c.set ((i * p.sz + off) + x.2) x.1) us) ∧ p'.len = p.len ∧ p'.sz = p.sz ∧ p'.wf ∧ (∀ e, kindOfPay e p = true → kindOfPay e p' = true) ∧
      ((∀ a ∈ p.cells, pureLeaf a = true) → (∀ a ∈ ls, pureLeaf a = true) → ∀ a ∈ p'.cells, pureLeaf a = true) := by
  cases p with
  | bytes l =>
    simp only [Pay.setAt] at h
    split at h
    case h_2 => cases h
    rename_i n
    cases h
    cases hls with | cons hv ht =>
    cases ht
    cases hv with | int hn =>
    simp only [Pay.sz, List.length_singleton] at hoff
    obtain rfl : off = 0 := by omega
    have e : (UInt8.ofNat n.toNat).toNat = n.toNat := by
      have := hn.2
      simp [IntKind.max, IntKind.signed, IntKind.bits] at this
      simp; omega
    have e2 : ((n.toNat : Nat) : Int) = n := by
      have := hn.1
      simp [IntKind.min, IntKind.signed] at this
      omega
    refine ⟨?_, by simp [Pay.len], rfl, trivial, fun e he => by cases e <;> simp_all [kindOfPay], ?_⟩
    · simp only [Pay.cells, Pay.sz, Nat.mul_one, Nat.add_zero, List.zipIdx_cons, List.zipIdx_nil, List.foldl_cons, List.foldl_nil, List.map_set]
      rw [e, e2, ← setN_eq]
      exact hl.set i (.int hn)
    · intro hp _ a ha
      simp only [Pay.cells, List.map_set] at ha
      rcases List.mem_or_eq_of_mem_set ha with ha | rfl
      · exact hp a ha
      · rfl
  | ints k l =>
    simp only [Pay.setAt] at h
    split at h
    case h_2 => cases h
    rename_i k' n
    cases hk : ikEq k k' <;> simp only [hk, cond_true, cond_false] at h <;> cases h
    have := ikEq_eq hk; subst this
    cases hls with | cons hv ht =>
    cases ht
    cases hv with | int hn =>
    simp only [Pay.sz, List.length_singleton] at hoff
    obtain rfl : off = 0 := by omega
    refine ⟨?_, by simp [Pay.len], rfl, trivial, fun e he => by cases e <;> simp_all [kindOfPay], ?_⟩
    · simp only [Pay.cells, Pay.sz, Nat.mul_one, Nat.add_zero, List.zipIdx_cons, List.zipIdx_nil, List.foldl_cons, List.foldl_nil, List.map_set]
      rw [← setN_eq]
      exact hl.set i (.int hn)
    · intro hp _ a ha
      simp only [Pay.cells, List.map_set] at ha
      rcases List.mem_or_eq_of_mem_set ha with ha | rfl
      · exact hp a ha
      · rfl
  | rows s l =>
    simp only [Pay.setAt, Option.some.injEq] at h
    subst h
    simp only [Pay.len] at hi
    simp only [Pay.sz] at hoff
    have hget : l.getD i [] = l[i] := by simp [List.getD, hi]
    have hli : (l[i]).length = s := hw.2 _ (List.getElem_mem hi)
    have hflat : (l.set i (setRange (l.getD i []) off ls)).flatten = setRange l.flatten (i * s + off) ls := by
      have split : l = l.take i ++ l[i] :: l.drop (i + 1) := by
        rw [← List.drop_eq_getElem_cons hi, List.take_append_drop]
      have e1 : (l.set i (setRange (l.getD i []) off ls)) = l.take i ++ setRange (l.getD i []) off ls :: l.drop (i + 1) := by
        rw [List.set_eq_take_append_cons_drop, if_pos hi]
      rw [e1, hget]
      have hpre : (l.take i).flatten.length = i * s := by
        rw [flatten_len (s := s) fun x hx => hw.2 x (List.mem_of_mem_take hx), List.length_take, Nat.min_eq_left (Nat.le_of_lt hi)]
      have key : ∀ (ls : List AV) (pre x post : List AV) (off : Nat), off + ls.length ≤ x.length → setRange (pre ++ (x ++ post)) (pre.length + off) ls = pre ++ (setRange x off ls ++ post) := by
        intro ls
        induction ls with
        | nil => intro pre x post off _; rfl
        | cons v ls ih =>
          intro pre x post off ho
          simp only [List.length_cons] at ho
          simp only [setRange, setN_eq]
          rw [List.set_append_right _ _ (by omega), show pre.length + off - pre.length = off by omega, List.set_append_left _ _ (by omega)]
          exact ih pre (x.set off v) post (off + 1) (by simp; omega)
      have := key ls (l.take i).flatten l[i] (l.drop (i + 1)).flatten off (by omega)
      rw [hpre] at this
      conv => rhs; rw [split]
      simp only [List.flatten_append, List.flatten_cons]
      rw [this]
    have hlen : (setRange (l.getD i []) off ls).length = s := by rw [setRange_length, hget, hli]
    refine ⟨?_, by simp [Pay.len], rfl, ⟨hw.1, ?_⟩, fun e he => by cases e <;> simp_all [kindOfPay], ?_⟩
    · simp only [Pay.cells, Pay.sz]
      rw [hflat]
      exact setRange_rep _ hl hls
    · intro x hx
      rcases List.mem_or_eq_of_mem_set hx with hx | rfl
      · exact hw.2 x hx
      · exact hlen
    · intro hp hq a ha
      simp only [Pay.cells] at ha hp
      rw [hflat] at ha
      have key : ∀ (ls cs : List AV) (n : Nat), (∀ a ∈ cs, pureLeaf a = true) → (∀ a ∈ ls, pureLeaf a = true) → ∀ a ∈ setRange cs n ls, pureLeaf a = true := by
        intro ls
        induction ls with
        | nil => intro cs n h _; exact h
        | cons v ls ih =>
          intro cs n h1 h2
          simp only [setRange, setN_eq]
          refine ih _ _ (fun a ha => ?_) fun a ha => h2 a (by simp [ha])
          rcases List.mem_or_eq_of_mem_set ha with ha | rfl
          · exact h1 a ha
          · exact h2 _ (by simp)
      exact key ls _ _ hp hq a ha
end
end Go.Proofs.YtmkgmlgklggnlaaGm

namespace Go.Proofs.YtmkgmlgklggnlaaGm

section
variable {hp : List AObj}
theorem reach_prefix : ∀ (n : Nat) (todo acc : List Nat), ∃ r, reach hp n todo acc = acc ++ r
  | 0, _, acc => ⟨[], by simp [reach]⟩
  | n + 1, [], acc => ⟨[], by simp [reach]⟩
  | n + 1, o :: todo, acc => by
    unfold reach
    cases memN acc o with
    | true => exact reach_prefix n todo acc
    | false =>
      obtain ⟨r, hr⟩ := reach_prefix n (todo ++ objRefs (hget hp o)) (acc ++ [o])
      exact ⟨o :: r, by rw [cond_false, hr]; simp⟩

theorem reach_nodup : ∀ (n : Nat) (todo acc : List Nat), acc.Nodup → (reach hp n todo acc).Nodup
  | 0, _, acc, h => by simpa [reach] using h
  | n + 1, [], acc, h => by simpa [reach] using h
  | n + 1, o :: todo, acc, h => by
    unfold reach
    cases hb : memN acc o with
    | true => exact reach_nodup n todo acc h
    | false =>
      refine reach_nodup n _ _ ?_
      rw [List.nodup_append]
      refine ⟨h, by simp, ?_⟩
      rintro x hx y hy rfl
      simp at hy; subst hy
      rw [← memN_iff, hb] at hx; cases hx

theorem upto_eq : ∀ n, upto n = List.range n
  | 0 => rfl
  | n + 1 => by rw [upto, upto_eq n, List.range_succ]

theorem posN_some : ∀ {l : List Nat} {o i : Nat}, posN l o = some i → l[i]? = some o
  | [], _, _, h => by simp [posN] at h
  | a :: l, o, i, h => by
    simp only [posN] at h
    cases hb : Nat.beq a o with
    | true =>
      simp only [hb, cond_true, Option.some.injEq] at h
      subst h
      have := Nat.eq_of_beq_eq_true hb
      simp [this]
    | false =>
      simp only [hb, cond_false] at h
      split at h
      · rename_i j hj
        cases h
        simpa using posN_some hj
      · cases h

theorem hget_get {l : List AObj} {i : Nat} : hget l i = (l[i]?).getD .dead := by
  induction l generalizing i with
  | nil => rfl
  | cons y l ih => cases i with
    | zero => rfl
    | succ i => simpa [hget] using ih

theorem posN_none : ∀ {l : List Nat} {o : Nat}, posN l o = none ↔ o ∉ l
  | [], o => by simp [posN]
  | a :: l, o => by
    simp only [posN]
    cases hb : Nat.beq a o with
    | true => have := Nat.eq_of_beq_eq_true hb; simp [this]
    | false =>
      have hne := Nat.ne_of_beq_eq_false hb
      simp only [cond_false]
      have ih := posN_none (l := l) (o := o)
      split
      · rename_i i hi
        rw [hi] at ih
        simp only [reduceCtorEq, false_iff, Decidable.not_not] at ih ⊢
        simp [ih]
      · rename_i hi
        simp only [hi, true_iff] at ih ⊢
        simp only [List.mem_cons, not_or]
        exact ⟨fun e => hne e.symm, ih⟩

theorem posN_get {l : List Nat} (hnd : l.Nodup) {o k : Nat} (h : l[k]? = some o) : posN l o = some k := by
  cases hp : posN l o with
  | none => exact absurd (List.mem_of_getElem? h) (posN_none.1 hp)
  | some i =>
    have := posN_some hp
    have hi : i < l.length := by
      rcases Nat.lt_or_ge i l.length with h' | h'
      · exact h'
      · rw [List.getElem?_eq_none h'] at this; cases this
    rw [(List.getElem?_inj hi hnd).1 (this.trans h.symm)]

theorem bkN_lt : ∀ {ids : List Nat} {n k o : Nat}, ids[k]? = some o → bkN ids n k = o
  | _ :: _, _, 0, _, h => by simpa [bkN] using h
  | _ :: _, _, k + 1, _, h => by simp only [bkN]; exact bkN_lt (by simpa using h)
theorem bkN_ge : ∀ {ids : List Nat} {n k : Nat}, ids.length ≤ k → bkN ids n k = n + (k - ids.length)
  | [], n, k, _ => by simp [bkN]
  | _ :: ids, n, 0, h => by simp at h
  | _ :: ids, n, k + 1, h => by
    simp only [bkN, List.length_cons]
    rw [bkN_ge (by simpa using h)]
    omega

theorem getA_eq {α : Type} (d : α) : ∀ (l : List α) (n : Nat), getA d l n = (l[n]?).getD d
  | [], _ => rfl
  | _ :: _, 0 => rfl
  | _ :: r, n + 1 => by simpa [getA] using getA_eq d r n
theorem dropA_eq {α : Type} : ∀ (l : List α) (n : Nat), dropA l n = l.drop n
  | l, 0 => by simp [dropA]
  | [], n + 1 => by simp [dropA]
  | _ :: r, n + 1 => by simpa [dropA] using dropA_eq r n
theorem mergeA_length {α : Type} (d : α) (ids : List Nat) (ys : List α) : ∀ (xs : List α) (i : Nat), (mergeA d ids ys xs i).length = xs.length
  | [], _ => rfl
  | _ :: xs, i => by simp [mergeA, mergeA_length d ids ys xs]
theorem mergeA_get {α : Type} (d : α) (ids : List Nat) (ys : List α) : ∀ (xs : List α) (i j : Nat), (mergeA d ids ys xs i)[j]? = (xs[j]?).map fun x => match posN ids (i + j) with | some k => getA d ys k | none => x
  | [], _, _ => by simp [mergeA]
  | x :: xs, i, 0 => by simp only [mergeA, List.getElem?_cons_zero, Option.map_some, Nat.add_zero]; rfl
  | x :: xs, i, j + 1 => by
    simp only [mergeA, List.getElem?_cons_succ]
    rw [mergeA_get d ids ys xs (i + 1) j, show i + 1 + j = i + (j + 1) by omega]

/-- A list as it was, but for the places 'ids', and more behind it: from where each comes. -/
theorem merged_get {α : Type} {d : α} {ids : List Nat} {ys xs : List α} (_hin : ∀ o ∈ ids, o < xs.length) (hle : ids.length ≤ ys.length) {j : Nat} {c : α}
    (h : (mergeA d ids ys xs 0 ++ ys.drop ids.length)[j]? = some c) : (posN ids j = none ∧ xs[j]? = some c) ∨ (∃ k, j = bkN ids xs.length k ∧ ys[k]? = some c) := by
  rcases Nat.lt_or_ge j xs.length with hj | hj
  · rw [List.getElem?_append_left (by rw [mergeA_length]; exact hj), mergeA_get, Option.map_eq_some_iff] at h
    obtain ⟨x, hx, rfl⟩ := h
    rw [Nat.zero_add]
    cases hp : posN ids j with
    | none => exact .inl ⟨rfl, hx⟩
    | some k =>
      refine .inr ⟨k, (bkN_lt (posN_some hp)).symm, ?_⟩
      have hk : k < ys.length := by
        have := posN_some hp
        rcases Nat.lt_or_ge k ids.length with h' | h'
        · omega
        · rw [List.getElem?_eq_none h'] at this; cases this
      dsimp only
      rw [getA_eq, List.getElem?_eq_getElem hk]; rfl
  · rw [List.getElem?_append_right (by rw [mergeA_length]; exact hj), mergeA_length, List.getElem?_drop] at h
    refine .inr ⟨ids.length + (j - xs.length), ?_, h⟩
    rw [bkN_ge (by omega)]; omega

theorem merged_old {α : Type} {d : α} {ids : List Nat} {ys xs : List α} {j : Nat} {c : α} (hp : posN ids j = none) (h : xs[j]? = some c) : (mergeA d ids ys xs 0 ++ ys.drop ids.length)[j]? = some c := by
  have hj : j < xs.length := by
    rcases Nat.lt_or_ge j xs.length with h' | h'
    · exact h'
    · rw [List.getElem?_eq_none h'] at h; cases h
  rw [List.getElem?_append_left (by rw [mergeA_length]; exact hj), mergeA_get, h, Nat.zero_add, hp]; rfl

theorem merged_new {α : Type} {d : α} {ids : List Nat} (hnd : ids.Nodup) {ys xs : List α} (hin : ∀ o ∈ ids, o < xs.length) {k : Nat} {c : α} (h : ys[k]? = some c) : (mergeA d ids ys xs 0 ++ ys.drop ids.length)[bkN ids xs.length k]? = some c := by
  rcases Nat.lt_or_ge k ids.length with hk | hk
  · have ho : ids[k]? = some ids[k] := List.getElem?_eq_getElem hk
    have hlt := hin _ (List.getElem_mem hk)
    rw [bkN_lt ho, List.getElem?_append_left (by rw [mergeA_length]; exact hlt), mergeA_get, List.getElem?_eq_getElem hlt, Nat.zero_add, posN_get hnd ho]
    simp [getA_eq, h]
  · rw [bkN_ge hk, List.getElem?_append_right (by rw [mergeA_length]; omega), mergeA_length, List.getElem?_drop, show ids.length + (xs.length + (k - ids.length) - xs.length) = k by omega]
    exact h
end

theorem RepO.retab {tt tt' : Tab} {w : World} {M : Nat → Prop} {ρ : List CObj} {o : AObj} {c : CObj} (h : RepO tt' w M ρ o c) (hf : objFits tt o = true) : RepO tt w M ρ o c := by
  cases h with
  | dead c hc => exact .dead c hc
  | var hb hl h1 => exact .var hb hl h1
  | vara hb hl h1 => exact .vara hb hl h1
  | arr ho hl h1 hp hw hs hE => exact .arr ho hl h1 hp hw hs hf

theorem Env.retab {tt tt' : Tab} {w : World} {Mx : Nat → Prop} {ρ : List CObj} {hp : List AObj} (h : Env tt' w Mx ρ hp) (hf : hp.all (objFits tt) = true) : Env tt w Mx ρ hp :=
  ⟨h.len, fun i o c ho hc => (h.obj i o c ho hc).retab (List.all_eq_true.1 hf o (List.mem_of_getElem? ho)), h.sep, h.mx, h.lt⟩

theorem objFits_mapObj {tt : Tab} (f : AV → AV) (o : AObj) : objFits tt (mapObj f o) = objFits tt o := by cases o <;> rfl

section
variable {P : Program} {tt : Tab} {w w' w0 : World} {FP Mx M : Nat → Prop} {ρ ρ0 : List CObj} {hp : List AObj} {s : St} {a : Act}

theorem renum_rep {ids : List Nat} {ρ1 : List CObj} {M' : Nat → Prop} (hpos : ∀ {o i : Nat} {c : CObj}, posN ids o = some i → ρ[o]? = some c → ρ1[i]? = some c) :
    ∀ x v, isRef x = true → RepV w M ρ x v → RepV w' M' ρ1 (renum ids x) v := by
  intro x v hx hr
  cases x with
  | own o =>
    simp only [renum]
    cases hr with | own e e1 =>
    split
    · rename_i i hi; exact .own (hpos hi e) e1
    · exact .top _
  | sub o k n =>
    simp only [renum]
    split
    · rename_i i hi
      cases hr with
      | subN e => exact .subN (hpos hi e)
      | sub e hle had => exact .sub (hpos hi e) hle had
    · exact .top _
  | aptr o j off =>
    simp only [renum]
    cases hr with | aptr e hj =>
    split
    · rename_i i hi; exact .aptr (hpos hi e) hj
    · exact .top _
  | ptr o off =>
    simp only [renum]
    cases hr with | ptr e =>
    split
    · rename_i i hi; exact .ptr (hpos hi e)
    · exact .top _
  | mapo o =>
    simp only [renum]
    cases hr with | mapo e =>
    split
    · rename_i i hi; exact .mapo (hpos hi e)
    · exact .top _
  | vsl o m =>
    simp only [renum]
    cases hr with | vsl e =>
    split
    · rename_i i hi; exact .vsl (hpos hi e)
    · exact .top _
  | _ => cases hx

/-- A CALL OF WHAT MAY CHANGE WHAT IT IS HANDED. -/
theorem eff_step (h : Rel tt w0 FP Mx ρ0 ρ s a w) {f : Nat} {go : EAns} (hgo : EffOk P f go) {args : List AV} {cargs : List Value} {ids : List Nat} (hnd : ids.Nodup)
    (hargs : RepL w (Mof Mx ρ) ρ args cargs) {d : Option Nat} {s' : St} (hs : callEff (R := Option St) none tt s.hp go args ids (fun r hp' => some (s.effed ids hp' d r)) = some s') :
    Calls P f cargs.toArray w fun e w' => ∃ v, e = .returned v ∧ Goes tt w0 FP Mx ρ0 s' (a.put d v) w' := by
  unfold callEff at hs
  cases hin0 : ids.all (fun o => Nat.blt o s.hp.length) with
  | false => rw [hin0, cond_false] at hs; cases hs
  | true =>
  rw [hin0, cond_true, hgo.cps] at hs
  obtain ⟨⟨r, hp'⟩, hr, hs⟩ := elim_some hs
  dsimp only at hs
  cases hfit : (hp'.all (objFits tt) && Nat.ble ids.length hp'.length) with
  | false => rw [hfit, cond_false] at hs; cases hs
  | true =>
  rw [hfit, cond_true] at hs
  cases hs
  simp only [Bool.and_eq_true] at hfit
  obtain ⟨hfit, hle⟩ := hfit
  have hle := Nat.le_of_ble_eq_true hle
  have hin : ∀ o ∈ ids, o < s.hp.length := by
    intro o ho
    have := List.all_eq_true.1 hin0 o ho
    simp only [Nat.blt] at this
    exact Nat.le_of_ble_eq_true this
  have hlen : ρ.length = s.hp.length := h.env.len
  have hin' : ∀ o ∈ ids, o < ρ.length := fun o ho => by rw [hlen]; exact hin o ho
  -- what is handed over
  let ρc : List CObj := ids.map fun o => (ρ[o]?).getD .gone
  let Mc : Nat → Prop := fun b => Mof Mx ρ b ∧ ¬ ∃ c ∈ ρc, c.block? = some b
  have getc : ∀ {k o : Nat}, ids[k]? = some o → ∃ c, ρ[o]? = some c ∧ ρc[k]? = some c := by
    intro k o hk
    have ho := hin' o (List.mem_of_getElem? hk)
    exact ⟨ρ[o], List.getElem?_eq_getElem ho, by simp [ρc, List.getElem?_map, hk, List.getElem?_eq_getElem ho]⟩
  have fromc : ∀ {k : Nat} {c : CObj}, ρc[k]? = some c → ∃ o, ids[k]? = some o ∧ ρ[o]? = some c := by
    intro k c hc
    simp only [ρc, List.getElem?_map, Option.map_eq_some_iff] at hc
    obtain ⟨o, ho, rfl⟩ := hc
    refine ⟨o, ho, ?_⟩
    have := hin' o (List.mem_of_getElem? ho)
    rw [List.getElem?_eq_getElem this]; rfl
  have memc : ∀ {c : CObj}, c ∈ ρc → ∃ o, o ∈ ids ∧ ρ[o]? = some c := by
    intro c hc
    obtain ⟨k, hk⟩ := List.getElem?_of_mem hc
    obtain ⟨o, h1, h2⟩ := fromc hk
    exact ⟨o, List.mem_of_getElem? h1, h2⟩
  have hmof : ∀ b, Mof Mc ρc b ↔ Mof Mx ρ b := by
    intro b
    constructor
    · rintro (hb | ⟨c, hc, hb⟩)
      · exact hb.1
      · obtain ⟨o, _, ho⟩ := memc hc
        exact .inr ⟨c, List.mem_of_getElem? ho, hb⟩
    · intro hb
      by_cases hx : ∃ c ∈ ρc, c.block? = some b
      · exact .inr hx
      · exact .inl ⟨hb, hx⟩
  have hLc : Later w (Mof Mx ρ) w (Mof Mc ρc) := ⟨Nat.le_refl _, fun _ _ _ => rfl, fun b _ hb => (hmof b).1 hb⟩
  have hren := renum_rep (w := w) (w' := w) (M := Mof Mx ρ) (M' := Mof Mc ρc) (ρ := ρ) (ids := ids) (ρ1 := ρc) (fun {o i c} hp ho => by
    obtain ⟨c', h1, h2⟩ := getc (posN_some hp)
    rw [ho] at h1; cases h1; exact h2)
  have hEc : Env tt w Mc ρc (ids.map fun o => mapObj (renum ids) (hget s.hp o)) := by
    refine ⟨by simp [ρc], ?_, ?_, ?_, fun b hb => h.env.mof_lt hb.1⟩
    · intro i o c ho hc
      obtain ⟨k, hk, hkc⟩ := fromc hc
      simp only [List.getElem?_map, hk, Option.map_some, Option.some.injEq] at ho
      subst ho
      have hlt := hin k (List.mem_of_getElem? hk)
      rw [hget_get, List.getElem?_eq_getElem hlt]
      exact (h.env.obj k _ _ (List.getElem?_eq_getElem hlt) hkc).later hLc (fun _ _ => rfl) hren
    · intro i j ci cj b hne hi hj hb hb'
      obtain ⟨oi, h1, h2⟩ := fromc hi
      obtain ⟨oj, h3, h4⟩ := fromc hj
      refine h.env.sep oi oj ci cj b ?_ h2 h4 hb hb'
      rintro rfl
      exact hne ((List.getElem?_inj (by
        rcases Nat.lt_or_ge i ids.length with h' | h'
        · exact h'
        · rw [List.getElem?_eq_none h'] at h1; cases h1) hnd).1 (h1.trans h3.symm))
    · intro i c b hc hb hm
      exact hm.2 ⟨c, List.mem_of_getElem? hc, hb⟩
  refine (hgo.calls _ _ r hp' hr tt w Mc ρc cargs hEc (hargs.mapv _ hLc hren 3)).mono ?_
  rintro e w' ⟨v, ρ', tt', rfl, hE, hv, hk, hfr, hold⟩
  refine ⟨v, rfl, ?_⟩
  have hlen' : ρ'.length = hp'.length := hE.len
  have hle' : ids.length ≤ ρ'.length := by rw [hlen']; exact hle
  let ρn : List CObj := mergeA .gone ids ρ' ρ 0 ++ ρ'.drop ids.length
  have getn : ∀ {j : Nat} {c : CObj}, ρn[j]? = some c → (posN ids j = none ∧ ρ[j]? = some c) ∨ (∃ k, j = bkN ids ρ.length k ∧ ρ'[k]? = some c) := fun hj => merged_get hin' hle' hj
  have oldn : ∀ {j : Nat} {c : CObj}, posN ids j = none → ρ[j]? = some c → ρn[j]? = some c := fun h1 h2 => merged_old h1 h2
  have newn : ∀ {k : Nat} {c : CObj}, ρ'[k]? = some c → ρn[bkN ids ρ.length k]? = some c := fun h1 => merged_new hnd hin' h1
  have mxc : ∀ b, Mx b → Mc b := by
    intro b hb
    refine ⟨.inl hb, ?_⟩
    rintro ⟨c, hc, hcb⟩
    obtain ⟨o, _, ho⟩ := memc hc
    exact h.env.mx o c b ho hcb hb
  have oldc : ∀ {j : Nat} {c : CObj} {b : Nat}, posN ids j = none → ρ[j]? = some c → c.block? = some b → Mc b := by
    intro j c b hj hc hb
    refine ⟨.inr ⟨c, List.mem_of_getElem? hc, hb⟩, ?_⟩
    rintro ⟨c', hc', hb'⟩
    obtain ⟨o, ho, ho'⟩ := memc hc'
    refine h.env.sep j o c c' b ?_ hc ho' hb hb'
    rintro rfl
    exact posN_none.1 hj ho
  have hmn : ∀ b, Mof Mx ρn b ↔ Mof Mc ρ' b := by
    intro b
    constructor
    · rintro (hb | ⟨c, hc, hb⟩)
      · exact .inl (mxc b hb)
      · obtain ⟨j, hj⟩ := List.getElem?_of_mem hc
        rcases getn hj with ⟨h1, h2⟩ | ⟨k, _, h2⟩
        · exact .inl (oldc h1 h2 hb)
        · exact .inr ⟨c, List.mem_of_getElem? h2, hb⟩
    · rintro (⟨hb | ⟨c, hc, hcb⟩, hnot⟩ | ⟨c, hc, hcb⟩)
      · exact .inl hb
      · obtain ⟨j, hj⟩ := List.getElem?_of_mem hc
        cases hp : posN ids j with
        | none => exact .inr ⟨c, List.mem_of_getElem? (oldn hp hj), hcb⟩
        | some k =>
          obtain ⟨c', h1, h2⟩ := getc (posN_some hp)
          rw [hj] at h1; cases h1
          exact absurd ⟨c, List.mem_of_getElem? h2, hcb⟩ hnot
      · obtain ⟨k, hk'⟩ := List.getElem?_of_mem hc
        exact .inr ⟨c, List.mem_of_getElem? (newn hk'), hcb⟩
  have fpm : ∀ {b : Nat}, (∃ c ∈ ρc, c.block? = some b) → Mof Mx ρ b := by
    rintro b ⟨c, hc, hb⟩
    obtain ⟨o, _, ho⟩ := memc hc
    exact .inr ⟨c, List.mem_of_getElem? ho, hb⟩
  have hL1 : Later w (Mof Mx ρ) w' (Mof Mx ρn) := by
    refine ⟨hk.size, fun b hb hm => hk.block b hb fun hx => hm (fpm hx), fun b hb hm => ?_⟩
    rcases (hmn b).1 hm with hm | ⟨c, hc, hcb⟩
    · exact hm.1
    · obtain ⟨i, hi⟩ := List.getElem?_of_mem hc
      rcases hfr i c b hi hcb with hx | hx
      · exact fpm hx
      · omega
  have hL2 : Later w' (Mof Mc ρ') w' (Mof Mx ρn) := ⟨Nat.le_refl _, fun _ _ _ => rfl, fun b _ hb => (hmn b).1 hb⟩
  have keepB : ∀ {o b : Nat}, ρ[o]? = some (.blk b) → ρn[o]? = some (.blk b) := by
    intro o b ho
    cases hp : posN ids o with
    | none => exact oldn hp ho
    | some k =>
      obtain ⟨c', h1, h2⟩ := getc (posN_some hp)
      rw [ho] at h1; cases h1
      have := newn (hold k b h2)
      rwa [bkN_lt (posN_some hp)] at this
  have hlose : ∀ x v, isRef x = true → RepV w (Mof Mx ρ) ρ x v → RepV w' (Mof Mx ρn) ρn (loseIn ids x) v := by
    intro x v hx hr
    have nn : ∀ {o : Nat}, memN ids o = false → posN ids o = none := fun hm => posN_none.2 fun e => by rw [memN_iff.2 e] at hm; cases hm
    cases x with
    | own o =>
      simp only [loseIn]
      cases hm : memN ids o with
      | true => exact .top _
      | false => cases hr with | own e e1 => exact .own (oldn (nn hm) e) e1
    | sub o k n =>
      simp only [loseIn]
      cases hm : memN ids o with
      | true => exact .top _
      | false =>
        cases hr with
        | subN e => exact .subN (oldn (nn hm) e)
        | sub e hle had => exact .sub (oldn (nn hm) e) hle had
    | aptr o i off =>
      simp only [loseIn]
      cases hm : memN ids o with
      | true => exact .top _
      | false => cases hr with | aptr e hi => exact .aptr (oldn (nn hm) e) hi
    | ptr o off => cases hr with | ptr e => exact .ptr (keepB e)
    | mapo o => cases hr with | mapo e => exact .mapo (keepB e)
    | vsl o m => cases hr with | vsl e => exact .vsl (keepB e)
    | _ => cases hx
  have hback : ∀ x v, isRef x = true → RepV w' (Mof Mc ρ') ρ' x v → RepV w' (Mof Mx ρn) ρn (backR ids s.hp.length x) v := by
    rw [← hlen]
    intro x v hx hr
    cases x with
    | own o => cases hr with | own e e1 => exact .own (newn e) e1
    | sub o k n =>
      cases hr with
      | subN e => exact .subN (newn e)
      | sub e hle had => exact .sub (newn e) hle had
    | aptr o i off => cases hr with | aptr e hi => exact .aptr (newn e) hi
    | ptr o off => cases hr with | ptr e => exact .ptr (newn e)
    | mapo o => cases hr with | mapo e => exact .mapo (newn e)
    | vsl o m => cases hr with | vsl e => exact .vsl (newn e)
    | _ => cases hx
  unfold St.effed
  refine ⟨ρn, Rel.put ⟨⟨?_, ?_, ?_, ?_, ?_⟩, h.fr.mapv _ hL1 hlose 4, h.defers, ?_, ?_, ?_, ?_⟩ d (hv.mapv _ hL2 hback 3)⟩
  · simp only [ρn, List.length_append, mergeA_length, List.length_map, dropA_eq, List.length_drop, hlen, hlen']
  · intro i o c ho hc
    have ho' := ho
    rw [dropA_eq, List.map_drop] at ho'
    have hge := merged_get (d := AObj.dead) (ids := ids) (ys := hp'.map (mapObj (backR ids s.hp.length))) (xs := s.hp.map (mapObj (loseIn ids))) (by simpa using hin) (by simpa using hle) ho'
    rcases getn hc with ⟨h1, h2⟩ | ⟨k, hk1, h2⟩
    · have e1 : (s.hp.map (mapObj (loseIn ids)))[i]? = some o := by
        rcases hge with ⟨_, h3⟩ | ⟨k, hk1, h3⟩
        · exact h3
        · exfalso
          have hi : i < s.hp.length := by
            rw [← hlen]
            rcases Nat.lt_or_ge i ρ.length with h' | h'
            · exact h'
            · rw [List.getElem?_eq_none h'] at h2; cases h2
          rcases Nat.lt_or_ge k ids.length with hk2 | hk2
          · rw [bkN_lt (List.getElem?_eq_getElem hk2)] at hk1
            exact posN_none.1 h1 (hk1 ▸ List.getElem_mem hk2)
          · rw [bkN_ge hk2, List.length_map] at hk1; omega
      rw [List.getElem?_map, Option.map_eq_some_iff] at e1
      obtain ⟨o0, ho0, rfl⟩ := e1
      refine (h.env.obj i o0 c ho0 h2).later hL1 (fun b hb => hk.block b (h.env.block_lt h2 hb) ?_) hlose
      exact (oldc h1 h2 hb).2
    · have e1 : (hp'.map (mapObj (backR ids s.hp.length)))[k]? = some o := by
        rcases hge with ⟨h1, h3⟩ | ⟨k', hk1', h3⟩
        · exfalso
          have hi : i < s.hp.length := by
            rcases Nat.lt_or_ge i s.hp.length with h' | h'
            · exact h'
            · rw [List.getElem?_eq_none (by simpa using h')] at h3; cases h3
          rcases Nat.lt_or_ge k ids.length with hk2 | hk2
          · rw [bkN_lt (List.getElem?_eq_getElem hk2)] at hk1
            exact posN_none.1 h1 (hk1 ▸ List.getElem_mem hk2)
          · rw [bkN_ge hk2] at hk1; omega
        · have : k = k' := by
            rw [hk1] at hk1'
            rw [List.length_map, ← hlen] at hk1'
            rcases Nat.lt_or_ge k ids.length with a1 | a1 <;> rcases Nat.lt_or_ge k' ids.length with a2 | a2
            · rw [bkN_lt (List.getElem?_eq_getElem a1), bkN_lt (List.getElem?_eq_getElem a2)] at hk1'
              exact (List.getElem?_inj a1 hnd).1 (by rw [List.getElem?_eq_getElem a1, List.getElem?_eq_getElem a2, hk1'])
            · rw [bkN_lt (List.getElem?_eq_getElem a1), bkN_ge a2] at hk1'
              have := hin' _ (List.getElem_mem a1); omega
            · rw [bkN_ge a1, bkN_lt (List.getElem?_eq_getElem a2)] at hk1'
              have := hin' _ (List.getElem_mem a2); omega
            · rw [bkN_ge a1, bkN_ge a2] at hk1'; omega
          rw [this]; exact h3
      rw [List.getElem?_map, Option.map_eq_some_iff] at e1
      obtain ⟨o0, ho0, rfl⟩ := e1
      exact ((hE.obj k o0 c ho0 h2).retab (List.all_eq_true.1 hfit o0 (List.mem_of_getElem? ho0))).later hL2 (fun _ _ => rfl) hback
  · intro i j ci cj b hne hi hj hb hb'
    have mixed : ∀ {i k : Nat} {c c' : CObj}, posN ids i = none → ρ[i]? = some c → ρ'[k]? = some c' → c.block? = some b → c'.block? ≠ some b := by
      intro i k c c' h1 h2 h3 hb hb'
      rcases hfr k c' b h3 hb' with hx | hx
      · exact (oldc h1 h2 hb).2 hx
      · have := h.env.block_lt h2 hb; omega
    rcases getn hi with ⟨h1, h2⟩ | ⟨k, hk1, h2⟩ <;> rcases getn hj with ⟨h3, h4⟩ | ⟨k', hk2, h4⟩
    · exact h.env.sep i j ci cj b hne h2 h4 hb hb'
    · exact mixed h1 h2 h4 hb hb'
    · exact mixed h3 h4 h2 hb' hb
    · refine hE.sep k k' ci cj b ?_ h2 h4 hb hb'
      rintro rfl
      exact hne (hk1.trans hk2.symm)
  · intro i c b hi hb hm
    rcases getn hi with ⟨_, h2⟩ | ⟨k, _, h2⟩
    · exact h.env.mx i c b h2 hb hm
    · exact hE.mx k c b h2 hb (mxc b hm)
  · exact fun b hb => Nat.lt_of_lt_of_le (h.env.lt b hb) hk.size
  · refine h.keeps.step hk.os hk.tape hk.output hk.size fun b hb hn => hk.block b (Nat.lt_of_lt_of_le hb h.keeps.size) ?_
    rintro ⟨c, hc, hcb⟩
    obtain ⟨o, _, ho⟩ := memc hc
    rcases h.fresh o c b ho hcb with h1 | h1
    · exact hn h1
    · omega
  · intro i c b hi hb
    rcases getn hi with ⟨_, h2⟩ | ⟨k, _, h2⟩
    · exact h.fresh i c b h2 hb
    · rcases hfr k c b h2 hb with ⟨c', hc', hb'⟩ | hx
      · obtain ⟨o, _, ho⟩ := memc hc'
        exact h.fresh o c' b ho hb'
      · exact .inr (Nat.le_trans h.keeps.size hx)
  · intro i b hi
    exact keepB (h.hold i b hi)
  · simp only [ρn, List.length_append, mergeA_length]; have := h.old; omega

theorem freeze_cells {w : World} {g n : Nat} {cs : Array Value} {T : TypeId} {fr : Nat × Nat} (h : w.heap[g]? = some (.cells cs T fr)) :
    (∀ b, b ≠ g → (w.freeze ⟨g, n, none⟩ 1).heap[b]? = w.heap[b]?) ∧ (∀ off v, w.cell? ⟨g, off, none⟩ = some v → (w.freeze ⟨g, n, none⟩ 1).cell? ⟨g, off, none⟩ = some v) ∧ (w.freeze ⟨g, n, none⟩ 1).heap.size = w.heap.size := by
  unfold World.freeze
  rw [if_neg (by decide)]
  refine ⟨fun b hb => ?_, fun off v hv => ?_, by simp⟩
  · simp only [Array.getElem?_modify]
    rw [if_neg (fun e => hb e.symm)]
  · simp only [World.cell?, Array.getElem?_modify, if_pos, h, Option.map_some] at hv ⊢
    obtain ⟨lo, hi⟩ := fr
    exact hv

theorem mark_step (hT : TabOk P tt) (h : Rel tt w0 FP Mx ρ0 ρ s a w) {t i : Nat} {u : Value} (hv : RepV w (Mof Mx ρ) ρ (.own i) u) {d : Option Nat} {s' : St}
    (hs : markStep (R := Option St) none tt s t i d some = some s') : ∃ w', (convert t t u).run P w = .ok u w' ∧ Goes tt w0 FP Mx ρ0 s' (a.put d u) w' := by
  unfold markStep at hs
  split at hs
  case h_2 => cases hs
  rename_i e E0 p he hi
  split at hs
  case h_2 => cases hs
  rename_i E l hd
  split at hs
  case h_2 => cases hs
  rename_i l0 hb
  cases hlen : Nat.blt 0 l.length with
  | false => rw [hlen, cond_false] at hs; cases hs
  | true =>
  rw [hlen, cond_true] at hs
  cases hs
  have hpos : 0 < l.length := by unfold Nat.blt at hlen; exact Nat.le_of_ble_eq_true hlen
  obtain ⟨hu8, _⟩ := emptyPay_bytes hT hb
  have hts := (hT t e he).slice hd
  obtain ⟨c, hc, hro⟩ := h.env.at (hget_some hi (by simp))
  have hlt : i < ρ.length := by
    rcases Nat.lt_or_ge i ρ.length with h' | h'
    · exact h'
    · rw [List.getElem?_eq_none h'] at hc; cases hc
  have hro' := hro
  cases hro with | @arr _ sz _ v0 us ho hl h1 hpl hw hsz hk =>
  cases hv with | own e1 e2 =>
  rw [hc] at e1; cases e1
  rcases ho.2 with ⟨_, h0⟩ | ⟨g, cap, cur, rfl, _, hg, hn, hm, hcs, htake⟩
  · have : l.length = 0 := h0
    omega
  obtain ⟨f1, f2, f3⟩ := freeze_cells (n := cur.size) hg
  refine ⟨w.freeze ⟨g, cur.size, none⟩ 1, ?_, ?_⟩
  · have hsh : w.shape? g = some (E0, cur.size) := by unfold World.shape?; rw [hg]
    simp [convert, run_underlying hts, run_underlying hu8, markStringish, hsh]
  have hsub : ∀ b, Mof Mx (ρ.set i .gone) b → Mof Mx ρ b := by
    rintro b (hb | ⟨d, hd, hb⟩)
    · exact .inl hb
    · rcases List.mem_or_eq_of_mem_set hd with hd | rfl
      · exact .inr ⟨d, hd, hb⟩
      · cases hb
  have hnot : ∀ b, (CObj.row (.slice (some ⟨g, 0, none⟩) (Pay.len (.bytes l)) cap) sz).block? = some b → ¬ Mof Mx (ρ.set i .gone) b := by
    rintro b hb (hm | ⟨d, hd, hm⟩)
    · exact h.env.mx i _ b hc hb hm
    · obtain ⟨j, hj⟩ := List.getElem?_of_mem hd
      by_cases e : i = j
      · subst e
        rw [List.getElem?_set_self hlt] at hj
        cases hj; cases hm
      · rw [List.getElem?_set_ne e] at hj
        exact h.env.sep i j _ d b e hc hj hb hm
  have hL : Later w (Mof Mx ρ) (w.freeze ⟨g, cur.size, none⟩ 1) (Mof Mx (ρ.set i .gone)) := by
    refine ⟨by rw [f3]; exact Nat.le_refl _, fun b _ hb => f1 b ?_, fun b _ hb => hsub b hb⟩
    rintro rfl
    exact hb (.inr ⟨_, List.mem_of_getElem? hc, rfl⟩)
  have hfz := frozen_rep h.env hi hc hL (ρ' := ρ.set i .gone) (fun b hb => ⟨hnot b hb, by cases hb; exact f2⟩) (fun o d hne hd => by
    rw [List.getElem?_set_ne (fun e => hne e.symm)]; exact hd)
  have e0 : s.freeze i = ⟨(s.mapRefs (frozenAs i (.bytes l))).fr, hset (s.mapRefs (frozenAs i (.bytes l))).hp i .dead⟩ := by
    unfold St.freeze; rw [hi]
  rw [e0]
  refine ⟨ρ.set i .gone, Rel.put (h.change (c' := .gone) hc (by unfold World.freeze; split <;> rfl) (by unfold World.freeze; split <;> rfl) (by unfold World.freeze; split <;> rfl) (by rw [f3]; exact Nat.le_refl _) (fun b _ hb => f1 b fun e => hb (by rw [e]; rfl))
    (fun b hb => by cases hb) (fun b e => by cases e) hfz (.dead _ rfl)) d ?_⟩
  have := hfz (.own i) _ rfl (.own hc e2)
  simpa [frozenAs] using this

theorem effStep_sound (h : Rel tt w0 FP Mx ρ0 ρ s a w) (o : Oper) {cl : Call} (ho : o.op = .call cl) {x : Operand} (hcal : cl.callee = .value x) {f : Nat} {go : EAns} (hgo : EffOk P f go) {s' : St}
    (hs : aeffStep (R := Option St) none tt s go f cl.args.toList x o.dst some = some s') : StepOk P tt w0 FP Mx ρ0 o a w s' := by
  intro K Q hK
  unfold aeffStep at hs
  split at hs
  · rename_i f' caps ht
    cases hff : Nat.beq f' f with
    | false => rw [hff, cond_false] at hs; cases hs
    | true =>
      rw [hff, cond_true] at hs
      have := Nat.eq_of_beq_eq_true hff
      subst this
      obtain ⟨vs, hu, hl⟩ := target_rep (aval_rep h.fr x) ht
      obtain ⟨fn, hfn, hname, hbody⟩ := hgo.fn
      have hargs := (repL_map h.fr cl.args.toList).deN.append hl
      have hrun : (execOp a.eval o).run P w = .ok (.enter f' (cl.args.toList.map a.eval ++ vs).toArray) w := by
        have hn : fn.name ≠ "runtime.NumGoroutine" := by simpa using hname
        have hb : fn.body ≠ none := by intro e; rw [e] at hbody; cases hbody
        simp [execOp, ho, resolve, hcal, hu, Deferred.ofValue, invoke, callFunc, hfn, hn, hb]
      unfold Oper.wp
      rw [hrun]
      refine (eff_step h hgo (reach_nodup _ _ _ List.nodup_nil) hargs hs).mono ?_
      rintro e w1 ⟨v, rfl, hg⟩
      exact hK _ _ hg
  · cases hs
end
end Go.Proofs.YtmkgmlgklggnlaaGm

namespace Go.Proofs.YtmkgmlgklggnlaaGm

section
variable {P : Program} {tt : Tab} {w w' w0 : World} {FP Mx M M' : Nat → Prop} {ρ ρ0 ρ' : List CObj} {hp : List AObj} {s : St} {a : Act}

theorem rowLeaves_length : ∀ (ts : List Nat) (vs : List AV), (rowLeaves tt hp ts vs).length = vs.length
  | [], vs => by cases vs <;> simp [rowLeaves]
  | _ :: _, [] => by simp [rowLeaves]
  | t :: ts, v :: vs => by simp [rowLeaves, rowLeaves_length ts vs]

/-- Leaves laid into a row. -/
theorem rowLeaves_rep (hE : Env tt w Mx ρ hp) (hL : Later w (Mof Mx ρ) w' M') : ∀ {ts : List Nat} {vs : List AV} {us : List Value}, RepL w (Mof Mx ρ) ρ vs us →
    (∀ i ∈ vs.flatMap (ownIn 0), ∀ E p c b, hget hp i = .arr E p → ρ[i]? = some c → c.block? = some b → ¬ M' b ∧ w'.heap[b]? = w.heap[b]?) →
    (∀ x ∈ rowLeaves tt hp ts vs, pureLeaf x = true) → RepL w' M' ρ' (rowLeaves tt hp ts vs) us
  | [], _, _, .nil, _, _ => .nil
  | [], _, _, .cons h t, _, hp' => by
    simp only [rowLeaves] at hp' ⊢
    exact (RepL.cons h t).pure hL hp'
  | _ :: _, _, _, .nil, _, _ => by simp only [rowLeaves]; exact .nil
  | t :: ts, _, _, .cons (a := v) (v := u) h tl, hM, hp' => by
    simp only [rowLeaves] at hp' ⊢
    refine .cons ?_ (rowLeaves_rep hE hL tl (fun i hi => hM i (by simp [hi])) fun x hx => hp' x (by simp [hx]))
    split
    · cases h with | nil =>
      split
      · exact .roN (emptyPay_len _ _) (by decide) (fun _ => rfl)
      · exact .top _
    · exact h.mapv _ hL (lend_rep hE hL (fun i hi E p c b hE' hc hb => hM i (by simp [hi]) E p c b hE' hc hb) ρ') 0

theorem range_mod {α : Type} (z : List α) (d : α) (hz : 0 < z.length) : ∀ n, (List.range (n * z.length)).map (fun i => z.getD (i % z.length) d) = (List.replicate n z).flatten
  | 0 => by simp
  | n + 1 => by
    rw [Nat.add_mul, Nat.one_mul, List.range_add, List.map_append, range_mod z d hz n, List.replicate_succ', List.flatten_append]
    congr 1
    simp only [List.flatten_cons, List.flatten_nil, List.append_nil, List.map_map]
    apply List.ext_getElem
    · simp
    · intro i h1 h2
      simp only [List.length_map, List.length_range] at h1
      simp [Nat.mod_eq_of_lt h1, h2]

theorem RepL.flatten_replicate {l : List AV} {us : List Value} (h : RepL w M ρ l us) : ∀ n, RepL w M ρ (List.replicate n l).flatten (List.replicate n us).flatten
  | 0 => .nil
  | n + 1 => by
    simp only [List.replicate_succ, List.flatten_cons]
    exact h.append (RepL.flatten_replicate h n)

theorem map_replicate {α β : Type} (f : α → β) (n : Nat) (x : α) : (List.replicate n x).map f = List.replicate n (f x) := by simp

theorem flatten_replicate_one {α : Type} (n : Nat) (x : α) : (List.replicate n [x]).flatten = List.replicate n x := by
  induction n with
  | zero => rfl
  | succ n ih => simp [List.replicate_succ, ih]

theorem zeros_rep (hT : TabOk P tt) {E : Nat} {e : TyE} (he : tget tt E = some e) (hz : zeroOk tt E = true) (n : Nat) :
    ∃ us : List Value, us = (List.replicate n e.zv.cells.toList).flatten ∧ RepL w M ρ (zerosOf tt E n).cells us ∧ (∀ u ∈ us, u.oneCell' = true) ∧ (∀ a ∈ (zerosOf tt E n).cells, pureLeaf a = true) ∧ (zerosOf tt E n).len = n ∧
      (zerosOf tt E n).sz = e.size ∧ (zerosOf tt E n).wf ∧ kindOfPay (emptyPay tt E) (zerosOf tt E n) = true ∧ 0 < e.size := by
  refine ⟨_, rfl, ?_⟩
  have hok := hT E e he
  unfold zeroOk at hz
  rw [he] at hz
  unfold zerosOf emptyPay
  rw [he]
  split at hz
  · rename_i k sz by' k' z lf heq
    cases heq
    simp only [Bool.and_eq_true, decide_eq_true_eq] at hz
    obtain ⟨⟨hk, rfl⟩, hs⟩ := hz
    have := ikEq_eq hk; subst this
    have := Nat.eq_of_beq_eq_true hs; subst this
    have hcells : (Value.int k 0).cells.toList = [.int k 0] := rfl
    have h0 : k.has 0 := ⟨min_le k, max_ge k⟩
    simp only [hcells, flatten_replicate_one]
    have one : ∀ u ∈ List.replicate n (Value.int k 0), u.oneCell' = true := fun u hu => by rw [List.eq_of_mem_replicate hu]; rfl
    have rep : RepL w M ρ (List.replicate n (AV.int k 0)) (List.replicate n (.int k 0)) := RepL.replicate (.int h0) n
    have pur : ∀ a ∈ List.replicate n (AV.int k 0), pureLeaf a = true := fun u hu => by rw [List.eq_of_mem_replicate hu]; rfl
    cases k <;> first
      | (refine ⟨?_, one, ?_, ?_, rfl, trivial, rfl, by decide⟩
         · simpa [Pay.cells] using rep
         · simpa [Pay.cells] using pur
         · simp [Pay.len])
  · cases hz
  · rename_i e' hne hne2 heq
    cases heq
    simp only [Bool.and_eq_true] at hz
    obtain ⟨⟨z1, z2⟩, z3⟩ := hz
    have hpos : 0 < e.size := by simp [Nat.blt] at z3; omega
    obtain ⟨l1, l2⟩ := zero_rep (w := w) (M := M) (ρ := ρ) z1
    have hpure : ∀ x ∈ rowLeaves tt [] e.leaf (leavesOf e.zero), pureLeaf x = true := fun x hx => List.all_eq_true.1 z2 x hx
    have hrow : RepL w M ρ (rowLeaves tt [] e.leaf (leavesOf e.zero)) e.zv.cells.toList := by
      -- no reference among them: laid in any world
      have nr : ∀ {ts : List Nat} {vs : List AV} {us : List Value}, RepL w M ρ vs us → (∀ x ∈ rowLeaves tt [] ts vs, pureLeaf x = true) → RepL w M ρ (rowLeaves tt [] ts vs) us := by
        intro ts
        induction ts with
        | nil => intro vs us h _; cases vs <;> (simp only [rowLeaves]; exact h)
        | cons t ts ih =>
          intro vs us h hp'
          cases h with
          | nil => simp only [rowLeaves]; exact .nil
          | @cons v u l vs' hv ht =>
            simp only [rowLeaves] at hp' ⊢
            refine .cons ?_ (ih ht fun x hx => hp' x (by simp [hx]))
            split
            · cases hv with | nil =>
              split
              · exact .roN (emptyPay_len _ _) (by decide) (fun _ => rfl)
              · exact .top _
            · have hpv := hp' (mapv (lendL (ownIn 0 v) []) 0 v) (by simp)
              cases v with
              | own o =>
                have : mapv (lendL (ownIn 0 (.own o)) []) 0 (.own o) = .top := by simp [mapv, lendL, ownIn, memN, hget]
                rw [this] at hpv; cases hpv
              | sub o i n =>
                have : mapv (lendL (ownIn 0 (.sub o i n)) []) 0 (.sub o i n) = .top := by simp [mapv, lendL, ownIn, memN, hget]
                rw [this] at hpv; cases hpv
              | bool => exact hv
              | int => exact hv
              | str => exact hv
              | ro => exact hv
              | _ => cases hpv
      exact nr l1 hpure
    have hlr : (rowLeaves tt [] e.leaf (leavesOf e.zero)).length = e.size := by
      rw [rowLeaves_length, l1.length]
      have := hok.zs; simpa using this
    have one : ∀ u ∈ (List.replicate n e.zv.cells.toList).flatten, u.oneCell' = true := by
      intro u hu
      obtain ⟨l, hl, hu⟩ := List.mem_flatten.1 hu
      rw [List.eq_of_mem_replicate hl] at hu
      exact l2 u hu
    have pur : ∀ x ∈ (List.replicate n (rowLeaves tt [] e.leaf (leavesOf e.zero))).flatten, pureLeaf x = true := by
      intro u hu
      obtain ⟨l, hl, hu⟩ := List.mem_flatten.1 hu
      rw [List.eq_of_mem_replicate hl] at hu
      exact hpure u hu
    have hrep := hrow.flatten_replicate n
    obtain ⟨d, sz, by', zv, lf⟩ := e
    cases d <;> first
      | (exact ⟨hrep, one, pur, by simp [Pay.len], rfl, ⟨hpos, fun r hr => by rw [List.eq_of_mem_replicate hr]; exact hlr⟩, by simp [kindOfPay], hpos⟩)
      | skip
    · exact (hne2 _ _ _ _ _ rfl).elim
  · cases hz
end
end Go.Proofs.YtmkgmlgklggnlaaGm

namespace Go.Proofs.YtmkgmlgklggnlaaGm

section
variable {P : Program} {tt : Tab} {w w' w0 : World} {FP Mx M M' : Nat → Prop} {ρ ρ0 ρ' : List CObj} {hp : List AObj} {s : St} {a : Act}

theorem rowOf_rep (hE : Env tt w Mx ρ hp) (hL : Later w (Mof Mx ρ) w' M') {ts : List Nat} {v : AV} {u : Value} (hv : RepV w (Mof Mx ρ) ρ v u) (hok : leavesOk v = true)
    (hM : ∀ i ∈ leafOwn v, ∀ E p c b, hget hp i = .arr E p → ρ[i]? = some c → c.block? = some b → ¬ M' b ∧ w'.heap[b]? = w.heap[b]?) (hp' : rowPure tt hp ts v = true) :
    RepL w' M' ρ' (rowOf tt hp ts v) u.cells.toList ∧ (∀ c ∈ u.cells.toList, c.oneCell' = true) ∧ ∀ x ∈ rowOf tt hp ts v, pureLeaf x = true := by
  obtain ⟨l1, l2⟩ := leaves_rep hv hok
  have gen : (∀ l, v ≠ .arr l) → RepL w' M' ρ' (rowLeaves tt hp ts (leavesOf v)) u.cells.toList ∧ (∀ c ∈ u.cells.toList, c.oneCell' = true) ∧ ∀ x ∈ rowLeaves tt hp ts (leavesOf v), pureLeaf x = true := by
    intro hne
    have e1 : rowPure tt hp ts v = (rowLeaves tt hp ts (leavesOf v)).all pureLeaf := by cases v <;> first | rfl | exact absurd rfl (hne _)
    have e2 : leafOwn v = (leavesOf v).flatMap (ownIn 0) := by cases v <;> first | rfl | exact absurd rfl (hne _)
    rw [e1] at hp'
    rw [e2] at hM
    have hpp : ∀ x ∈ rowLeaves tt hp ts (leavesOf v), pureLeaf x = true := fun x hx => List.all_eq_true.1 hp' x hx
    exact ⟨rowLeaves_rep hE hL l1 hM hpp, l2, hpp⟩
  cases v with
  | arr l =>
    cases hv with | arr hl h1 hs =>
    refine ⟨?_, l2, fun x hx => pure_of_scalar (hs x hx)⟩
    simpa [rowOf, Value.cells] using hl.pure (M' := M') (ρ' := ρ') hL fun x hx => pure_of_scalar (hs x hx)
  | _ => exact gen (by simp)

/-- The parts of a slice's literal. -/
theorem setParts_rep (hE : Env tt w Mx ρ hp) (hL : Later w (Mof Mx ρ) w' M') {ts : List Nat} : ∀ {ps : List (Nat × AV)} {pv : List (Nat × Value)} {p r : Pay AV} {us : List Value}, RepP w (Mof Mx ρ) ρ ps pv →
    (∀ i ∈ ownsOf ps, ∀ E p c b, hget hp i = .arr E p → ρ[i]? = some c → c.block? = some b → ¬ M' b ∧ w'.heap[b]? = w.heap[b]?) →
    RepL w' M' ρ' p.cells us → (∀ u ∈ us, u.oneCell' = true) → (∀ a ∈ p.cells, pureLeaf a = true) → p.wf → setParts tt hp ts p ps = some r →
    ∃ us', Instr.fill (fun i => some (i * p.sz, p.sz)) us.toArray pv = some us'.toArray ∧ RepL w' M' ρ' r.cells us' ∧ (∀ u ∈ us', u.oneCell' = true) ∧ (∀ a ∈ r.cells, pureLeaf a = true) ∧ r.wf ∧
      r.len = p.len ∧ r.sz = p.sz ∧ (∀ e, kindOfPay e p = true → kindOfPay e r = true)
  | [], _, p, r, us, .nil, _, hl, h1, hp1, hw, h => by
    cases h
    exact ⟨us, rfl, hl, h1, hp1, hw, rfl, rfl, fun _ h => h⟩
  | (i, v) :: ps, _, p, r, us, .cons (v := u) hv t, hM, hl, h1, hp1, hw, h => by
    simp only [setParts] at h
    cases hb : (leavesOk v && rowPure tt hp ts v && Nat.blt i p.len && Nat.beq (rowOf tt hp ts v).length p.sz) <;> simp only [hb, cond_true, cond_false] at h
    · cases h
    simp only [Bool.and_eq_true] at hb
    obtain ⟨⟨⟨b1, b2⟩, b3⟩, b4⟩ := hb
    split at h
    case h_2 => cases h
    rename_i p' hset
    have hlen := Nat.eq_of_beq_eq_true b4
    have hi : i < p.len := by simp [Nat.blt] at b3; omega
    obtain ⟨r1, r2, r3⟩ := rowOf_rep (ρ' := ρ') (ts := ts) hE hL hv b1 (fun j hj => hM j (by simp [ownsOf, hj])) b2
    obtain ⟨s1, s2, s3, s4, s5, s6⟩ := setAt_rep (off := 0) hl r1 hw hi (by omega) hset
    have h1' : ∀ x ∈ u.cells.toList.zipIdx.foldl (fun c x => c.set ((i * p.sz + 0) + x.2) x.1) us, x.oneCell' = true := by
      refine foldl_set_mem _ _ us (fun v => v.oneCell' = true) h1 ?_
      rintro ⟨x, j⟩ hx
      exact r2 x (List.fst_mem_of_mem_zipIdx hx)
    obtain ⟨us', f1, f2, f3, f4, f5, f6, f7, f8⟩ := setParts_rep hE hL t (fun j hj => hM j (by simp only [ownsOf, List.flatMap_cons, List.mem_append]; exact .inr hj)) s1 h1' (s6 hp1 r3) s4 h
    refine ⟨us', ?_, f2, f3, f4, f5, by rw [f6, s2], by rw [f7, s3], fun e he => f8 e (s5 e he)⟩
    have hus : us.length = p.len * p.sz := by rw [← hl.length]; exact Pay.cells_length hw
    have hul : u.cells.size = p.sz := by
      have := r1.length
      simp at this; omega
    have hle : i * p.sz + u.cells.size ≤ us.toArray.size := by
      have : i * p.sz + p.sz ≤ p.len * p.sz := by rw [← Nat.succ_mul]; exact Nat.mul_le_mul_right _ hi
      simp; omega
    unfold Instr.fill
    dsimp only
    rw [if_neg (by simp [hul]; simp at hle; omega)]
    rw [s3] at f1
    rw [← f1]
    congr 1
    apply Array.ext'
    rw [← Array.foldl_toList, foldl_set_toList]
    simp

theorem array_range_map (z : Array Value) (hz : 0 < z.size) (n : Nat) : ((Array.range (n * z.size)).map (fun i => z[i % z.size]!)) = ((List.replicate n z.toList).flatten).toArray := by
  apply Array.ext'
  have := range_mod z.toList default (by simpa using hz) n
  simp only [Array.length_toList] at this
  rw [List.toList_toArray, ← this]
  simp only [Array.toList_map, Array.toList_range]
  apply List.map_congr_left
  intro i hi
  have hlt : i % z.size < z.size := Nat.mod_lt _ hz
  simp [List.getD, hlt]

/-- A new row. -/
theorem Rel.newRow (h : Rel tt w0 FP Mx ρ0 ρ s a w) (hg : Grew w w') {E sz cap : Nat} {p : Pay AV} {us rest : List Value} (hlu : RepL w (Mof Mx ρ) ρ p.cells us) (h1 : ∀ u ∈ us, u.oneCell' = true)
    (hp1 : ∀ a ∈ p.cells, pureLeaf a = true) (hw : p.wf) (hs : p.sz = sz) (hk : kindOfPay (emptyPay tt E) p = true) (hcap : p.len ≤ cap) (hm : cap ≤ maxLen) (hrest : (us ++ rest).length = cap * sz) :
    Rel tt w0 FP Mx ρ0 (ρ ++ [.row (.slice (some ⟨w'.heap.size, 0, none⟩) p.len cap) sz]) ⟨s.fr, s.hp ++ [.arr E p]⟩ a (w'.alloc (.cells (us ++ rest).toArray E)) := by
  have hg2 : Grew w (w'.alloc (.cells (us ++ rest).toArray E)) := hg.trans (grew_alloc _)
  have hus : us.length = p.len * p.sz := by rw [← hlu.length]; exact Pay.cells_length hw
  refine h.newObj hg2 (fun b hb => by cases hb; have := hg.size; simp; omega) (.arr (us := us) ⟨by rw [hus, hs], .inr ⟨w'.heap.size, cap, _, rfl, Nat.zero_le _, heap_alloc_new w' _, hcap, hm, ?_, ?_⟩⟩
    (hlu.pure ⟨hg2.size, fun b hb _ => hg2.block b hb, fun b hb hm => ?_⟩ hp1) h1 hp1 hw hs hk)
  · simpa using hrest
  · rw [List.toList_toArray, ← hs, ← hus]; simp
  · rcases Mof_snoc.1 hm with hm | hm
    · exact hm
    · cases hm; have := hg.size; simp at hb; omega

theorem newRow_own (h : Env tt w Mx ρ s.hp) {v : Value} {sz : Nat} (h1 : v.oneCell' = true) {w' : World} {M : Nat → Prop} : RepV w' M (ρ ++ [.row v sz]) (.own s.hp.length) v := by
  refine .own (sz := sz) ?_ h1
  rw [← h.len]; simp

theorem buildSlice_step (hT : TabOk P tt) (h : Rel tt w0 FP Mx ρ0 ρ s a w) {t len E : Nat} {e e0 : TyE} (ht : tget tt t = some e0) (hd : e0.d = .slice E) (he : tget tt E = some e)
    {ps : List (Nat × AV)} {pv : Array (Nat × Value)} (hps : RepP w (Mof Mx ρ) ρ ps pv.toList) {p : Pay AV} (hset : setParts tt s.hp e.leaf (zerosOf tt E len) ps = some p) (hz : zeroOk tt E = true)
    (hsmall : len * e.size ≤ 16777216) (d : Option Nat) :
    ∃ u w', (Instr.buildSlice t len pv).run P w = .ok u w' ∧ Goes tt w0 FP Mx ρ0 (St.put ⟨(s.freezeAll (ownsOf ps)).fr, (s.freezeAll (ownsOf ps)).hp ++ [.arr E p]⟩ d (.own (s.freezeAll (ownsOf ps)).hp.length)) (a.put d u) w' := by
  obtain ⟨ρ1, h1, hsub, hnot⟩ := h.freezeAll (ownsOf ps)
  obtain ⟨zs, rfl, z2, z3, z4, z5, z6, z7, z8, z9⟩ := zeros_rep (w := w) (M := Mof Mx ρ1) (ρ := ρ1) hT he hz len
  have hL : Later w (Mof Mx ρ) w (Mof Mx ρ1) := ⟨Nat.le_refl _, fun _ _ _ => rfl, fun b _ hb => hsub b hb⟩
  obtain ⟨us, f1, f2, f3, f4, f5, f6, f7, f8⟩ := setParts_rep (ρ' := ρ1) h.env hL hps (fun i hi E p c b hE hc hb => ⟨hnot i hi E p c b hE hc hb, rfl⟩) z2 z3 z4 z7 hset
  rw [z6] at f1 f7
  rw [z5] at f6
  have hus : us.length = p.len * p.sz := by rw [← f2.length]; exact Pay.cells_length f5
  have hlm : p.len ≤ maxLen := by
    have : len ≤ len * e.size := Nat.le_mul_of_pos_right len z9
    simp only [maxLen]; omega
  have key := h1.newRow (w' := w) (E := E) (sz := e.size) (cap := p.len) (rest := []) (.refl w) f2 f3 f4 f5 f7 (f8 _ z8) (Nat.le_refl _) hlm (by simp [hus, f7])
  simp only [List.append_nil] at key
  have hcz : e.zv.cells.size = e.size := (hT E e he).zs
  refine ⟨_, _, ?_, _, key.put d (newRow_own h1.env rfl)⟩
  simp only [Instr.buildSlice, Sem.run_bind, run_underlying ((hT t e0 ht).slice hd), Result.andThen_ok, run_sizeOf_of (hT E e he)]
  rw [if_neg (by omega)]
  by_cases h0 : len * e.size = 0
  · have : len = 0 := by rcases Nat.mul_eq_zero.1 h0 with h | h <;> omega
    subst this
    rw [if_pos h0]
    simp only [List.replicate_zero, List.flatten_nil] at f1
    have hr0 : Array.range 0 = #[] := rfl
    simp only [Sem.run_bind, Sem.run_pure, Result.andThen_ok, Nat.zero_mul, hr0, List.map_toArray, List.map_nil, f1, Go.newRow, run_newObj]
    rw [f6]
    rfl
  · rw [if_neg h0]
    have hzz := array_range_map e.zv.cells (by omega) len
    rw [hcz] at hzz
    simp only [Sem.run_bind, Sem.run_pure, Result.andThen_ok, run_zeroValue_of (hT E e he), hcz, hzz, f1, Go.newRow, run_newObj]
    rw [f6]
    rfl
end
end Go.Proofs.YtmkgmlgklggnlaaGm

namespace Go.Proofs.YtmkgmlgklggnlaaGm

section
variable {P : Program} {tt : Tab} {w w' w0 : World} {FP Mx M M' : Nat → Prop} {ρ ρ0 ρ' : List CObj} {hp : List AObj} {s : St} {a : Act}

theorem i64_wrap_id {n : Int} (h0 : 0 ≤ n) (h1 : n < 9223372036854775808) : IntKind.i64.wrap n = n := by
  simp [IntKind.wrap, IntKind.signed, IntKind.bits]
  (try split) <;> omega

theorem makeSlice_step (hT : TabOk P tt) (h : Rel tt w0 FP Mx ρ0 ρ s a w) {t E : Nat} {e e0 : TyE} (ht : tget tt t = some e0) (hd : e0.d = .slice E) (he : tget tt E = some e) {kl km : IntKind} {l m : Int}
    (hz : zeroOk tt E = true) (h0 : 0 ≤ l) (h1 : l ≤ m) (h2 : m * e.bytes ≤ 140737488355328) (h3 : 0 < e.bytes) (d : Option Nat) :
    ∃ u w', (Instr.makeSlice t (.int kl l) (.int km m)).run P w = .ok u w' ∧ Goes tt w0 FP Mx ρ0 (St.put ⟨s.fr, s.hp ++ [.arr E (zerosOf tt E l.toNat)]⟩ d (.own s.hp.length)) (a.put d u) w' := by
  obtain ⟨zs, hzs, z2, z3, z4, z5, z6, z7, z8, z9⟩ := zeros_rep (w := w) (M := Mof Mx ρ) (ρ := ρ) hT he hz l.toNat
  have hmb : m ≤ 140737488355328 := by
    have : m * 1 ≤ m * e.bytes := Int.mul_le_mul_of_nonneg_left (by omega) (by omega)
    omega
  have hcz : e.zv.cells.size = e.size := (hT E e he).zs
  have hzl : zs.length = l.toNat * e.size := by
    rw [← z2.length, Pay.cells_length z7, z5, z6]
  have key := h.newRow (w' := w) (E := E) (sz := e.size) (cap := m.toNat) (rest := (List.replicate (m.toNat - l.toNat) e.zv.cells.toList).flatten) (.refl w) z2 z3 z4 z7 z6 z8 (by rw [z5]; omega) (by simp only [maxLen]; omega) (by
    simp only [List.length_append, hzl, List.length_flatten, List.map_replicate, Array.length_toList, hcz, List.sum_replicate_nat]
    rw [← Nat.add_mul]; congr 1; omega)
  rw [z5] at key
  obtain ⟨i, hi1, hi2, hi3, hi4⟩ := (hT E e he).info'
  have hzz := array_range_map e.zv.cells (by omega) m.toNat
  have hcat : (List.replicate m.toNat e.zv.cells.toList).flatten = zs ++ (List.replicate (m.toNat - l.toNat) e.zv.cells.toList).flatten := by
    rw [hzs, ← List.flatten_append, List.replicate_append_replicate, show l.toNat + (m.toNat - l.toNat) = m.toNat by omega]
  rw [hcz] at hzz
  have w1 := i64_wrap_id h0 (by omega)
  have w2 := i64_wrap_id (show 0 ≤ m by omega) (by omega)
  refine ⟨_, _, ?_, _, key.put d (newRow_own h.env rfl)⟩
  have e1 : ((e.bytes : Int) * m) = m * e.bytes := Int.mul_comm _ _
  simp only [Instr.makeSlice, Sem.run_bind, run_underlying ((hT t e0 ht).slice hd), Result.andThen_ok, asInt, asIntOf, Sem.run_pure, w1, w2]
  have hti : (typeInfo E).run P w = .ok i w := by simp [typeInfo, hi1]
  simp only [hti, Result.andThen_ok, hi4, e1]
  rw [if_neg (by simp; omega)]
  simp only [Sem.run_bind, run_askRoom, Result.andThen_ok, run_sizeOf_of (hT E e he)]
  by_cases hn0 : m.toNat * e.size = 0
  · have hm0 : m.toNat = 0 := by rcases Nat.mul_eq_zero.1 hn0 with h | h <;> omega
    have hl0 : l.toNat = 0 := by omega
    have hzn : zs = [] := List.eq_nil_of_length_eq_zero (by rw [hzl, hl0]; simp)
    have hr0 : Array.range 0 = #[] := rfl
    rw [if_pos hn0]
    simp only [Sem.run_pure, Result.andThen_ok, hm0, Nat.zero_mul, hr0, List.map_toArray, List.map_nil, Go.newRow, run_newObj, Sem.run_bind, hzn, hl0, Nat.sub_zero, List.replicate_zero, List.flatten_nil, List.append_nil]
    rfl
  · rw [if_neg hn0]
    simp only [Sem.run_bind, run_zeroValue_of (hT E e he), Result.andThen_ok, Sem.run_pure, hcz, hzz, Go.newRow, run_newObj, hcat]
    rfl

theorem hset_same : ∀ {l : List AObj} {i : Nat} {v : AObj}, i < l.length → (hset l i v)[i]? = some v
  | [], i, v, h => by simp at h
  | _ :: l, 0, v, _ => rfl
  | _ :: l, i + 1, v, h => by simp [hset]; exact hset_same (by simpa using h)

/-- A row of the call's own is written in its place. -/
theorem Rel.writeRow (h : Rel tt w0 FP Mx ρ0 ρ s a w) {i g cap sz E : Nat} {p : Pay AV} {us : List Value} {cur : Array Value} (hc : ρ[i]? = some (.row (.slice (some ⟨g, 0, none⟩) p.len cap) sz))
    (hcur : w.heap[g]? = some (.cells cur E (0, 0))) (hl : RepL w (Mof Mx ρ) ρ p.cells us) (h1 : ∀ u ∈ us, u.oneCell' = true) (hp1 : ∀ a ∈ p.cells, pureLeaf a = true) (hw : p.wf) (hs : p.sz = sz)
    (hk : kindOfPay (emptyPay tt E) p = true) (hcap : p.len ≤ cap) (hm : cap ≤ maxLen) {cur' : Array Value} (hsz : cur'.size = cap * sz) (htake : cur'.toList.take us.length = us) :
    Rel tt w0 FP Mx ρ0 ρ ⟨s.fr, hset s.hp i (.arr E p)⟩ a (w.setRow g cur') := by
  have hblk : ∀ k, k ≠ g → (w.setRow g cur').heap[k]? = w.heap[k]? := fun k hk => setRow_other w g k _ hk
  have hL : Later w (Mof Mx ρ) (w.setRow g cur') (Mof Mx ρ) :=
    ⟨by simp, fun k _ hm => hblk k fun e => hm (.inr ⟨_, List.mem_of_getElem? hc, by rw [e]; rfl⟩), fun _ _ hm => hm⟩
  have hus : us.length = p.len * p.sz := by rw [← hl.length]; exact Pay.cells_length hw
  refine ⟨⟨?_, ?_, h.env.sep, h.env.mx, fun b hb => by simpa using h.env.lt b hb⟩, h.fr.later hL (fun _ _ e => e), h.defers, ?_, h.fresh, h.hold, h.old⟩
  · simp [hset_length, h.env.len]
  · intro j x d hx hd
    rcases hset_get hx with ⟨rfl, rfl⟩ | ⟨hne, hx⟩
    · rw [hc] at hd; cases hd
      refine .arr (us := us) ⟨by rw [hus, hs], .inr ⟨g, cap, cur', rfl, Nat.zero_le _, setRow_heap w g cur _ E _ hcur, hcap, hm, hsz, ?_⟩⟩ (hl.later hL fun _ _ e => e) h1 hp1 hw hs hk
      rw [← hs, ← hus]; exact htake
    · refine (h.env.obj j x d hx hd).later' hL (fun k hk => hblk k fun e => ?_) (fun _ _ e => e)
      exact h.env.sep j i d _ k hne hd hc hk (by rw [e]; rfl)
  · refine h.keeps.step rfl rfl rfl (by simp) fun k hk hn => hblk k fun e => ?_
    rcases h.fresh i _ g hc rfl with h1 | h1
    · exact hn (e ▸ h1)
    · omega

theorem freezeAll_get : ∀ {L : List Nat} {s : St} {i E : Nat} {p : Pay AV}, memN L i = false → hget s.hp i = .arr E p → hget (s.freezeAll L).hp i = .arr E p
  | [], _, _, _, _, _, h => h
  | o :: L, s, i, E, p, hmem, h => by
    cases hbo : Nat.beq o i with
    | true => simp [memN, hbo] at hmem
    | false =>
      have hmem2 : memN L i = false := by simpa [memN, hbo] using hmem
      have hne : i ≠ o := fun e => by subst e; simp at hbo
      show hget ((s.freeze o).freezeAll L).hp i = _
      exact freezeAll_get hmem2 (freeze_get hne h)

theorem Rel.freezeAll_row : ∀ (L : List Nat) {ρ : List CObj} {s : St} {i : Nat} {c : CObj}, Rel tt w0 FP Mx ρ0 ρ s a w → memN L i = false → ρ[i]? = some c → ∃ ρ', Rel tt w0 FP Mx ρ0 ρ' (s.freezeAll L) a w ∧
    (∀ b, Mof Mx ρ' b → Mof Mx ρ b) ∧ (∀ i ∈ L, ∀ E p c b, hget s.hp i = .arr E p → ρ[i]? = some c → c.block? = some b → ¬ Mof Mx ρ' b) ∧ ρ'[i]? = some c
  | [], ρ, s, i, c, h, _, hc => ⟨ρ, h, fun _ hb => hb, fun i hi => (by simp at hi), hc⟩
  | o :: L, ρ, s, i, c, h, hmem, hc => by
    cases hbo : Nat.beq o i with
    | true => simp [memN, hbo] at hmem
    | false =>
      have hm : memN L i = false := by simpa [memN, hbo] using hmem
      have hne : i ≠ o := fun e => by subst e; simp at hbo
      obtain ⟨ρ1, h1, s1, n1, k1⟩ := h.freeze o
      have hc1 : ρ1[i]? = some c := by
        rcases k1 i c hc with h | ⟨h, _⟩
        · exact h
        · exact absurd h hne
      obtain ⟨ρ2, h2, s2, n2, c2⟩ := Rel.freezeAll_row L h1 hm hc1
      refine ⟨ρ2, h2, fun b hb => s1 b (s2 b hb), ?_, c2⟩
      intro j hj E p c b hE hcj hb hmb
      by_cases e : j = o
      · subst e; exact n1 E p c b hE hcj hb (s2 b hmb)
      · rcases List.mem_cons.1 hj with hj | hj
        · exact e hj
        · rcases k1 j c hcj with hc' | ⟨e', _⟩
          · exact n2 j hj E p c b (freeze_get e hE) hc' hb hmb
          · exact e e'

/-- An element of an own row is written. -/
theorem storeArr_step (hT : TabOk P tt) (h : Rel tt w0 FP Mx ρ0 ρ s a w) {t b i off E : Nat} {e : TyE} {p p' : Pay AV} {v : AV} {u ad : Value} (he : tget tt t = some e) (hv : RepV w (Mof Mx ρ) ρ v u)
    (hok : leavesOk v = true) (hb : hget s.hp b = .arr E p) (had : RepV w (Mof Mx ρ) ρ (.aptr b i off) ad) (hrp : rowPure tt s.hp e.leaf v = true) (hi : i < p.len) (hoff : off + e.size ≤ p.sz)
    (hrl : (rowOf tt s.hp e.leaf v).length = e.size) (hself : memN (leafOwn v) b = false) (hpset : p.setAt i off (rowOf tt s.hp e.leaf v) = some p') (d : Option Nat) :
    ∃ w', (Instr.storeAt t ad u).run P w = .ok () w' ∧ Goes tt w0 FP Mx ρ0 (St.put ⟨(s.freezeAll (leafOwn v)).fr, hset (s.freezeAll (leafOwn v)).hp b (.arr E p')⟩ d undefA) (a.put d undef) w' := by
  obtain ⟨c, hc, hr⟩ := h.env.at (hget_some hb (by simp))
  obtain ⟨ρ1, h1, hsub, hnot, hc1⟩ := Rel.freezeAll_row (leafOwn v) h hself hc
  have hL : Later w (Mof Mx ρ) w (Mof Mx ρ1) := ⟨Nat.le_refl _, fun _ _ _ => rfl, fun b _ hb => hsub b hb⟩
  obtain ⟨r1, r2, r3⟩ := rowOf_rep (ρ' := ρ1) (ts := e.leaf) h.env hL hv hok (fun j hj E p c b hE hcj hb => ⟨hnot j hj E p c b hE hcj hb, rfl⟩) hrp
  cases had with | @aptr _ _ _ g n0 cap sz e1 hi' =>
  rw [hc] at e1; cases e1
  have hb1 := hget_some (freezeAll_get hself hb) (by simp)
  have hr1 := h1.env.obj b _ _ hb1 hc1
  cases hr1 with | @arr _ _ _ _ us ho hl h1' hpl hw hs hk =>
  rcases ho.2 with ⟨h0, _⟩ | ⟨g', cap', cur, hge, _, hg, hn, hm, hcs, htake⟩
  · cases h0
  · cases hge
    obtain ⟨s1, s2, s3, s4, s5, s6⟩ := setAt_rep (off := off) hl r1 hw hi (by omega) hpset
    have hus : us.length = p.len * p.sz := by rw [← hl.length]; exact Pay.cells_length hw
    have hin : i * p.sz + p.sz ≤ us.length := by rw [hus, ← Nat.succ_mul]; exact Nat.mul_le_mul_right _ hi
    have hul : u.cells.toList.length = e.size := by rw [← r1.length]; exact hrl
    have hcur : us.length ≤ cur.size := by rw [hcs, hus, hs]; exact Nat.mul_le_mul_right _ hn
    have hst := run_storeCells_at P g (i * p.sz + off) E u.cells.toList 0 cur w hg (by simp only [Nat.add_zero]; omega) r2
    have hsz : u.cells.size = e.size := by simpa using hul
    rw [foldl_set_seg _ _ _ 0 (by omega)] at s1
    simp only [Nat.add_zero] at s1 hst
    have hmem : ∀ x ∈ us.take (i * p.sz + off) ++ u.cells.toList ++ us.drop (i * p.sz + off + u.cells.toList.length), x.oneCell' = true := by
      intro x hx
      rcases List.mem_append.1 hx with hx | hx
      · rcases List.mem_append.1 hx with hx | hx
        · exact h1' x (List.mem_of_mem_take hx)
        · exact r2 x hx
      · exact h1' x (List.mem_of_mem_drop hx)
    refine ⟨_, ?_, ρ1, (h1.writeRow (p := p') (cur := cur) (cap := cap) (by rw [s2]; exact hc1) hg s1 hmem (s6 hpl r3) s4 (by rw [s3, hs]) (s5 _ hk) (by rw [s2]; exact hn) hm
      (cur' := (cur.toList.take (i * p.sz + off) ++ u.cells.toList ++ cur.toList.drop (i * p.sz + off + u.cells.toList.length)).toArray) ?_ ?_).put d (.tup .nil)⟩
    · simp only [Instr.storeAt, Instr.sureAddr, Sem.run_bind, Sem.run_pure, Result.andThen_ok, storeVar, run_sizeOf_of (hT t e he)]
      rw [if_neg (by simp [hsz])]
      rw [← hs]
      exact hst
    · simp only [List.size_toArray, List.length_append, List.length_take, List.length_drop, Array.length_toList]
      rw [← hcs]; simp at hul; omega
    · have hpre : us = cur.toList.take us.length := by rw [hus, hs]; exact htake.symm
      have e1 : us.take (i * p.sz + off) = cur.toList.take (i * p.sz + off) := by
        rw [hpre, List.take_take, Nat.min_eq_left (by omega)]
      have e2 : us.drop (i * p.sz + off + u.cells.toList.length) = (cur.toList.drop (i * p.sz + off + u.cells.toList.length)).take (us.length - (i * p.sz + off + u.cells.toList.length)) := by
        conv => lhs; rw [hpre]
        rw [List.drop_take]
      rw [List.toList_toArray, e1, e2]
      have hA : (cur.toList.take (i * p.sz + off) ++ u.cells.toList).length ≤ us.length := by
        simp only [List.length_append, List.length_take, Array.length_toList]; simp at hul; omega
      have hB : (cur.toList.take (i * p.sz + off) ++ u.cells.toList ++ (cur.toList.drop (i * p.sz + off + u.cells.toList.length)).take (us.length - (i * p.sz + off + u.cells.toList.length))).length = us.length := by
        simp only [List.length_append, List.length_take, Array.length_toList]; simp at hul ⊢; omega
      rw [hB, List.take_append, List.take_of_length_le hA]
      congr 1
      simp only [List.length_append, List.length_take, Array.length_toList]
      congr 1
      simp at hul
      omega
end
end Go.Proofs.YtmkgmlgklggnlaaGm

namespace Go.Proofs.YtmkgmlgklggnlaaGm

section
variable {P : Program} {tt : Tab} {w w' w0 : World} {FP Mx M M' : Nat → Prop} {ρ ρ0 ρ' : List CObj} {hp : List AObj} {s : St} {a : Act}

/-- What is appended, to be read in any later world. -/
def Src (P : Program) (w : World) (size : Nat) (x : Value) (n : Nat) (news : List Value) : Prop :=
  (∀ w1 : World, (Builtin.lenOf x).run P w1 = .ok n w1) ∧ ∀ w1, Grew w w1 → (Builtin.firstCells size n x).run P w1 = .ok news.toArray w1

theorem run_append_stay {t tx ty E size cap len n : Nat} {dx : TypeDesc} {base : Option Addr} {x : Value} {news : List Value} {e : TyE} (hok : TyOk P E e) (ht : P.underlying t = some (.slice E)) (htx : P.underlying tx = some dx)
    (hdx : (∃ E', dx = .slice E') ∨ dx = .string) (hsz : e.size = size) (hs : Src P w size x n news) (hfit : len + n ≤ cap) :
    (Builtin.append_ #[t, tx] ty #[.slice base len cap, x]).run P w = ((match base with | some a => storeCells (a.add (len * size)) news | none => pure ()).run P w).andThen fun _ w => .ok (.slice base (len + n) cap) w := by
  obtain ⟨i, hi, hz, h1, h2⟩ := hok.info'
  obtain ⟨s1, s2⟩ := hs
  have := s2 w (.refl w)
  simp only [Builtin.append_]
  simp only [Sem.run_bind, List.getElem?_toArray, List.getElem?_cons_zero, List.getElem?_cons_succ, run_underlying ht, run_underlying htx, Result.andThen_ok, Sem.run_pure]
  rcases hdx with ⟨E', rfl⟩ | rfl
  all_goals
    simp [sizeOf, typeInfo, hi, h1, hsz, s1, hfit, this]
    cases base <;> simp

theorem run_append_new {t tx ty E size cap len n : Nat} {dx : TypeDesc} {base : Option Addr} {x : Value} {olds news : List Value} {e : TyE} (hok : TyOk P E e) (ht : P.underlying t = some (.slice E)) (htx : P.underlying tx = some dx)
    (hdx : (∃ E', dx = .slice E') ∨ dx = .string) (hsz : e.size = size) (hs : Src P w size x n news) (ho : (Builtin.firstCells size len (.slice base len cap)).run P w.drew = .ok olds.toArray w.drew) (hgrow : cap < len + n)
    (hfit : (len + n) * e.bytes ≤ 140737488355328) (h63 : len + n ≤ maxLen) :
    (Builtin.append_ #[t, tx] ty #[.slice base len cap, x]).run P w = .ok (.slice (some ⟨w.heap.size, 0, none⟩) (len + n) (grownCap w (len + n) cap E))
      (w.drew.alloc (.cells (olds ++ news ++ (Builtin.zeroCells e.zv.cells (grownCap w (len + n) cap E - (len + n))).toList).toArray E)) := by
  obtain ⟨i, hi, hz, h1, h2⟩ := hok.info'
  obtain ⟨s1, s2⟩ := hs
  have hnw := s2 w.drew grew_drew
  have hn : ¬ (len + n ≤ cap) := by omega
  have h63' : ¬ (9223372036854775807 < ((len : Int) + (n : Int))) := by simp only [maxLen] at h63; omega
  have hg := growslice_fits hgrow hfit
  have h48' : ¬ (281474976710656 < Builtin.nextslicecap (len + n) cap * i.bytes) := by rw [h2]; omega
  simp only [Builtin.append_]
  simp only [Sem.run_bind, List.getElem?_toArray, List.getElem?_cons_zero, List.getElem?_cons_succ, run_underlying ht, run_underlying htx, Result.andThen_ok, Sem.run_pure]
  rcases hdx with ⟨E', rfl⟩ | rfl
  all_goals
    simp [sizeOf, typeInfo, zeroValue, hi, hz, h1, hsz, s1, hn, h63', h48', Question.forced, ho, hnw, newRow, grownCap]
    congr 2
    apply Array.ext'
    simp

theorem payOf_src (hE : Env tt w Mx ρ hp) {E : Nat} {x : AV} {u : Value} {q : Pay AV} (hx : RepV w (Mof Mx ρ) ρ x u) (h : payOf tt E hp x = some q) :
    ∃ us, Src P w q.sz u q.len us ∧ RepL w (Mof Mx ρ) ρ q.cells us ∧ (∀ u ∈ us, u.oneCell' = true) ∧ (q.len = 0 ∨ ((∀ a ∈ q.cells, pureLeaf a = true) ∧ q.wf)) := by
  obtain ⟨a, cap, us, rfl, hlc, hm, hn, hcs⟩ := payOf_holds hE hx h
  rcases hcs with h0 | ⟨b, base, rfl, hlt, hl, hc, h1, hp', hw⟩
  · have hq : q.cells = [] := by
      cases q <;> simp [Pay.len, Pay.cells] at * <;> simp [h0]
    refine ⟨[], ⟨fun w1 => rfl, fun w1 _ => ?_⟩, by rw [hq]; exact .nil, by simp, .inl h0⟩
    cases a with
    | none => rfl
    | some a => rw [h0]; simp [Builtin.firstCells, loadCells, loadCellsFrom]
  · refine ⟨us, ⟨fun w1 => rfl, fun w1 hg => ?_⟩, hl, h1, .inr ⟨hp', hw⟩⟩
    have hus : us.length = q.len * q.sz := by rw [← hl.length]; exact Pay.cells_length hw
    exact run_firstCells_some (P := P) w1 q.sz q.len ⟨b, base, none⟩ q.len cap us hus fun j v hv => by
      rw [addr_add]
      have := hc j v hv
      rw [← this]
      exact World.cell?_of_block (hg.block b hlt)

theorem str_src {z : ByteArray} : Src P w 1 (.string z) z.size (z.data.toList.map fun b => .int .u8 b.toNat) := by
  refine ⟨fun w1 => rfl, fun w1 _ => ?_⟩
  simp only [Builtin.firstCells, Sem.run_pure]
  congr 1
  apply Array.ext'
  simp

theorem zeroCells_length (z : Array Value) (n : Nat) : (Builtin.zeroCells z n).toList.length = n * z.size := by simp [Builtin.zeroCells]

theorem take_append_len {α : Type} (l m : List α) (n : Nat) (h : n = l.length) : (l ++ m).take n = l := by subst h; simp

/-- AN APPEND. -/
theorem append_core (hT : TabOk P tt) {t tx ty E : Nat} {dx : TypeDesc} {e : TyE} (he : tget tt E = some e) (ht : P.underlying t = some (.slice E)) (htx : P.underlying tx = some dx)
    (hdx : (∃ E', dx = .slice E') ∨ dx = .string) {p0 q p : Pay AV} {v x : Value} {us news : List Value} (hown : w.ownsRow 0 E e.size v p0.len us) (hl : RepL w M ρ p0.cells us)
    (hs0 : p0.sz = e.size) (hw0 : p0.wf) (hsrc : Src P w e.size x q.len news) (hq : RepL w M ρ q.cells news) (hq1 : ∀ u ∈ news, u.oneCell' = true) (hwq : q.len = 0 ∨ q.wf) (happ : p0.app q = some p)
    (hfit : p.len * e.bytes ≤ 140737488355328) (h63 : p.len ≤ maxLen) :
    ∃ v' w', (Builtin.append_ #[t, tx] ty #[v, x]).run P w = .ok v' w' ∧ w'.os = w.os ∧ w'.tape = w.tape ∧ w'.output = w.output ∧ w.heap.size ≤ w'.heap.size ∧
      (∀ b, b < w.heap.size → v.ownBlock ≠ some b → w'.heap[b]? = w.heap[b]?) ∧ (∀ b, v'.ownBlock = some b → (v.ownBlock = some b ∨ w.heap.size ≤ b) ∧ b < w'.heap.size) ∧
      w'.ownsRow 0 E e.size v' p.len (us ++ news) ∧ v'.oneCell' = true := by
  have hok := hT E e he
  obtain ⟨a1, a2, a3, a4⟩ := Pay.app_some happ
  have hus : us.length = p0.len * e.size := by rw [← hs0, ← hl.length]; exact Pay.cells_length hw0
  have hnews : news.length = q.len * e.size := by
    rcases hwq with h0 | hwq
    · have hq0 : q.cells = [] := by cases q <;> simp [Pay.len, Pay.cells] at * <;> simp [h0]
      rw [hq0] at hq
      cases hq
      rw [h0]; simp
    · rw [← hq.length, Pay.cells_length hwq, a4, hs0]
  have hcz := hok.zs
  rw [a2] at hfit h63
  have hcat : (us ++ news).length = (p0.len + q.len) * e.size := by rw [List.length_append, hus, hnews, Nat.add_mul]
  -- a new block
  have grown : ∀ (base : Option Addr) (cap : Nat), cap < p0.len + q.len → (Builtin.firstCells e.size p0.len (.slice base p0.len cap)).run P w.drew = .ok us.toArray w.drew → v = .slice base p0.len cap →
      ∃ v' w', (Builtin.append_ #[t, tx] ty #[v, x]).run P w = .ok v' w' ∧ w'.os = w.os ∧ w'.tape = w.tape ∧ w'.output = w.output ∧ w.heap.size ≤ w'.heap.size ∧
      (∀ b, b < w.heap.size → v.ownBlock ≠ some b → w'.heap[b]? = w.heap[b]?) ∧ (∀ b, v'.ownBlock = some b → (v.ownBlock = some b ∨ w.heap.size ≤ b) ∧ b < w'.heap.size) ∧
      w'.ownsRow 0 E e.size v' (p0.len + q.len) (us ++ news) ∧ v'.oneCell' = true := by
    rintro base cap hgrow hold rfl
    have hrun := run_append_new (ty := ty) hok ht htx hdx rfl hsrc hold hgrow hfit h63
    have hge := grownCap_ge w (p0.len + q.len) cap E
    have hcm := grownCap_le_maxLen w (p0.len + q.len) cap E h63
    refine ⟨_, _, hrun, rfl, rfl, rfl, by simp, fun b hb _ => Go.RowKit.Below.heap_alloc w.drew _ b hb, fun b hb => by cases hb; simp, ⟨hcat, .inr ⟨w.heap.size, _, _, rfl, Nat.zero_le _, heap_alloc_new w.drew _, hge, hcm, ?_, ?_⟩⟩, rfl⟩
    · simp only [List.size_toArray, List.length_append, hus, hnews, zeroCells_length, hcz, ← Nat.add_mul]
      congr 1; omega
    · rw [List.toList_toArray]
      exact take_append_len _ _ _ (by rw [hcat])
  rw [a2]
  rcases hown.2 with ⟨rfl, h0⟩ | ⟨g, cap, cur, rfl, _, hg, hn, hm, hcs, htake⟩
  · have hus0 : us = [] := List.eq_nil_of_length_eq_zero (by rw [hus, h0]; simp)
    rcases Nat.eq_zero_or_pos q.len with hq0 | hq0
    · have hn0 : news = [] := List.eq_nil_of_length_eq_zero (by rw [hnews, hq0]; simp)
      have hrun := run_append_stay (ty := ty) (cap := 0) (len := 0) (base := none) hok ht htx hdx rfl hsrc (by omega)
      refine ⟨.slice none 0 0, w, by rw [hrun]; simp [hq0], rfl, rfl, rfl, Nat.le_refl _, fun _ _ _ => rfl, (fun b hb => by cases hb), ?_, rfl⟩
      rw [hus0, hn0, h0, hq0]
      exact World.ownsRow_nil w 0 E e.size
    · have e1 := grown none 0 (by omega) (by rw [hus0]; rfl) (by rw [h0])
      exact e1
  · by_cases hroom : p0.len + q.len ≤ cap
    · have hrun := run_append_stay (ty := ty) (base := some ⟨g, 0, none⟩) hok ht htx hdx rfl hsrc hroom
      have hfit' : 0 + p0.len * e.size + 0 + news.length ≤ cur.size := by
        rw [hnews, hcs, Nat.zero_add, Nat.add_zero, ← Nat.add_mul]; exact Nat.mul_le_mul_right _ hroom
      have hst := run_storeCells_at P g (0 + p0.len * e.size) E news 0 cur w hg hfit' hq1
      simp only [Nat.add_zero, Nat.zero_add] at hst
      refine ⟨.slice (some ⟨g, 0, none⟩) (p0.len + q.len) cap, w.setRow g (cur.toList.take (p0.len * e.size) ++ news ++ cur.toList.drop (p0.len * e.size + news.length)).toArray, ?_, rfl, rfl, rfl, ?_, fun b _ hb => ?_, fun b hb => ?_, ⟨hcat, .inr ⟨g, cap, _, rfl, Nat.zero_le _, setRow_heap w g cur _ E _ hg, hroom, hm, ?_, ?_⟩⟩, rfl⟩
      rotate_left
      · simp
      · exact setRow_other w g b _ fun e => hb (by simp [Value.ownBlock, e])
      · refine ⟨.inl hb, ?_⟩
        simp [Value.ownBlock] at hb; subst hb
        have := (Array.getElem?_eq_some_iff.1 hg).1
        simpa using this
      · simp only [List.size_toArray, List.length_append, List.length_take, List.length_drop, Array.length_toList]
        omega
      · rw [List.toList_toArray, htake]
        exact take_append_len _ _ _ (by rw [hcat])
      · rw [hrun]
        simp only [addr_add, Nat.zero_add, hst, Result.andThen_ok]
    · have hcells : ∀ j u, us[j]? = some u → w.cell? ((⟨g, 0, none⟩ : Addr).add j) = some u := hown.cells (g := g) rfl
      exact grown (some ⟨g, 0, none⟩) cap (by omega) (run_firstCells_some (P := P) w.drew e.size p0.len ⟨g, 0, none⟩ p0.len cap us hus hcells) rfl

theorem isTy_src (hT : TabOk P tt) {tx : Nat} (h : isTy tt tx isSrcTy = true) : ∃ dx, P.underlying tx = some dx ∧ ((∃ E', dx = .slice E') ∨ dx = .string) := by
  obtain ⟨e, he, hd⟩ := isTy_some hT h
  cases hdd : e.d <;> simp [hdd, isSrcTy] at hd
  · exact ⟨_, he.str hdd, .inr rfl⟩
  · exact ⟨_, he.slice hdd, .inl ⟨_, rfl⟩⟩

theorem app_wf' {p0 q p : Pay AV} (happ : p0.app q = some p) (hw : p0.wf) (hq : q.len = 0 ∨ q.wf) : p.wf := by
  rcases hq with h0 | hq
  · rcases Pay.app_forms happ with ⟨l, m, rfl, rfl, rfl⟩ | ⟨k, l, m, rfl, rfl, rfl⟩ | ⟨s, l, m, rfl, rfl, rfl⟩
    · trivial
    · trivial
    · have : m = [] := List.eq_nil_of_length_eq_zero h0
      subst this; simpa using hw
  · exact Pay.app_wf happ hw hq

theorem emptyPay_cells (tt : Tab) (E : Nat) : (emptyPay tt E).cells = [] := by unfold emptyPay; split <;> rfl
theorem emptyPay_kind (tt : Tab) (E : Nat) : kindOfPay (emptyPay tt E) (emptyPay tt E) = true := by
  unfold emptyPay
  split <;> simp [kindOfPay, ikEq_refl]

theorem vsl_src (hE : Env tt w Mx ρ hp) {E : Nat} {o n : Nat} {u : Value} {q : Pay AV} (hx : RepV w (Mof Mx ρ) ρ (.vsl o n) u) (hv : vslOk tt E hp (.vsl o n) = true) (h : srcPay tt E hp (.vsl o n) = some q) :
    ∃ us, Src P w q.sz u q.len us ∧ RepL w (Mof Mx ρ) ρ q.cells us ∧ (∀ u ∈ us, u.oneCell' = true) ∧ (q.len = 0 ∨ ((∀ a ∈ q.cells, pureLeaf a = true) ∧ q.wf)) := by
  unfold srcPay at h
  unfold vslOk at hv
  dsimp only at h hv
  cases hx with | @vsl _ _ b hb =>
  cases ho : hget hp o with
  | var T cs =>
    rw [ho] at h hv
    dsimp only at h hv
    cases h
    simp only [Bool.and_eq_true] at hv
    obtain ⟨⟨⟨v1, v2⟩, v3⟩, v4⟩ := hv
    obtain ⟨c, hc, hr⟩ := hE.at (hget_some ho (by simp))
    rw [hb] at hc; cases hc
    cases hr with | @var _ _ _ us hheap hl h1 =>
    have hcl := u8of_cells hl v4
    have v2 := Nat.eq_of_beq_eq_true v2
    have hlen : us.length = n := by rw [← hl.length]; exact v2
    have hq : (Pay.bytes (u8of cs) : Pay AV).len = n := by show (u8of cs).length = n; unfold u8of; rw [List.length_map]; exact v2
    have hlt : b < w.heap.size := (Array.getElem?_eq_some_iff.1 hheap).1
    refine ⟨us, ⟨fun w1 => by rw [hq]; rfl, fun w1 hg => ?_⟩, by rw [hcl]; exact hl, h1, .inr ⟨fun a ha => ?_, trivial⟩⟩
    · rw [hq]
      exact run_firstCells_some (P := P) w1 1 n ⟨b, 0, none⟩ n n us (by omega) fun j v hj => by
        rw [addr_add]
        have hw1 : w1.heap[b]? = some (.cells us.toArray T (0, 0)) := by rw [hg.block b hlt]; exact hheap
        simp [World.cell?, hw1, hj]
    · obtain ⟨x, _, rfl⟩ := List.mem_map.1 ha; rfl
  | _ => rw [ho] at h; cases h

theorem append_step (hT : TabOk P tt) (h : Rel tt w0 FP Mx ρ0 ρ s a w) {t tx ty : Nat} {b x : AV} {v u : Value} (hb : RepV w (Mof Mx ρ) ρ b v) (hx : RepV w (Mof Mx ρ) ρ x u) (htx : isTy tt tx isSrcTy = true)
    {d : Option Nat} {s' : St} (hs : aappend (R := Option St) none tt t d b x s some = some s') :
    ∃ v' w', (Builtin.append_ #[t, tx] ty #[v, u]).run P w = .ok v' w' ∧ Goes tt w0 FP Mx ρ0 s' (a.put d v') w' := by
  obtain ⟨dx, hdx, hdx'⟩ := isTy_src hT htx
  unfold aappend at hs
  split at hs
  case h_2 => cases hs
  rename_i E sz1 by1 zv1 lf1 ht
  have htt := (hT t _ ht).slice rfl
  split at hs
  case h_2 => cases hs
  rename_i e he
  cases hvs : vslOk tt E s.hp x <;> simp only [hvs, cond_true, cond_false] at hs
  · cases hs
  split at hs
  case h_2 => cases hs
  rename_i q hq
  -- the source
  have hsrc : ∃ us, Src P w q.sz u q.len us ∧ RepL w (Mof Mx ρ) ρ q.cells us ∧ (∀ u ∈ us, u.oneCell' = true) ∧ (q.len = 0 ∨ ((∀ a ∈ q.cells, pureLeaf a = true) ∧ q.wf)) := by
    unfold srcPay at hq
    split at hq
    · rename_i m
      cases hq
      cases hx with | @str z hz =>
      refine ⟨_, ?_, bytes_repL _, fun u hu => ?_, .inr ⟨fun a ha => ?_, trivial⟩⟩
      · have := str_src (P := P) (w := w) (z := z)
        have e : (Pay.bytes (α := AV) z.data.toList).len = z.size := by simp [Pay.len]
        rw [e]; exact this
      · obtain ⟨b, _, rfl⟩ := List.mem_map.1 hu; rfl
      · obtain ⟨b, _, rfl⟩ := List.mem_map.1 ha; rfl
    · exact vsl_src h.env hx hvs hq
    · exact payOf_src h.env hx hq
  obtain ⟨news, g1, g2, g3, g4⟩ := hsrc
  have pureq : ∀ a ∈ q.cells, pureLeaf a = true := by
    rcases g4 with h0 | ⟨hp, _⟩
    · have hq0 : q.cells = [] := by cases q <;> simp [Pay.len, Pay.cells] at * <;> simp [h0]
      rw [hq0]; simp
    · exact hp
  have wq : q.len = 0 ∨ q.wf := g4.imp id (·.2)
  split at hs
  · -- onto nil
    cases hb with | nil =>
    split at hs
    case h_2 => cases hs
    rename_i p happ
    cases hc : (appOk e p && appFits e p) <;> simp only [hc, cond_true, cond_false] at hs <;> cases hs
    simp only [Bool.and_eq_true, appOk, appFits] at hc
    obtain ⟨⟨⟨c1, c2⟩, c3⟩, c4⟩ := hc
    have c1 := Nat.eq_of_beq_eq_true c1
    have c2 : 0 < e.size := by simp [Nat.blt] at c2; omega
    have c3 : 0 < e.bytes := by simp [Nat.blt] at c3; omega
    have c4 := Nat.le_of_ble_eq_true c4
    obtain ⟨a1, a2, a3, a4⟩ := Pay.app_some happ
    have hmax : p.len ≤ maxLen := by
      have : p.len ≤ p.len * e.bytes := Nat.le_mul_of_pos_right _ c3
      simp only [maxLen]; omega
    have hs0 : (emptyPay tt E).sz = e.size := by rw [← a3, c1]
    have hw0 : (emptyPay tt E).wf := by
      have hh := hs0
      unfold emptyPay at hh ⊢
      split <;> first | trivial | (refine ⟨?_, by simp⟩; simp_all [Pay.sz])
    have own0 : w.ownsRow 0 E e.size (.slice none 0 0) (emptyPay tt E).len [] := by rw [emptyPay_len]; exact World.ownsRow_nil w 0 E e.size
    have l0 : RepL w (Mof Mx ρ) ρ (emptyPay tt E).cells [] := by rw [emptyPay_cells]; exact .nil
    rw [a4, hs0] at g1
    obtain ⟨v', w', r1, r2, r3, r4, r5, r6, r7, r8, r9⟩ := append_core (ty := ty) hT he htt hdx hdx' own0 l0 hs0 hw0 g1 g2 g3 wq happ c4 hmax
    have hg : Grew w w' := ⟨r2, r3, r4, r5, fun b hb => r6 b hb (by simp [Value.ownBlock])⟩
    refine ⟨v', w', r1, ρ ++ [.row v' e.size], ?_⟩
    have hnb : ∀ b, v'.ownBlock = some b → w.heap.size ≤ b ∧ b < w'.heap.size := fun b hb => by
      rcases r7 b hb with ⟨h1 | h1, h2⟩
      · cases h1
      · exact ⟨h1, h2⟩
    have key := h.newObj (w' := w') hg (o := .arr E p) (c := .row v' e.size) hnb (.arr (us := [] ++ news) r8 (by
      rw [a1, emptyPay_cells]
      exact g2.pure ⟨r5, fun b hb _ => hg.block b hb, fun b hb hm => by
        rcases Mof_snoc.1 hm with hm | hm
        · exact hm
        · have := (hnb b hm).1; omega⟩ pureq) (by simpa using g3) (by rw [a1, emptyPay_cells]; simpa using pureq) (app_wf' happ hw0 wq) c1 (Pay.app_kind happ (emptyPay_kind tt E)))
    exact key.put d (newRow_own h.env r9)
  · -- onto an own row
    rename_i o
    split at hs
    case h_2 => cases hs
    rename_i E0 p0 ho
    split at hs
    case h_2 => cases hs
    rename_i p happ
    cases hc : (Nat.beq E0 E && appOk e p && !(memN (refsIn 0 x) o) && appFits e p) <;> simp only [hc, cond_true, cond_false] at hs <;> cases hs
    simp only [Bool.and_eq_true, appOk, appFits] at hc
    obtain ⟨⟨⟨c0, ⟨⟨c1, c2⟩, c3⟩⟩, _⟩, c4⟩ := hc
    have := Nat.eq_of_beq_eq_true c0; subst this
    have c1 := Nat.eq_of_beq_eq_true c1
    have c2 : 0 < e.size := by simp [Nat.blt] at c2; omega
    have c3 : 0 < e.bytes := by simp [Nat.blt] at c3; omega
    have c4 := Nat.le_of_ble_eq_true c4
    obtain ⟨a1, a2, a3, a4⟩ := Pay.app_some happ
    have hmax : p.len ≤ maxLen := by
      have : p.len ≤ p.len * e.bytes := Nat.le_mul_of_pos_right _ c3
      simp only [maxLen]; omega
    have hs0 : p0.sz = e.size := by rw [← a3, c1]
    obtain ⟨c, hc, hr⟩ := h.env.at (hget_some ho (by simp))
    cases hb with | @own _ szr _ hb' hb1 =>
    rw [hc] at hb'; cases hb'
    cases hr with | @arr _ _ _ _ us hown hl h1 hpl hw hsz hk =>
    have hszr : szr = e.size := by rw [← hsz, hs0]
    subst hszr
    rw [a4, hs0] at g1
    obtain ⟨v', w', r1, r2, r3, r4, r5, r6, r7, r8, r9⟩ := append_core (ty := ty) hT he htt hdx hdx' hown hl hs0 hw g1 g2 g3 wq happ c4 hmax
    refine ⟨v', w', r1, ρ.set o (.row v' e.size), ?_⟩
    have hlt : o < ρ.length := by
      rcases Nat.lt_or_ge o ρ.length with h' | h'
      · exact h'
      · rw [List.getElem?_eq_none h'] at hc; cases hc
    have hρ : ∀ (j : Nat) (dd : CObj), j ≠ o → ρ[j]? = some dd → (ρ.set o (.row v' e.size))[j]? = some dd := fun j dd hne hd => by
      rw [List.getElem?_set_ne (fun e => hne e.symm)]; exact hd
    have hL : Later w (Mof Mx ρ) w' (Mof Mx (ρ.set o (.row v' e.size))) := by
      refine ⟨r5, fun b hb hm => r6 b hb fun e => hm (.inr ⟨_, List.mem_of_getElem? hc, e⟩), fun b hb hm => ?_⟩
      rcases hm with hm | ⟨d', hd, hm⟩
      · exact .inl hm
      · rcases List.mem_or_eq_of_mem_set hd with hd | rfl
        · exact .inr ⟨d', hd, hm⟩
        · rcases (r7 b hm).1 with e | e
          · exact .inr ⟨_, List.mem_of_getElem? hc, e⟩
          · omega
    have hlen0 : ∀ u sz, ρ[o]? = some (.row u sz) → ∃ a cap, u = .slice a p0.len cap ∧ p0.len ≤ maxLen := by
      intro u sz hu
      rw [hc] at hu; cases hu
      rcases ownsRow_cells hown with ⟨rfl, h0⟩ | ⟨g, cap, rfl, k1, k2, _, _⟩
      · exact ⟨none, 0, by rw [h0], by omega⟩
      · exact ⟨_, _, rfl, Nat.le_trans k1 k2⟩
    have key := h.change (w' := w') (c' := .row v' e.size) (o' := .arr E0 p) (f := loseN o p0.len) hc r2 r3 r4 r5 r6 r7 (fun b e => by cases e) (loseN_rep hL hρ hlen0)
      (.arr (us := us ++ news) r8 (by
        rw [a1]
        exact (hl.pure hL hpl).append (g2.pure hL pureq)) (by
        intro z hz
        rcases List.mem_append.1 hz with hz | hz
        · exact h1 z hz
        · exact g3 z hz) (by
        rw [a1]
        intro z hz
        rcases List.mem_append.1 hz with hz | hz
        · exact hpl z hz
        · exact pureq z hz) (app_wf' happ hw wq) c1 (Pay.app_kind happ hk))
    exact key.put d (.own (by rw [List.getElem?_set_self hlt]) r9)
  · cases hs
end
end Go.Proofs.YtmkgmlgklggnlaaGm

namespace Go.Proofs.YtmkgmlgklggnlaaGm

section
variable {P : Program} {tt : Tab} {w w' w0 : World} {FP Mx M M' : Nat → Prop} {ρ ρ0 ρ' : List CObj} {hp : List AObj} {s : St} {a : Act}

theorem StepOk.ofValue {o : Oper} {s' : St} {e : Sem Value} (h : ∃ u w', e.run P w = .ok u w' ∧ Goes tt w0 FP Mx ρ0 s' (a.put o.dst u) w')
    (he : (execOp a.eval o).run P w = (do pure (Next.value (← e)) : Sem Next).run P w) : StepOk P tt w0 FP Mx ρ0 o a w s' := by
  obtain ⟨u, w', h1, h2⟩ := h
  exact .value (by rw [he, run_value h1]) h2

theorem StepOk.ofUnit {o : Oper} {s' : St} {e : Sem Unit} (h : ∃ w', e.run P w = .ok () w' ∧ Goes tt w0 FP Mx ρ0 s' (a.put o.dst undef) w')
    (he : (execOp a.eval o).run P w = (do e; pure Next.skip : Sem Next).run P w) : StepOk P tt w0 FP Mx ρ0 o a w s' := by
  obtain ⟨w', h1, h2⟩ := h
  exact .skip (by rw [he]; simp [h1]) h2

theorem rop_stepOk (hT : TabOk P tt) (h : Rel tt w0 FP Mx ρ0 ρ s a w) (o : Oper) {s' : St}
    (hs : (rop (R := Option St) none tt s.hp (aval s.fr) o.op fun v => some (s.put o.dst v)) = some s') : StepOk P tt w0 FP Mx ρ0 o a w s' := by
  obtain ⟨u, w', h1, h2⟩ := rop_step hT h o hs
  exact .value h1 h2

/-- ONE OPERATION. -/
theorem astep_sound (c : Cfg) (hT : TabOk P c.tt) (hS : SpecsOk P c.sg) (h : Rel c.tt w0 FP Mx ρ0 ρ s a w) (o : Oper) {s' : St} (hs : astep (R := Option St) none c o s some = some s') :
    StepOk P c.tt w0 FP Mx ρ0 o a w s' := by
  unfold astep at hs
  split at hs
  · rename_i T ho
    split at hs
    · rename_i e he
      cases hz : leavesOk e.zero <;> simp only [hz, cond_true, cond_false] at hs <;> cases hs
      exact .ofValue (alloc_step hT h he hz o.dst) (by simp only [execOp, ho])
    · cases hs
  · rename_i T x ho
    split at hs
    · rename_i e he
      cases hb : (leavesOk (aval s.fr x) && Nat.beq (leavesOf (aval s.fr x)).length e.size) <;> simp only [hb, cond_true, cond_false] at hs <;> cases hs
      simp only [Bool.and_eq_true] at hb
      exact .ofValue (box_step h (aval_rep h.fr x) hb.1 o.dst) (by simp only [execOp, ho])
    · cases hs
  · rename_i t len parts ho
    split at hs
    · rename_i E sz1 by1 zv1 lf1 ht
      split at hs
      · rename_i e he
        dsimp only at hs
        split at hs
        · rename_i p hset
          cases hb : (zeroOk c.tt E && Nat.ble (len * e.size) 16777216) <;> simp only [hb, cond_true, cond_false] at hs <;> cases hs
          simp only [Bool.and_eq_true] at hb
          refine .ofValue (buildSlice_step (pv := parts.map fun x => (x.1, a.eval x.2)) hT h ht rfl he ?_ hset hb.1 (Nat.le_of_ble_eq_true hb.2) o.dst) (by simp only [execOp, ho])
          have := repP_map h.fr parts.toList
          simpa using this
        · cases hs
      · cases hs
    · cases hs
  · rename_i t l m ho
    split at hs
    · rename_i E sz1 by1 zv1 lf1 kl l' km m' ht hl hm
      split at hs
      · rename_i e he
        cases hb : (zeroOk c.tt E && leI 0 l' && leI l' m' && leI (m' * e.bytes) 140737488355328 && Nat.blt 0 e.bytes) <;> simp only [hb, cond_true, cond_false] at hs <;> cases hs
        simp only [Bool.and_eq_true] at hb
        obtain ⟨⟨⟨⟨b1, b2⟩, b3⟩, b4⟩, b5⟩ := hb
        have r1 := aval_rep h.fr l
        have r2 := aval_rep h.fr m
        rw [hl] at r1
        rw [hm] at r2
        generalize e1 : a.eval l = v1 at r1
        generalize e2 : a.eval m = v2 at r2
        cases r1 with | int =>
        cases r2 with | int =>
        have b5' : 0 < e.bytes := by simp [Nat.blt] at b5; omega
        exact .ofValue (makeSlice_step (kl := kl) (km := km) hT h ht rfl he b1 (leI_spec b2) (leI_spec b3) (leI_spec b4) b5' o.dst) (by simp only [execOp, ho, e1, e2])
      · cases hs
    · cases hs
  · rename_i t x v ho
    split at hs
    · rename_i e he
      dsimp only at hs
      cases hb : (leavesOk (aval s.fr v) && Nat.beq (leavesOf (aval s.fr v)).length e.size) <;> simp only [hb, cond_true, cond_false] at hs
      · cases hs
      simp only [Bool.and_eq_true] at hb
      have rx := aval_rep h.fr x
      split at hs
      · rename_i b off hx
        rw [hx] at rx
        split at hs
        · rename_i T cs hob
          cases hle : Nat.ble (off + e.size) cs.length <;> simp only [hle, cond_true, cond_false] at hs <;> cases hs
          exact .ofUnit (storeVar_step hT h he (aval_rep h.fr v) hb.1 (Nat.eq_of_beq_eq_true hb.2) hob (Nat.le_of_ble_eq_true hle) rx o.dst) (by simp only [execOp, ho])
        · rename_i T kk l hob
          cases hle : stIntsOk kk (aval s.fr v) l off <;> simp only [hle, cond_true, cond_false] at hs <;> cases hs
          exact .ofUnit (storeVara_step hT h he (aval_rep h.fr v) hb.1 (Nat.eq_of_beq_eq_true hb.2) hob hle rx o.dst) (by simp only [execOp, ho])
        · cases hs
      · rename_i b i off hx
        rw [hx] at rx
        split at hs
        · rename_i E p hob
          cases hc : (rowPure c.tt s.hp e.leaf (aval s.fr v) && Nat.blt i p.len && Nat.ble (off + e.size) p.sz && Nat.beq (rowOf c.tt s.hp e.leaf (aval s.fr v)).length e.size && !(memN (leafOwn (aval s.fr v)) b)) <;> simp only [hc, cond_true, cond_false] at hs
          · cases hs
          simp only [Bool.and_eq_true] at hc
          obtain ⟨⟨⟨⟨c1, c2⟩, c3⟩, c4⟩, c5⟩ := hc
          split at hs
          · rename_i p' hset
            cases hs
            exact .ofUnit (storeArr_step hT h he (aval_rep h.fr v) hb.1 hob rx c1 (by simp [Nat.blt] at c2; omega) (Nat.le_of_ble_eq_true c3) (Nat.eq_of_beq_eq_true c4) (by simpa using c5) hset o.dst) (by simp only [execOp, ho])
          · cases hs
        · cases hs
      · cases hs
    · cases hs
  · rename_i cl ho
    split at hs
    · rename_i hcal
      split at hs
      · rename_i b x t tx hargs hty
        cases htx : isTy c.tt tx isSrcTy <;> simp only [htx, cond_true, cond_false] at hs
        · cases hs
        refine .ofValue (append_step (ty := o.type) hT h (aval_rep h.fr b) (aval_rep h.fr x) htx hs) ?_
        have e1 : cl.args = #[b, x] := by cases hc : cl.args; simp_all
        have e2 : cl.argTypes = #[t, tx] := by cases hc : cl.argTypes; simp_all
        simp [execOp, ho, resolve, hcal, invoke, builtin, e1, e2]
      · cases hs
    · rename_i f hcal
      split at hs
      · rename_i f' caps ht
        split at hs
        · rename_i go hsg
          exact callv_step h o ho hcal ht (hS _ _ hsg) hs
        · rename_i go hsg
          obtain ⟨ρ', h2, _, _⟩ := h.freezeAll ((cl.args.toList.map (aval s.fr) ++ caps).flatMap (ownIn 3))
          exact effStep_sound h2 o ho hcal (hS _ _ hsg) hs
        · cases hs
      · cases hs
    · exact rop_stepOk hT h o hs
  · rename_i ta tb x ho
    split at hs
    · rename_i i hx
      cases hab : Nat.beq ta tb with
      | false => rw [hab, cond_false] at hs; exact rop_stepOk hT h o hs
      | true =>
        rw [hab, cond_true] at hs
        have := Nat.eq_of_beq_eq_true hab
        subst this
        have rx := aval_rep h.fr x
        rw [hx] at rx
        obtain ⟨w', h1, h2⟩ := mark_step hT h rx hs
        exact .ofValue ⟨_, w', h1, h2⟩ (by simp only [execOp, ho])
    · exact rop_stepOk hT h o hs
  · exact rop_stepOk hT h o hs

/-- What a machine's slot holds when the reading knows it. -/
theorem slot_bool (h : Rel tt w0 FP Mx ρ0 ρ s a w) {t : Nat} {b : Bool} (hb : nth s.fr t = .bool b) : a.tmps[t]? = some (.bool b) := by
  have hr := h.fr.nth t
  rw [hb] at hr
  have hlt : t < a.tmps.toList.length := by
    rcases Nat.lt_or_ge t s.fr.length with h' | h'
    · rw [← h.fr.length]; exact h'
    · rw [nth_eq_getElem?, List.getElem?_eq_none h'] at hb; cases hb
  have : a.tmps.toList[t]? = some (a.tmps.toList.getD t undef) := by
    rw [List.getD, List.getElem?_eq_getElem hlt]; rfl
  generalize hv : a.tmps.toList.getD t undef = v at hr this
  cases hr
  simpa using this

theorem slot_tup (h : Rel tt w0 FP Mx ρ0 ρ s a w) {t : Nat} (hb : nth s.fr t = .tup []) : a.tmps[t]? = some undef := by
  have hr := h.fr.nth t
  rw [hb] at hr
  have hlt : t < a.tmps.toList.length := by
    rcases Nat.lt_or_ge t s.fr.length with h' | h'
    · rw [← h.fr.length]; exact h'
    · rw [nth_eq_getElem?, List.getElem?_eq_none h'] at hb; cases hb
  have : a.tmps.toList[t]? = some (a.tmps.toList.getD t undef) := by
    rw [List.getD, List.getElem?_eq_getElem hlt]; rfl
  generalize hv : a.tmps.toList.getD t undef = v at hr this
  cases hr with | tup hl =>
  cases hl
  simpa [undef] using this

theorem setN_same {l : List AV} {t : Nat} {v : AV} (h : nth l t = v) : setN l t v = l := by
  rw [setN_eq]
  induction l generalizing t with
  | nil => rfl
  | cons a l ih => cases t with
    | zero => simp only [nth] at h; subst h; rfl
    | succ t => simp only [nth] at h; simp [ih h]

/-- Operations, one behind the other, in the order that is told. -/
theorem dstOf_eq : ∀ (l : List Oper) (j : Nat), dstOf l j = (l[j]?).bind (·.dst)
  | [], j => by simp [dstOf]
  | o :: l, 0 => by simp [dstOf]
  | o :: l, j + 1 => by simp [dstOf, dstOf_eq l j]

theorem yielded_some {ops : Array Oper} {tmps : Array Value} {j t : Nat} (ht : dstOf ops.toList j = some t) : yielded ops tmps j = (match tmps[t]? with | some (.bool b) => some b | _ => none) := by
  unfold yielded
  rw [dstOf_eq] at ht
  have : (ops[j]?).bind (·.dst) = some t := by simpa using ht
  rw [this]
  rfl

/-- One operation of a region, with its guard. -/
def aone (c : Cfg) (all : List Oper) (o : Oper) (s : St) : Option St :=
  match o.guard with
  | none => astep (R := Option St) none c o s some
  | some (j, want) => (match dstOf all j with
    | some t => (match nth s.fr t with
      | .bool b => if b = want then astep (R := Option St) none c o s some else some (s.put o.dst undefA)
      | .tup [] => some (s.put o.dst undefA)
      | _ => none)
    | none => none)

theorem aops_cons (c : Cfg) (hs : SpecsCps c.sg) (all : List Oper) (o : Oper) (r : List Oper) (s : St) :
    aops (R := Option St) none c all (o :: r) s some = (aone c all o s).elim none fun s' => aops (R := Option St) none c all r s' some := by
  have step : ∀ s : St, (astep (R := Option St) none c o s fun s' => aops (R := Option St) none c all r s' some) = (astep (R := Option St) none c o s some).elim none fun s' => aops (R := Option St) none c all r s' some :=
    fun s => astep_cps none c hs o s _
  unfold aone
  conv => lhs; unfold aops
  cases hg : o.guard with
  | none => exact step s
  | some x =>
    obtain ⟨j, want⟩ := x
    dsimp only
    cases hd : dstOf all j with
    | none => rfl
    | some t =>
      dsimp only
      cases hv : nth s.fr t with
      | bool b =>
        dsimp only
        cases b <;> cases want
        · rw [cond_false, if_pos rfl, setN_same hv]; exact step _
        · rw [cond_false, if_neg (by simp), setN_same hv]; rfl
        · rw [cond_true, if_neg (by simp), setN_same hv]; rfl
        · rw [cond_true, if_pos rfl, setN_same hv]; exact step _
      | tup l => cases l <;> rfl
      | _ => rfl

/-- One operation of a region in the machine: carried out, or skipped. -/
theorem aone_sound (c : Cfg) (hT : TabOk P c.tt) (hS : SpecsOk P c.sg) {ops : Array Oper} (h : Rel c.tt w0 FP Mx ρ0 ρ s a w) (o : Oper) {s' : St} (hs : aone c ops.toList o s = some s') :
    (Region.wanted o (yielded ops a.tmps) = true ∧ StepOk P c.tt w0 FP Mx ρ0 o a w s') ∨ (Region.wanted o (yielded ops a.tmps) = false ∧ Goes c.tt w0 FP Mx ρ0 s' (a.put o.dst undef) w) := by
  unfold aone at hs
  split at hs
  · rename_i hg
    exact .inl ⟨by simp [Region.wanted, hg], astep_sound c hT hS h o hs⟩
  · rename_i j want hg
    split at hs
    · rename_i t ht
      split at hs
      · rename_i b hb
        have hy : yielded ops a.tmps j = some b := by
          rw [yielded_some ht, slot_bool h hb]
        by_cases e : b = want
        · rw [if_pos e] at hs
          exact .inl ⟨by simp [Region.wanted, hg, hy, e], astep_sound c hT hS h o hs⟩
        · rw [if_neg e] at hs
          cases hs
          exact .inr ⟨by simp [Region.wanted, hg, hy, e], ρ, h.put o.dst (.tup .nil)⟩
      · rename_i hb
        cases hs
        have hy : yielded ops a.tmps j = none := by
          rw [yielded_some ht, slot_tup h hb]; rfl
        exact .inr ⟨by simp [Region.wanted, hg, hy], ρ, h.put o.dst (.tup .nil)⟩
      · cases hs
    · cases hs

/-- IN THE ORDER OF A LIST OF NUMBERS. -/
def arun (c : Cfg) (all : List Oper) : List Nat → St → Option St
  | [], s => some s
  | i :: r, s => match all[i]? with
    | none => arun c all r s
    | some o => (aone c all o s).elim none (arun c all r)

theorem arun_sound (c : Cfg) (hT : TabOk P c.tt) (hS : SpecsOk P c.sg) {ops : Array Oper} {Q : Exit → Act → World → Prop} : ∀ (l : List Nat) {ρ : List CObj} {s s' : St} {a : Act} {w : World}, Rel c.tt w0 FP Mx ρ0 ρ s a w →
    arun c ops.toList l s = some s' → (∀ a' w', Goes c.tt w0 FP Mx ρ0 s' a' w' → Q .normal a' w') → wpOps P ops Q l a w
  | [], ρ, s, s', a, w, h, hs, hQ => by
    cases hs
    exact hQ _ _ ⟨ρ, h⟩
  | i :: l, ρ, s, s', a, w, h, hs, hQ => by
    simp only [arun] at hs
    simp only [wpOps]
    have e : ops.toList[i]? = ops[i]? := by simp
    rw [e] at hs
    cases ho : ops[i]? with
    | none => simp only [ho] at hs ⊢; exact arun_sound c hT hS l h hs hQ
    | some o =>
      simp only [ho] at hs ⊢
      obtain ⟨s1, h1, h2⟩ := elim_some hs
      rcases aone_sound c hT hS h o h1 with ⟨hw, hk⟩ | ⟨hw, hg⟩
      · rw [if_pos hw]
        exact .inl (hk _ _ fun a' w' ⟨ρ', hr⟩ => arun_sound c hT hS l hr h2 hQ)
      · rw [if_neg (by simp [hw])]
        obtain ⟨ρ', hr⟩ := hg
        exact arun_sound c hT hS l hr h2 hQ

theorem arun_range (c : Cfg) (hs : SpecsCps c.sg) (all : List Oper) : ∀ (r : List Oper) (k : Nat) (s : St), all.drop k = r → arun c all (List.range' k r.length) s = aops (R := Option St) none c all r s some
  | [], k, s, _ => rfl
  | o :: r, k, s, hd => by
    have ho : all[k]? = some o := by
      have : (all.drop k)[0]? = some o := by rw [hd]; rfl
      rw [List.getElem?_drop] at this; simpa using this
    have hr : all.drop (k + 1) = r := by
      have : (all.drop k).drop 1 = r := by rw [hd]; rfl
      rw [List.drop_drop] at this; exact this
    rw [aops_cons c hs]
    simp only [List.length_cons, List.range'_succ, arun, ho]
    congr 1
    funext s'
    exact arun_range c hs all r (k + 1) s' hr
end
end Go.Proofs.YtmkgmlgklggnlaaGm

namespace Go.Proofs.YtmkgmlgklggnlaaGm

/-! # Variables of bytes, frozen ahead of a call: soundness. -/
section
variable {P : Program} {tt : Tab} {w0 w : World} {FP Mx : Nat → Prop} {ρ0 ρ : List CObj} {s : St} {a : Act}
theorem Rel.freezeV (h : Rel tt w0 FP Mx ρ0 ρ s a w) (h0 o : Nat) (hh : ρ0.length = h0) : ∃ ρ', Rel tt w0 FP Mx ρ0 ρ' (s.freezeV h0 o) a w := by
  unfold St.freezeV
  split
  · rename_i T cs hi
    cases hb : (Nat.ble h0 o && cs.all (isInt .u8) && Nat.ble cs.length 140737488355328) with
    | false => exact ⟨ρ, h⟩
    | true =>
      rw [cond_true]
      simp only [Bool.and_eq_true] at hb
      obtain ⟨⟨v1, v4⟩, v3⟩ := hb
      have v1 := Nat.le_of_ble_eq_true v1
      have v3 : cs.length ≤ maxLen := Nat.le_trans (Nat.le_of_ble_eq_true v3) (by decide)
      obtain ⟨c, hc, hr⟩ := h.env.at (hget_some hi (by simp))
      cases hr with | @var _ b _ us hheap hl h1 =>
      have hsub : ∀ b, Mof Mx (ρ.set o .gone) b → Mof Mx ρ b := by
        rintro b (hb | ⟨d, hd, hb⟩)
        · exact .inl hb
        · rcases List.mem_or_eq_of_mem_set hd with hd | rfl
          · exact .inr ⟨d, hd, hb⟩
          · cases hb
      have hlo : o < ρ.length := by
        rcases Nat.lt_or_ge o ρ.length with h' | h'
        · exact h'
        · rw [List.getElem?_eq_none h'] at hc; cases hc
      have hnot : ¬ Mof Mx (ρ.set o .gone) b := by
        rintro (hm | ⟨d, hd, hm⟩)
        · exact h.env.mx o _ b hc rfl hm
        · obtain ⟨j, hj⟩ := List.getElem?_of_mem hd
          by_cases e : o = j
          · subst e
            rw [List.getElem?_set_self hlo] at hj
            cases hj; cases hm
          · rw [List.getElem?_set_ne e] at hj
            exact h.env.sep o j _ d b e hc hj rfl hm
      have hL : Later w (Mof Mx ρ) w (Mof Mx (ρ.set o .gone)) := ⟨Nat.le_refl _, fun _ _ _ => rfl, fun b _ hb => hsub b hb⟩
      refine ⟨ρ.set o .gone, h.changeV (w' := w) (c' := .gone) hc rfl rfl rfl (Nat.le_refl _) (fun _ _ _ => rfl) (fun b hb => by cases hb) (.inl (by omega)) ?_ (.dead _ rfl)⟩
      intro x v hx hv
      have hρ : ∀ (o' : Nat) (d : CObj), o' ≠ o → ρ[o']? = some d → (ρ.set o .gone)[o']? = some d := fun o' d hne hd => by
        rw [List.getElem?_set_ne (fun e => hne e.symm)]; exact hd
      have key := lose_rep hL hρ x v hx hv
      cases x with
      | vsl q m =>
        clear key
        show RepV w _ _ (bif Nat.beq q o then (bif Nat.beq m cs.length then .ro (.bytes (u8of cs)) else .top) else .vsl q m) v
        cases hq : Nat.beq q o with
        | false =>
          cases hv with | vsl e => exact .vsl (hρ _ _ (fun e => by subst e; simp at hq) e)
        | true =>
          have hq := Nat.eq_of_beq_eq_true hq
          subst hq
          cases hm : Nat.beq m cs.length with
          | false => exact .top _
          | true =>
            have hm := Nat.eq_of_beq_eq_true hm
            subst hm
            cases hv with | vsl e =>
            rw [hc] at e; cases e
            have hcl := u8of_cells hl v4
            have hln : (Pay.bytes (u8of cs) : Pay AV).len = cs.length := by show (u8of cs).length = _; unfold u8of; rw [List.length_map]
            have hlt : b < w.heap.size := (Array.getElem?_eq_some_iff.1 hheap).1
            have hsc : ∀ a ∈ cs, scalarLeaf a = true := fun a ha => by
              have := List.all_eq_true.1 v4 a ha
              cases a <;> first | rfl | cases this
            have hpl : ∀ a ∈ (Pay.bytes (u8of cs) : Pay AV).cells, pureLeaf a = true := fun a ha => by
              obtain ⟨x, _, rfl⟩ := List.mem_map.1 ha; rfl
            have r := RepV.ro (w := w) (M := Mof Mx (ρ.set q .gone)) (ρ := ρ.set q .gone) (p := .bytes (u8of cs)) (us := us) (b := b) (base := 0) (cap := cs.length) (by rw [hcl]; exact hl.scalar hsc)
              (fun j u hj => by simp [World.cell?, hheap, hj]) hnot hlt h1 hpl trivial (by rw [hln]; exact Nat.le_refl _) v3
            rw [hln] at r
            exact r
      | _ => exact key
  · exact ⟨ρ, h⟩
theorem Rel.freezeVs (h0 : Nat) (hh : ρ0.length = h0) : ∀ (L : List Nat) {ρ : List CObj} {s : St}, Rel tt w0 FP Mx ρ0 ρ s a w → ∃ ρ', Rel tt w0 FP Mx ρ0 ρ' (s.freezeVs h0 L) a w
  | [], ρ, _, h => ⟨ρ, h⟩
  | o :: L, _, _, h => by
    obtain ⟨ρ1, h1⟩ := h.freezeV h0 o hh
    exact Rel.freezeVs h0 hh L h1
theorem Rel.preV (c : Cfg) (hh : ρ0.length = c.h0) (h : Rel tt w0 FP Mx ρ0 ρ s a w) (o : Oper) : ∃ ρ', Rel tt w0 FP Mx ρ0 ρ' (YtmkgmlgklggnlaaGm.preV c o s) a w := by
  unfold YtmkgmlgklggnlaaGm.preV
  split
  · split
    · exact Rel.freezeVs c.h0 hh _ h
    · exact ⟨ρ, h⟩
  · exact ⟨ρ, h⟩
def arunV (c : Cfg) (all : List Oper) : List Nat → St → Option St
  | [], s => some s
  | i :: r, s => match all[i]? with
    | none => arunV c all r s
    | some o => (match o.guard with
      | none => (astep (R := Option St) none c o (preV c o s) some).elim none (arunV c all r)
      | some _ => none)
theorem arunV_sound (c : Cfg) (hT : TabOk P c.tt) (hS : SpecsOk P c.sg) (hh : ρ0.length = c.h0) {ops : Array Oper} {Q : Exit → Act → World → Prop} : ∀ (l : List Nat) {ρ : List CObj} {s s' : St} {a : Act} {w : World}, Rel c.tt w0 FP Mx ρ0 ρ s a w →
    arunV c ops.toList l s = some s' → (∀ a' w', Goes c.tt w0 FP Mx ρ0 s' a' w' → Q .normal a' w') → wpOps P ops Q l a w
  | [], ρ, s, s', a, w, h, hs, hQ => by
    cases hs
    exact hQ _ _ ⟨ρ, h⟩
  | i :: l, ρ, s, s', a, w, h, hs, hQ => by
    simp only [arunV] at hs
    simp only [wpOps]
    have e : ops.toList[i]? = ops[i]? := by simp
    rw [e] at hs
    cases ho : ops[i]? with
    | none => simp only [ho] at hs ⊢; exact arunV_sound c hT hS hh l h hs hQ
    | some o =>
      simp only [ho] at hs ⊢
      cases hg : o.guard with
      | some _ => rw [hg] at hs; cases hs
      | none =>
        rw [hg] at hs
        obtain ⟨s1, h1, h2⟩ := elim_some hs
        obtain ⟨ρ1, hp⟩ := Rel.preV c hh h o
        have h1' : aone c ops.toList o (preV c o s) = some s1 := by unfold aone; rw [hg]; exact h1
        rcases aone_sound c hT hS hp o h1' with ⟨hw, hk⟩ | ⟨hw, hgo⟩
        · rw [if_pos hw]
          exact .inl (hk _ _ fun a' w' ⟨ρ', hr⟩ => arunV_sound c hT hS hh l hr h2 hQ)
        · rw [if_neg (by simp [hw])]
          obtain ⟨ρ', hr⟩ := hgo
          exact arunV_sound c hT hS hh l hr h2 hQ
theorem arunV_range (c : Cfg) (hs : SpecsCps c.sg) (all : List Oper) : ∀ (r : List Oper) (k : Nat) (s : St), all.drop k = r → arunV c all (List.range' k r.length) s = aopsV (R := Option St) none c r s some
  | [], k, s, _ => rfl
  | o :: r, k, s, hd => by
    have ho : all[k]? = some o := by
      have : (all.drop k)[0]? = some o := by rw [hd]; rfl
      rw [List.getElem?_drop] at this; simpa using this
    have hr : all.drop (k + 1) = r := by
      have : (all.drop k).drop 1 = r := by rw [hd]; rfl
      rw [List.drop_drop] at this; exact this
    simp only [List.length_cons, List.range'_succ, arunV, ho, aopsV]
    cases hg : o.guard with
    | some _ => rfl
    | none =>
      dsimp only
      rw [astep_cps none c hs o _ (fun s' => aopsV (R := Option St) none c r s' some)]
      congr 1
      funext s'
      exact arunV_range c hs all r (k + 1) s' hr
theorem aopsW_wp (c : Cfg) (hT : TabOk P c.tt) (hS : SpecsOk P c.sg) (hh : ρ0.length = c.h0) {id : Nat} {ops : Array Oper} {Q : Exit → Act → World → Prop} {ρ : List CObj} {s s' : St} {a : Act} {w : World} (h : Rel c.tt w0 FP Mx ρ0 ρ s a w)
    (hs : aopsW (R := Option St) none c id ops.toList s some = some s') (hQ : ∀ a' w', Goes c.tt w0 FP Mx ρ0 s' a' w' → Q .normal a' w') : wpOps P ops Q (List.range ops.size) a w := by
  unfold aopsW at hs
  split at hs
  · refine arunV_sound c hT hS hh (List.range ops.size) h ?_ hQ
    have := arunV_range c hS.cps ops.toList ops.toList 0 s rfl
    rw [← hs, ← this, List.range_eq_range']
    simp
  · refine arun_sound c hT hS (List.range ops.size) h ?_ hQ
    have := arun_range c hS.cps ops.toList ops.toList 0 s rfl
    rw [← hs, ← this, List.range_eq_range']
    simp
end
end Go.Proofs.YtmkgmlgklggnlaaGm

namespace Go.Proofs.YtmkgmlgklggnlaaGm

section
variable {P : Program} {tt : Tab} {w w' w0 : World} {FP Mx M M' : Nat → Prop} {ρ ρ0 ρ' : List CObj} {hp : List AObj} {s : St} {a : Act}

theorem RepL.setSame {l : List AV} {vs : List Value} (h : RepL w M ρ l vs) {t : Nat} {v : AV} (hv : RepV w M ρ v (vs.getD t undef)) : RepL w M ρ (setN l t v) vs := by
  rcases Nat.lt_or_ge t vs.length with ht | ht
  · have := h.set t hv
    have e : vs.set t (vs.getD t undef) = vs := by
      apply List.ext_getElem?
      intro i
      rw [List.getElem?_set]
      split
      · rename_i hi; subst hi; simp [List.getD, ht]
      · rfl
    rw [e] at this; exact this
  · rw [setN_eq, List.set_eq_of_length_le (by rw [h.length]; exact ht)]; exact h

theorem emptyPay_wf {tt : Tab} {E : Nat} (h : 0 < (emptyPay tt E).sz) : (emptyPay tt E).wf := by
  unfold emptyPay at h ⊢
  split
  · trivial
  · trivial
  · rename_i e he hne
    refine ⟨?_, by simp⟩
    simp_all [Pay.sz]
  · refine ⟨?_, by simp⟩
    simp_all [Pay.sz]

theorem Rel.owned : ∀ (l : List (Nat × Nat)) {ρ : List CObj} {s : St}, Rel tt w0 FP Mx ρ0 ρ s a w → Goes tt w0 FP Mx ρ0 (s.owned tt l) a w
  | [], ρ, s, h => ⟨ρ, h⟩
  | (t, E) :: r, ρ, s, h => by
    unfold St.owned
    split
    · rename_i hn
      cases hb : Nat.blt 0 (emptyPay tt E).sz with
      | false => exact Rel.owned r h
      | true =>
        have hpos : 0 < (emptyPay tt E).sz := by simp [Nat.blt] at hb; omega
        have hv := h.fr.nth t
        rw [hn] at hv
        have key := h.newObj (w' := w) (.refl w) (o := .arr E (emptyPay tt E)) (c := .row (.slice none 0 0) (emptyPay tt E).sz) (fun b hb => by cases hb)
          (.arr (us := []) (by rw [emptyPay_len]; exact World.ownsRow_nil w 0 E _) (by rw [emptyPay_cells]; exact .nil) (by simp) (by rw [emptyPay_cells]; simp) (emptyPay_wf hpos) rfl (emptyPay_kind tt E))
        refine Rel.owned r (s := ⟨setN s.fr t (.own s.hp.length), s.hp ++ [.arr E (emptyPay tt E)]⟩) ⟨key.env, ?_, key.defers, key.keeps, key.fresh, key.hold, key.old⟩
        refine key.fr.setSame ?_
        generalize hu : a.tmps.toList.getD t undef = u at hv
        cases hv
        exact newRow_own h.env rfl
    · exact Rel.owned r h

theorem RepL.keep (keep : List Nat) : ∀ {l : List AV} {vs : List Value} (i : Nat), RepL w M ρ l vs → RepL w M ρ (keepF keep l i) vs
  | _, _, _, .nil => .nil
  | _, _, i, .cons h t => by
    unfold keepF
    refine .cons ?_ (t.keep keep (i + 1))
    cases memN keep i with
    | true => exact h
    | false => exact .top _

/-- The objects, by other numbers: those that are left out are lost. -/
theorem Rel.renumber (h : Rel tt w0 FP Mx ρ0 ρ s a w) {h0 : Nat} (hh : ρ0.length = h0) {ids r : List Nat} (hnd : ids.Nodup) (hr : ids = upto h0 ++ r) :
    Goes tt w0 FP Mx ρ0 ⟨s.fr.map (mapv (renum ids) 4), ids.map fun o => mapObj (renum ids) (hget s.hp o)⟩ a w := by
  let ρ1 : List CObj := ids.map fun o => (ρ[o]?).getD .gone
  have hget1 : ∀ (i : Nat) (c : CObj), ρ1[i]? = some c → ∃ o, ids[i]? = some o ∧ c = (ρ[o]?).getD .gone := by
    intro i c hc
    simp only [ρ1, List.getElem?_map, Option.map_eq_some_iff] at hc
    obtain ⟨o, ho, rfl⟩ := hc
    exact ⟨o, ho, rfl⟩
  have hold1 : ∀ (i : Nat) (c : CObj) (b : Nat), ρ1[i]? = some c → c.block? = some b → ∃ o, ids[i]? = some o ∧ ρ[o]? = some c := by
    intro i c b hc hb
    obtain ⟨o, ho, rfl⟩ := hget1 i c hc
    refine ⟨o, ho, ?_⟩
    cases hx : ρ[o]? with
    | none => rw [hx] at hb; cases hb
    | some d => rfl
  have hsub : ∀ b, Mof Mx ρ1 b → Mof Mx ρ b := by
    rintro b (hb | ⟨d, hd, hb⟩)
    · exact .inl hb
    · obtain ⟨i, hi⟩ := List.getElem?_of_mem hd
      obtain ⟨o, _, ho⟩ := hold1 i d b hi hb
      exact .inr ⟨d, List.mem_of_getElem? ho, hb⟩
  have hL : Later w (Mof Mx ρ) w (Mof Mx ρ1) := ⟨Nat.le_refl _, fun _ _ _ => rfl, fun b _ hb => hsub b hb⟩
  have hpos : ∀ {o i : Nat} {c : CObj}, posN ids o = some i → ρ[o]? = some c → ρ1[i]? = some c := by
    intro o i c hp ho
    simp [ρ1, List.getElem?_map, posN_some hp, ho]
  have hf : ∀ x v, isRef x = true → RepV w (Mof Mx ρ) ρ x v → RepV w (Mof Mx ρ1) ρ1 (renum ids x) v := by
    intro x v hx hr
    cases x with
    | own o =>
      simp only [renum]
      cases hr with | own e e1 =>
      split
      · rename_i i hi; exact .own (hpos hi e) e1
      · exact .top _
    | sub o k n =>
      simp only [renum]
      split
      · rename_i i hi
        cases hr with
        | subN e => exact .subN (hpos hi e)
        | sub e hle had => exact .sub (hpos hi e) hle had
      · exact .top _
    | aptr o j off =>
      simp only [renum]
      cases hr with | aptr e hj =>
      split
      · rename_i i hi; exact .aptr (hpos hi e) hj
      · exact .top _
    | ptr o off =>
      simp only [renum]
      cases hr with | ptr e =>
      split
      · rename_i i hi; exact .ptr (hpos hi e)
      · exact .top _
    | mapo o =>
      simp only [renum]
      cases hr with | mapo e =>
      split
      · rename_i i hi; exact .mapo (hpos hi e)
      · exact .top _
    | vsl o m =>
      simp only [renum]
      cases hr with | vsl e =>
      split
      · rename_i i hi; exact .vsl (hpos hi e)
      · exact .top _
    | _ => cases hx
  refine ⟨ρ1, ⟨⟨?_, ?_, ?_, ?_, h.env.lt⟩, h.fr.mapv _ hL hf 4, h.defers, h.keeps, ?_, ?_, ?_⟩⟩
  · simp [ρ1]
  · intro i o c ho hc
    obtain ⟨k, hk, rfl⟩ := hget1 i c hc
    simp only [List.getElem?_map, hk, Option.map_some, Option.some.injEq] at ho
    subst ho
    rw [hget_get]
    rcases Nat.lt_or_ge k s.hp.length with hlt | hge
    · have e1 : s.hp[k]? = some s.hp[k] := List.getElem?_eq_getElem hlt
      have hlt' : k < ρ.length := by rw [h.env.len]; exact hlt
      have e2 : ρ[k]? = some ρ[k] := List.getElem?_eq_getElem hlt'
      rw [e1, e2]
      exact (h.env.obj k _ _ e1 e2).later hL (fun _ _ => rfl) hf
    · rw [List.getElem?_eq_none hge, List.getElem?_eq_none (by rw [h.env.len]; exact hge)]
      exact .dead _ rfl
  · intro i j ci cj b hne hi hj hb hb'
    obtain ⟨oi, h1, h2⟩ := hold1 i ci b hi hb
    obtain ⟨oj, h3, h4⟩ := hold1 j cj b hj hb'
    refine h.env.sep oi oj ci cj b ?_ h2 h4 hb hb'
    rintro rfl
    exact hne ((List.getElem?_inj (by
      rcases Nat.lt_or_ge i ids.length with h' | h'
      · exact h'
      · rw [List.getElem?_eq_none h'] at h1; cases h1) hnd).1 (h1.trans h3.symm))
  · intro i c b hc hb
    obtain ⟨o, _, ho⟩ := hold1 i c b hc hb
    exact h.env.mx o c b ho hb
  · intro i c b hc hb
    obtain ⟨o, _, ho⟩ := hold1 i c b hc hb
    exact h.fresh o c b ho hb
  · intro i b hi
    have hlt : i < h0 := by
      rw [← hh]
      rcases Nat.lt_or_ge i ρ0.length with h' | h'
      · exact h'
      · rw [List.getElem?_eq_none h'] at hi; cases hi
    have e : ids[i]? = some i := by
      rw [hr, List.getElem?_append_left (by rw [upto_eq]; simpa using hlt), upto_eq]
      simp [hlt]
    simp [ρ1, List.getElem?_map, e, h.hold i b hi]
  · simp only [ρ1, List.length_map, hr, List.length_append, upto_eq, List.length_range]; omega

theorem Rel.gc (h : Rel tt w0 FP Mx ρ0 ρ s a w) {h0 : Nat} (hh : ρ0.length = h0) : Goes tt w0 FP Mx ρ0 (s.gc h0) a w := by
  unfold St.gc
  dsimp only
  generalize hids : reach s.hp 200 (s.fr.flatMap (refsIn 4) ++ (upto h0).flatMap fun i => objRefs (hget s.hp i)) (upto h0) = ids
  have hnd : ids.Nodup := by rw [← hids]; exact reach_nodup _ _ _ (by rw [upto_eq]; exact List.nodup_range)
  obtain ⟨r, hr⟩ : ∃ r, ids = upto h0 ++ r := by rw [← hids]; exact reach_prefix _ _ _
  exact h.renumber hh hnd hr

theorem Rel.mask (h : Rel tt w0 FP Mx ρ0 ρ s a w) {h0 : Nat} (hh : ρ0.length = h0) (m : Mask) : Goes tt w0 FP Mx ρ0 (maskSt tt h0 m s) a w := by
  unfold maskSt
  obtain ⟨ρ1, h1⟩ := h.owned m.own
  have h2 : Rel tt w0 FP Mx ρ0 ρ1 ⟨keepF m.keep (s.owned tt m.own).fr 0, (s.owned tt m.own).hp⟩ a w := ⟨h1.env, h1.fr.keep m.keep 0, h1.defers, h1.keeps, h1.fresh, h1.hold, h1.old⟩
  exact h2.gc hh

theorem Rel.maskAt (h : Rel tt w0 FP Mx ρ0 ρ s a w) {h0 : Nat} (hh : ρ0.length = h0) (ms : List (Nat × Mask)) (key : Nat) : Goes tt w0 FP Mx ρ0 (maskAt tt h0 ms key s) a w := by
  unfold YtmkgmlgklggnlaaGm.maskAt
  split
  · exact h.mask hh _
  · exact ⟨ρ, h⟩
end
end Go.Proofs.YtmkgmlgklggnlaaGm
