/- A part of a reader of loaded code that is proved sound; no condition. -/
import Derived.Test.YtcmhpngmjjcloaaGmO
namespace Go.Proofs.YtcmhpngmjjcloaaGm

section
variable {P : Program} {tt : Tab} {w w' w0 : World} {FP Mx M M' : Nat → Prop} {ρ ρ0 ρ' : List CObj} {hp : List AObj} {s : St} {a : Act}

theorem rowOf_rep (hE : Env tt w Mx ρ hp) (hL : Later w (Mof Mx ρ) w' M') {ts : List Nat} {v : AV} {u : Value} (hv : RepV w (Mof Mx ρ) ρ v u) (hok : leavesOk v = true)
    (hM : ∀ i ∈ leafOwn v, ∀ E p c b, hget hp i = .arr E p → ρ[i]? = some c → c.block? = some b → ¬ M' b ∧ w'.heap[b]? = w.heap[b]?) (hp' : rowPure tt hp ts v = true) :
    RepL w' M' ρ' (rowOf tt hp ts v) u.cells.toList ∧ (∀ c ∈ u.cells.toList, c.oneCell' = true) ∧ ∀ x ∈ rowOf tt hp ts v, pureLeaf x = true := by
  obtain ⟨l1, l2⟩ := leaves_rep hv hok
  have gen : (∀ l, v ≠ .arr l) → RepL w' M' ρ' (rowLeaves tt hp ts (leavesOf v)) u.cells.toList ∧ (∀ c ∈ u.cells.toList, c.oneCell' = true) ∧ ∀ x ∈ rowLeaves tt hp ts (leavesOf v), pureLeaf x = true := by
    intro hne
    have e1 : rowPure tt hp ts v = (rowLeaves tt hp ts (leavesOf v)).all pureLeaf := by cases v <;> first | rfl | exact absurd rfl (hne _)
    have e2 : leafOwn v = (leavesOf v).flatMap (ownIn 0) := by cases v <;> first | rfl | exact absurd rfl (hne _)
    rw [e1] at hp'
    rw [e2] at hM
    have hpp : ∀ x ∈ rowLeaves tt hp ts (leavesOf v), pureLeaf x = true := fun x hx => List.all_eq_true.1 hp' x hx
    exact ⟨rowLeaves_rep hE hL l1 hM hpp, l2, hpp⟩
  cases v with
  | arr l =>
    cases hv with | arr hl h1 hs =>
    refine ⟨?_, l2, fun x hx => pure_of_scalar (hs x hx)⟩
    simpa [rowOf, Value.cells] using hl.pure (M' := M') (ρ' := ρ') hL fun x hx => pure_of_scalar (hs x hx)
  | _ => exact gen (by simp)

/-- The parts of a slice's literal. -/
theorem setParts_rep (hE : Env tt w Mx ρ hp) (hL : Later w (Mof Mx ρ) w' M') {ts : List Nat} : ∀ {ps : List (Nat × AV)} {pv : List (Nat × Value)} {p r : Pay AV} {us : List Value}, RepP w (Mof Mx ρ) ρ ps pv →
    (∀ i ∈ ownsOf ps, ∀ E p c b, hget hp i = .arr E p → ρ[i]? = some c → c.block? = some b → ¬ M' b ∧ w'.heap[b]? = w.heap[b]?) →
    RepL w' M' ρ' p.cells us → (∀ u ∈ us, u.oneCell' = true) → (∀ a ∈ p.cells, pureLeaf a = true) → p.wf → setParts tt hp ts p ps = some r →
    ∃ us', Instr.fill (fun i => some (i * p.sz, p.sz)) us.toArray pv = some us'.toArray ∧ RepL w' M' ρ' r.cells us' ∧ (∀ u ∈ us', u.oneCell' = true) ∧ (∀ a ∈ r.cells, pureLeaf a = true) ∧ r.wf ∧
      r.len = p.len ∧ r.sz = p.sz ∧ (∀ e, kindOfPay e p = true → kindOfPay e r = true)
  | [], _, p, r, us, .nil, _, hl, h1, hp1, hw, h => by
    cases h
    exact ⟨us, rfl, hl, h1, hp1, hw, rfl, rfl, fun _ h => h⟩
  | (i, v) :: ps, _, p, r, us, .cons (v := u) hv t, hM, hl, h1, hp1, hw, h => by
    simp only [setParts] at h
    cases hb : (leavesOk v && rowPure tt hp ts v && Nat.blt i p.len && Nat.beq (rowOf tt hp ts v).length p.sz) <;> simp only [hb, cond_true, cond_false] at h
    · cases h
    simp only [Bool.and_eq_true] at hb
    obtain ⟨⟨⟨b1, b2⟩, b3⟩, b4⟩ := hb
    split at h
    case h_2 => cases h
    rename_i p' hset
    have hlen := Nat.eq_of_beq_eq_true b4
    have hi : i < p.len := by simp [Nat.blt] at b3; omega
    obtain ⟨r1, r2, r3⟩ := rowOf_rep (ρ' := ρ') (ts := ts) hE hL hv b1 (fun j hj => hM j (by simp [ownsOf, hj])) b2
    obtain ⟨s1, s2, s3, s4, s5, s6⟩ := setAt_rep (off := 0) hl r1 hw hi (by omega) hset
    have h1' : ∀ x ∈ u.cells.toList.zipIdx.foldl (fun c x => c.set ((i * p.sz + 0) + x.2) x.1) us, x.oneCell' = true := by
      refine foldl_set_mem _ _ us (fun v => v.oneCell' = true) h1 ?_
      rintro ⟨x, j⟩ hx
      exact r2 x (List.fst_mem_of_mem_zipIdx hx)
    obtain ⟨us', f1, f2, f3, f4, f5, f6, f7, f8⟩ := setParts_rep hE hL t (fun j hj => hM j (by simp only [ownsOf, List.flatMap_cons, List.mem_append]; exact .inr hj)) s1 h1' (s6 hp1 r3) s4 h
    refine ⟨us', ?_, f2, f3, f4, f5, by rw [f6, s2], by rw [f7, s3], fun e he => f8 e (s5 e he)⟩
    have hus : us.length = p.len * p.sz := by rw [← hl.length]; exact Pay.cells_length hw
    have hul : u.cells.size = p.sz := by
      have := r1.length
      simp at this; omega
    have hle : i * p.sz + u.cells.size ≤ us.toArray.size := by
      have : i * p.sz + p.sz ≤ p.len * p.sz := by rw [← Nat.succ_mul]; exact Nat.mul_le_mul_right _ hi
      simp; omega
    unfold Instr.fill
    dsimp only
    rw [if_neg (by simp [hul]; simp at hle; omega)]
    rw [s3] at f1
    rw [← f1]
    congr 1
    apply Array.ext'
    rw [← Array.foldl_toList, foldl_set_toList]
    simp

theorem array_range_map (z : Array Value) (hz : 0 < z.size) (n : Nat) : ((Array.range (n * z.size)).map (fun i => z[i % z.size]!)) = ((List.replicate n z.toList).flatten).toArray := by
  apply Array.ext'
  have := range_mod z.toList default (by simpa using hz) n
  simp only [Array.length_toList] at this
  rw [List.toList_toArray, ← this]
  simp only [Array.toList_map, Array.toList_range]
  apply List.map_congr_left
  intro i hi
  have hlt : i % z.size < z.size := Nat.mod_lt _ hz
  simp [List.getD, hlt]

/-- A new row. -/
theorem Rel.newRow (h : Rel tt w0 FP Mx ρ0 ρ s a w) (hg : Grew w w') {E sz cap : Nat} {p : Pay AV} {us rest : List Value} (hlu : RepL w (Mof Mx ρ) ρ p.cells us) (h1 : ∀ u ∈ us, u.oneCell' = true)
    (hp1 : ∀ a ∈ p.cells, pureLeaf a = true) (hw : p.wf) (hs : p.sz = sz) (hk : kindOfPay (emptyPay tt E) p = true) (hcap : p.len ≤ cap) (hm : cap ≤ maxLen) (hrest : (us ++ rest).length = cap * sz) :
    Rel tt w0 FP Mx ρ0 (ρ ++ [.row (.slice (some ⟨w'.heap.size, 0, none⟩) p.len cap) sz]) ⟨s.fr, s.hp ++ [.arr E p]⟩ a (w'.alloc (.cells (us ++ rest).toArray E)) := by
  have hg2 : Grew w (w'.alloc (.cells (us ++ rest).toArray E)) := hg.trans (grew_alloc _)
  have hus : us.length = p.len * p.sz := by rw [← hlu.length]; exact Pay.cells_length hw
  refine h.newObj hg2 (fun b hb => by cases hb; have := hg.size; simp; omega) (.arr (us := us) ⟨by rw [hus, hs], .inr ⟨w'.heap.size, cap, _, rfl, Nat.zero_le _, heap_alloc_new w' _, hcap, hm, ?_, ?_⟩⟩
    (hlu.pure ⟨hg2.size, fun b hb _ => hg2.block b hb, fun b hb hm => ?_⟩ hp1) h1 hp1 hw hs hk)
  · simpa using hrest
  · rw [List.toList_toArray, ← hs, ← hus]; simp
  · rcases Mof_snoc.1 hm with hm | hm
    · exact hm
    · cases hm; have := hg.size; simp at hb; omega

theorem newRow_own (h : Env tt w Mx ρ s.hp) {v : Value} {sz : Nat} (h1 : v.oneCell' = true) {w' : World} {M : Nat → Prop} : RepV w' M (ρ ++ [.row v sz]) (.own s.hp.length) v := by
  refine .own (sz := sz) ?_ h1
  rw [← h.len]; simp

theorem buildSlice_step (hT : TabOk P tt) (h : Rel tt w0 FP Mx ρ0 ρ s a w) {t len E : Nat} {e e0 : TyE} (ht : tget tt t = some e0) (hd : e0.d = .slice E) (he : tget tt E = some e)
    {ps : List (Nat × AV)} {pv : Array (Nat × Value)} (hps : RepP w (Mof Mx ρ) ρ ps pv.toList) {p : Pay AV} (hset : setParts tt s.hp e.leaf (zerosOf tt E len) ps = some p) (hz : zeroOk tt E = true)
    (hsmall : len * e.size ≤ 16777216) (d : Option Nat) :
    ∃ u w', (Instr.buildSlice t len pv).run P w = .ok u w' ∧ Goes tt w0 FP Mx ρ0 (St.put ⟨(s.freezeAll (ownsOf ps)).fr, (s.freezeAll (ownsOf ps)).hp ++ [.arr E p]⟩ d (.own (s.freezeAll (ownsOf ps)).hp.length)) (a.put d u) w' := by
  obtain ⟨ρ1, h1, hsub, hnot⟩ := h.freezeAll (ownsOf ps)
  obtain ⟨zs, rfl, z2, z3, z4, z5, z6, z7, z8, z9⟩ := zeros_rep (w := w) (M := Mof Mx ρ1) (ρ := ρ1) hT he hz len
  have hL : Later w (Mof Mx ρ) w (Mof Mx ρ1) := ⟨Nat.le_refl _, fun _ _ _ => rfl, fun b _ hb => hsub b hb⟩
  obtain ⟨us, f1, f2, f3, f4, f5, f6, f7, f8⟩ := setParts_rep (ρ' := ρ1) h.env hL hps (fun i hi E p c b hE hc hb => ⟨hnot i hi E p c b hE hc hb, rfl⟩) z2 z3 z4 z7 hset
  rw [z6] at f1 f7
  rw [z5] at f6
  have hus : us.length = p.len * p.sz := by rw [← f2.length]; exact Pay.cells_length f5
  have hlm : p.len ≤ maxLen := by
    have : len ≤ len * e.size := Nat.le_mul_of_pos_right len z9
    simp only [maxLen]; omega
  have key := h1.newRow (w' := w) (E := E) (sz := e.size) (cap := p.len) (rest := []) (.refl w) f2 f3 f4 f5 f7 (f8 _ z8) (Nat.le_refl _) hlm (by simp [hus, f7])
  simp only [List.append_nil] at key
  have hcz : e.zv.cells.size = e.size := (hT E e he).zs
  refine ⟨_, _, ?_, _, key.put d (newRow_own h1.env rfl)⟩
  simp only [Instr.buildSlice, Sem.run_bind, run_underlying ((hT t e0 ht).slice hd), Result.andThen_ok, run_sizeOf_of (hT E e he)]
  rw [if_neg (by omega)]
  by_cases h0 : len * e.size = 0
  · have : len = 0 := by rcases Nat.mul_eq_zero.1 h0 with h | h <;> omega
    subst this
    rw [if_pos h0]
    simp only [List.replicate_zero, List.flatten_nil] at f1
    have hr0 : Array.range 0 = #[] := rfl
    simp only [Sem.run_bind, Sem.run_pure, Result.andThen_ok, Nat.zero_mul, hr0, List.map_toArray, List.map_nil, f1, Go.newRow, run_newObj]
    rw [f6]
    rfl
  · rw [if_neg h0]
    have hzz := array_range_map e.zv.cells (by omega) len
    rw [hcz] at hzz
    simp only [Sem.run_bind, Sem.run_pure, Result.andThen_ok, run_zeroValue_of (hT E e he), hcz, hzz, f1, Go.newRow, run_newObj]
    rw [f6]
    rfl
end
end Go.Proofs.YtcmhpngmjjcloaaGm
