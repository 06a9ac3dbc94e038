/- A part of a reader of loaded code that is proved sound; no condition. -/
import Derived.Test.YtcmhpngmjjcloaaGmP
namespace Go.Proofs.YtcmhpngmjjcloaaGm

section
variable {P : Program} {tt : Tab} {w w' w0 : World} {FP Mx M M' : Nat → Prop} {ρ ρ0 ρ' : List CObj} {hp : List AObj} {s : St} {a : Act}

theorem i64_wrap_id {n : Int} (h0 : 0 ≤ n) (h1 : n < 9223372036854775808) : IntKind.i64.wrap n = n := by
  simp [IntKind.wrap, IntKind.signed, IntKind.bits]
  (try split) <;> omega

theorem makeSlice_step (hT : TabOk P tt) (h : Rel tt w0 FP Mx ρ0 ρ s a w) {t E : Nat} {e e0 : TyE} (ht : tget tt t = some e0) (hd : e0.d = .slice E) (he : tget tt E = some e) {kl km : IntKind} {l m : Int}
    (hz : zeroOk tt E = true) (h0 : 0 ≤ l) (h1 : l ≤ m) (h2 : m * e.bytes ≤ 140737488355328) (h3 : 0 < e.bytes) (d : Option Nat) :
    ∃ u w', (Instr.makeSlice t (.int kl l) (.int km m)).run P w = .ok u w' ∧ Goes tt w0 FP Mx ρ0 (St.put ⟨s.fr, s.hp ++ [.arr E (zerosOf tt E l.toNat)]⟩ d (.own s.hp.length)) (a.put d u) w' := by
  obtain ⟨zs, hzs, z2, z3, z4, z5, z6, z7, z8, z9⟩ := zeros_rep (w := w) (M := Mof Mx ρ) (ρ := ρ) hT he hz l.toNat
  have hmb : m ≤ 140737488355328 := by
    have : m * 1 ≤ m * e.bytes := Int.mul_le_mul_of_nonneg_left (by omega) (by omega)
    omega
  have hcz : e.zv.cells.size = e.size := (hT E e he).zs
  have hzl : zs.length = l.toNat * e.size := by
    rw [← z2.length, Pay.cells_length z7, z5, z6]
  have key := h.newRow (w' := w) (E := E) (sz := e.size) (cap := m.toNat) (rest := (List.replicate (m.toNat - l.toNat) e.zv.cells.toList).flatten) (.refl w) z2 z3 z4 z7 z6 z8 (by rw [z5]; omega) (by simp only [maxLen]; omega) (by
    simp only [List.length_append, hzl, List.length_flatten, List.map_replicate, Array.length_toList, hcz, List.sum_replicate_nat]
    rw [← Nat.add_mul]; congr 1; omega)
  rw [z5] at key
  obtain ⟨i, hi1, hi2, hi3, hi4⟩ := (hT E e he).info'
  have hzz := array_range_map e.zv.cells (by omega) m.toNat
  have hcat : (List.replicate m.toNat e.zv.cells.toList).flatten = zs ++ (List.replicate (m.toNat - l.toNat) e.zv.cells.toList).flatten := by
    rw [hzs, ← List.flatten_append, List.replicate_append_replicate, show l.toNat + (m.toNat - l.toNat) = m.toNat by omega]
  rw [hcz] at hzz
  have w1 := i64_wrap_id h0 (by omega)
  have w2 := i64_wrap_id (show 0 ≤ m by omega) (by omega)
  refine ⟨_, _, ?_, _, key.put d (newRow_own h.env rfl)⟩
  have e1 : ((e.bytes : Int) * m) = m * e.bytes := Int.mul_comm _ _
  simp only [Instr.makeSlice, Sem.run_bind, run_underlying ((hT t e0 ht).slice hd), Result.andThen_ok, asInt, asIntOf, Sem.run_pure, w1, w2]
  have hti : (typeInfo E).run P w = .ok i w := by simp [typeInfo, hi1]
  simp only [hti, Result.andThen_ok, hi4, e1]
  rw [if_neg (by simp; omega)]
  simp only [Sem.run_bind, run_askRoom, Result.andThen_ok, run_sizeOf_of (hT E e he)]
  by_cases hn0 : m.toNat * e.size = 0
  · have hm0 : m.toNat = 0 := by rcases Nat.mul_eq_zero.1 hn0 with h | h <;> omega
    have hl0 : l.toNat = 0 := by omega
    have hzn : zs = [] := List.eq_nil_of_length_eq_zero (by rw [hzl, hl0]; simp)
    have hr0 : Array.range 0 = #[] := rfl
    rw [if_pos hn0]
    simp only [Sem.run_pure, Result.andThen_ok, hm0, Nat.zero_mul, hr0, List.map_toArray, List.map_nil, Go.newRow, run_newObj, Sem.run_bind, hzn, hl0, Nat.sub_zero, List.replicate_zero, List.flatten_nil, List.append_nil]
    rfl
  · rw [if_neg hn0]
    simp only [Sem.run_bind, run_zeroValue_of (hT E e he), Result.andThen_ok, Sem.run_pure, hcz, hzz, Go.newRow, run_newObj, hcat]
    rfl

theorem hset_same : ∀ {l : List AObj} {i : Nat} {v : AObj}, i < l.length → (hset l i v)[i]? = some v
  | [], i, v, h => by simp at h
  | _ :: l, 0, v, _ => rfl
  | _ :: l, i + 1, v, h => by simp [hset]; exact hset_same (by simpa using h)

/-- A row of the call's own is written in its place. -/
theorem Rel.writeRow (h : Rel tt w0 FP Mx ρ0 ρ s a w) {i g cap sz E : Nat} {p : Pay AV} {us : List Value} {cur : Array Value} (hc : ρ[i]? = some (.row (.slice (some ⟨g, 0, none⟩) p.len cap) sz))
    (hcur : w.heap[g]? = some (.cells cur E (0, 0))) (hl : RepL w (Mof Mx ρ) ρ p.cells us) (h1 : ∀ u ∈ us, u.oneCell' = true) (hp1 : ∀ a ∈ p.cells, pureLeaf a = true) (hw : p.wf) (hs : p.sz = sz)
    (hk : kindOfPay (emptyPay tt E) p = true) (hcap : p.len ≤ cap) (hm : cap ≤ maxLen) {cur' : Array Value} (hsz : cur'.size = cap * sz) (htake : cur'.toList.take us.length = us) :
    Rel tt w0 FP Mx ρ0 ρ ⟨s.fr, hset s.hp i (.arr E p)⟩ a (w.setRow g cur') := by
  have hblk : ∀ k, k ≠ g → (w.setRow g cur').heap[k]? = w.heap[k]? := fun k hk => setRow_other w g k _ hk
  have hL : Later w (Mof Mx ρ) (w.setRow g cur') (Mof Mx ρ) :=
    ⟨by simp, fun k _ hm => hblk k fun e => hm (.inr ⟨_, List.mem_of_getElem? hc, by rw [e]; rfl⟩), fun _ _ hm => hm⟩
  have hus : us.length = p.len * p.sz := by rw [← hl.length]; exact Pay.cells_length hw
  refine ⟨⟨?_, ?_, h.env.sep, h.env.mx, fun b hb => by simpa using h.env.lt b hb⟩, h.fr.later hL (fun _ _ e => e), h.defers, ?_, h.fresh, h.hold, h.old⟩
  · simp [hset_length, h.env.len]
  · intro j x d hx hd
    rcases hset_get hx with ⟨rfl, rfl⟩ | ⟨hne, hx⟩
    · rw [hc] at hd; cases hd
      refine .arr (us := us) ⟨by rw [hus, hs], .inr ⟨g, cap, cur', rfl, Nat.zero_le _, setRow_heap w g cur _ E _ hcur, hcap, hm, hsz, ?_⟩⟩ (hl.later hL fun _ _ e => e) h1 hp1 hw hs hk
      rw [← hs, ← hus]; exact htake
    · refine (h.env.obj j x d hx hd).later' hL (fun k hk => hblk k fun e => ?_) (fun _ _ e => e)
      exact h.env.sep j i d _ k hne hd hc hk (by rw [e]; rfl)
  · refine h.keeps.step rfl rfl rfl (by simp) fun k hk hn => hblk k fun e => ?_
    rcases h.fresh i _ g hc rfl with h1 | h1
    · exact hn (e ▸ h1)
    · omega

theorem freezeAll_get : ∀ {L : List Nat} {s : St} {i E : Nat} {p : Pay AV}, memN L i = false → hget s.hp i = .arr E p → hget (s.freezeAll L).hp i = .arr E p
  | [], _, _, _, _, _, h => h
  | o :: L, s, i, E, p, hmem, h => by
    cases hbo : Nat.beq o i with
    | true => simp [memN, hbo] at hmem
    | false =>
      have hmem2 : memN L i = false := by simpa [memN, hbo] using hmem
      have hne : i ≠ o := fun e => by subst e; simp at hbo
      show hget ((s.freeze o).freezeAll L).hp i = _
      exact freezeAll_get hmem2 (freeze_get hne h)

theorem Rel.freezeAll_row : ∀ (L : List Nat) {ρ : List CObj} {s : St} {i : Nat} {c : CObj}, Rel tt w0 FP Mx ρ0 ρ s a w → memN L i = false → ρ[i]? = some c → ∃ ρ', Rel tt w0 FP Mx ρ0 ρ' (s.freezeAll L) a w ∧
    (∀ b, Mof Mx ρ' b → Mof Mx ρ b) ∧ (∀ i ∈ L, ∀ E p c b, hget s.hp i = .arr E p → ρ[i]? = some c → c.block? = some b → ¬ Mof Mx ρ' b) ∧ ρ'[i]? = some c
  | [], ρ, s, i, c, h, _, hc => ⟨ρ, h, fun _ hb => hb, fun i hi => (by simp at hi), hc⟩
  | o :: L, ρ, s, i, c, h, hmem, hc => by
    cases hbo : Nat.beq o i with
    | true => simp [memN, hbo] at hmem
    | false =>
      have hm : memN L i = false := by simpa [memN, hbo] using hmem
      have hne : i ≠ o := fun e => by subst e; simp at hbo
      obtain ⟨ρ1, h1, s1, n1, k1⟩ := h.freeze o
      have hc1 : ρ1[i]? = some c := by
        rcases k1 i c hc with h | ⟨h, _⟩
        · exact h
        · exact absurd h hne
      obtain ⟨ρ2, h2, s2, n2, c2⟩ := Rel.freezeAll_row L h1 hm hc1
      refine ⟨ρ2, h2, fun b hb => s1 b (s2 b hb), ?_, c2⟩
      intro j hj E p c b hE hcj hb hmb
      by_cases e : j = o
      · subst e; exact n1 E p c b hE hcj hb (s2 b hmb)
      · rcases List.mem_cons.1 hj with hj | hj
        · exact e hj
        · rcases k1 j c hcj with hc' | ⟨e', _⟩
          · exact n2 j hj E p c b (freeze_get e hE) hc' hb hmb
          · exact e e'

/-- An element of an own row is written. -/
theorem storeArr_step (hT : TabOk P tt) (h : Rel tt w0 FP Mx ρ0 ρ s a w) {t b i off E : Nat} {e : TyE} {p p' : Pay AV} {v : AV} {u ad : Value} (he : tget tt t = some e) (hv : RepV w (Mof Mx ρ) ρ v u)
    (hok : leavesOk v = true) (hb : hget s.hp b = .arr E p) (had : RepV w (Mof Mx ρ) ρ (.aptr b i off) ad) (hrp : rowPure tt s.hp e.leaf v = true) (hi : i < p.len) (hoff : off + e.size ≤ p.sz)
    (hrl : (rowOf tt s.hp e.leaf v).length = e.size) (hself : memN (leafOwn v) b = false) (hpset : p.setAt i off (rowOf tt s.hp e.leaf v) = some p') (d : Option Nat) :
    ∃ w', (Instr.storeAt t ad u).run P w = .ok () w' ∧ Goes tt w0 FP Mx ρ0 (St.put ⟨(s.freezeAll (leafOwn v)).fr, hset (s.freezeAll (leafOwn v)).hp b (.arr E p')⟩ d undefA) (a.put d undef) w' := by
  obtain ⟨c, hc, hr⟩ := h.env.at (hget_some hb (by simp))
  obtain ⟨ρ1, h1, hsub, hnot, hc1⟩ := Rel.freezeAll_row (leafOwn v) h hself hc
  have hL : Later w (Mof Mx ρ) w (Mof Mx ρ1) := ⟨Nat.le_refl _, fun _ _ _ => rfl, fun b _ hb => hsub b hb⟩
  obtain ⟨r1, r2, r3⟩ := rowOf_rep (ρ' := ρ1) (ts := e.leaf) h.env hL hv hok (fun j hj E p c b hE hcj hb => ⟨hnot j hj E p c b hE hcj hb, rfl⟩) hrp
  cases had with | @aptr _ _ _ g n0 cap sz e1 hi' =>
  rw [hc] at e1; cases e1
  have hb1 := hget_some (freezeAll_get hself hb) (by simp)
  have hr1 := h1.env.obj b _ _ hb1 hc1
  cases hr1 with | @arr _ _ _ _ us ho hl h1' hpl hw hs hk =>
  rcases ho.2 with ⟨h0, _⟩ | ⟨g', cap', cur, hge, _, hg, hn, hm, hcs, htake⟩
  · cases h0
  · cases hge
    obtain ⟨s1, s2, s3, s4, s5, s6⟩ := setAt_rep (off := off) hl r1 hw hi (by omega) hpset
    have hus : us.length = p.len * p.sz := by rw [← hl.length]; exact Pay.cells_length hw
    have hin : i * p.sz + p.sz ≤ us.length := by rw [hus, ← Nat.succ_mul]; exact Nat.mul_le_mul_right _ hi
    have hul : u.cells.toList.length = e.size := by rw [← r1.length]; exact hrl
    have hcur : us.length ≤ cur.size := by rw [hcs, hus, hs]; exact Nat.mul_le_mul_right _ hn
    have hst := run_storeCells_at P g (i * p.sz + off) E u.cells.toList 0 cur w hg (by simp only [Nat.add_zero]; omega) r2
    have hsz : u.cells.size = e.size := by simpa using hul
    rw [foldl_set_seg _ _ _ 0 (by omega)] at s1
    simp only [Nat.add_zero] at s1 hst
    have hmem : ∀ x ∈ us.take (i * p.sz + off) ++ u.cells.toList ++ us.drop (i * p.sz + off + u.cells.toList.length), x.oneCell' = true := by
      intro x hx
      rcases List.mem_append.1 hx with hx | hx
      · rcases List.mem_append.1 hx with hx | hx
        · exact h1' x (List.mem_of_mem_take hx)
        · exact r2 x hx
      · exact h1' x (List.mem_of_mem_drop hx)
    refine ⟨_, ?_, ρ1, (h1.writeRow (p := p') (cur := cur) (cap := cap) (by rw [s2]; exact hc1) hg s1 hmem (s6 hpl r3) s4 (by rw [s3, hs]) (s5 _ hk) (by rw [s2]; exact hn) hm
      (cur' := (cur.toList.take (i * p.sz + off) ++ u.cells.toList ++ cur.toList.drop (i * p.sz + off + u.cells.toList.length)).toArray) ?_ ?_).put d (.tup .nil)⟩
    · simp only [Instr.storeAt, Instr.sureAddr, Sem.run_bind, Sem.run_pure, Result.andThen_ok, storeVar, run_sizeOf_of (hT t e he)]
      rw [if_neg (by simp [hsz])]
      rw [← hs]
      exact hst
    · simp only [List.size_toArray, List.length_append, List.length_take, List.length_drop, Array.length_toList]
      rw [← hcs]; simp at hul; omega
    · have hpre : us = cur.toList.take us.length := by rw [hus, hs]; exact htake.symm
      have e1 : us.take (i * p.sz + off) = cur.toList.take (i * p.sz + off) := by
        rw [hpre, List.take_take, Nat.min_eq_left (by omega)]
      have e2 : us.drop (i * p.sz + off + u.cells.toList.length) = (cur.toList.drop (i * p.sz + off + u.cells.toList.length)).take (us.length - (i * p.sz + off + u.cells.toList.length)) := by
        conv => lhs; rw [hpre]
        rw [List.drop_take]
      rw [List.toList_toArray, e1, e2]
      have hA : (cur.toList.take (i * p.sz + off) ++ u.cells.toList).length ≤ us.length := by
        simp only [List.length_append, List.length_take, Array.length_toList]; simp at hul; omega
      have hB : (cur.toList.take (i * p.sz + off) ++ u.cells.toList ++ (cur.toList.drop (i * p.sz + off + u.cells.toList.length)).take (us.length - (i * p.sz + off + u.cells.toList.length))).length = us.length := by
        simp only [List.length_append, List.length_take, Array.length_toList]; simp at hul ⊢; omega
      rw [hB, List.take_append, List.take_of_length_le hA]
      congr 1
      simp only [List.length_append, List.length_take, List.length_drop, Array.length_toList]
      congr 1
      simp at hul
      omega
end
end Go.Proofs.YtcmhpngmjjcloaaGm
