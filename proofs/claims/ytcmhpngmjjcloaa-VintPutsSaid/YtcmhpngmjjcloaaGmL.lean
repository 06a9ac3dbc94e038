/- A part of a reader of loaded code that is proved sound; no condition. -/
import Derived.Test.YtcmhpngmjjcloaaGmK
namespace Go.Proofs.YtcmhpngmjjcloaaGm

section
variable {P : Program} {tt : Tab} {w w' w0 : World} {FP Mx : Nat → Prop} {ρ ρ0 : List CObj} {hp : List AObj} {s : St} {a : Act}

theorem list_toArray (l : Array Value) : l.toList.toArray = l := by cases l; rfl

/-- A new variable. -/
theorem Rel.newVar (h : Rel tt w0 FP Mx ρ0 ρ s a w) {T : Nat} {ls : List AV} {us : Array Value} (hl : RepL w (Mof Mx ρ) ρ ls us.toList) (h1 : ∀ u ∈ us.toList, u.oneCell' = true) :
    Rel tt w0 FP Mx ρ0 (ρ ++ [.blk w.heap.size]) ⟨s.fr, s.hp ++ [.var T ls]⟩ a (w.alloc (.cells us T)) := by
  have hL : Later w (Mof Mx ρ) (w.alloc (.cells us T)) (Mof Mx (ρ ++ [.blk w.heap.size])) := by
    refine ⟨by simp, fun b hb _ => Go.RowKit.Below.heap_alloc w _ b hb, fun b hb hm => ?_⟩
    rcases Mof_snoc.1 hm with hm | hm
    · exact hm
    · cases hm; omega
  refine h.newObj (grew_alloc _) (fun b hb => by cases hb; simp) (.var (us := us.toList) ?_ (hl.later hL fun _ _ e => snoc_left e) h1)
  rw [list_toArray]; exact heap_alloc_new w _

theorem run_newVar (t : TypeId) (v : Value) : (newVar t v).run P w = .ok ⟨w.heap.size, 0, none⟩ (w.alloc (.cells v.cells t)) := by
  simp [newVar, newRow]

theorem alloc_step (hT : TabOk P tt) (h : Rel tt w0 FP Mx ρ0 ρ s a w) {T : Nat} {e : TyE} (he : tget tt T = some e) (hz : leavesOk e.zero = true) (d : Option Nat) :
    ∃ u w', (Instr.alloc T true (.tuple #[])).run P w = .ok u w' ∧ Goes tt w0 FP Mx ρ0 (St.put ⟨s.fr, s.hp ++ [.var T (leavesOf e.zero)]⟩ d (.ptr s.hp.length 0)) (a.put d u) w' := by
  obtain ⟨z1, z2⟩ := zero_rep (w := w) (M := Mof Mx ρ) (ρ := ρ) hz
  refine ⟨.pointer (some ⟨w.heap.size, 0, none⟩), _, by simp [Instr.alloc, run_zeroValue_of (hT T e he), run_newVar], _, (h.newVar z1 z2).put d (.ptr ?_)⟩
  rw [← h.env.len]; simp

theorem box_step (h : Rel tt w0 FP Mx ρ0 ρ s a w) {T : Nat} {v : AV} {u : Value} (hv : RepV w (Mof Mx ρ) ρ v u) (hz : leavesOk v = true) (d : Option Nat) :
    ∃ u' w', (Instr.box T u).run P w = .ok u' w' ∧ Goes tt w0 FP Mx ρ0 (St.put ⟨s.fr, s.hp ++ [.var T (leavesOf v)]⟩ d (.ptr s.hp.length 0)) (a.put d u') w' := by
  obtain ⟨z1, z2⟩ := leaves_rep hv hz
  refine ⟨.pointer (some ⟨w.heap.size, 0, none⟩), _, by simp [Instr.box, run_newVar], _, (h.newVar z1 z2).put d (.ptr ?_)⟩
  rw [← h.env.len]; simp

/-- A variable is written. -/
theorem Rel.write (h : Rel tt w0 FP Mx ρ0 ρ s a w) {i b T : Nat} {cs : List AV} {us : List Value} (hc : ρ[i]? = some (.blk b)) (hcur : ∃ cur, w.heap[b]? = some (.cells cur T (0, 0)))
    (hl : RepL w (Mof Mx ρ) ρ cs us) (h1 : ∀ u ∈ us, u.oneCell' = true) :
    Rel tt w0 FP Mx ρ0 ρ ⟨s.fr, hset s.hp i (.var T cs)⟩ a (w.setRow b us.toArray) := by
  obtain ⟨cur, hcur⟩ := hcur
  have hblk : ∀ k, k ≠ b → (w.setRow b us.toArray).heap[k]? = w.heap[k]? := fun k hk => setRow_other w b k _ hk
  have hL : Later w (Mof Mx ρ) (w.setRow b us.toArray) (Mof Mx ρ) :=
    ⟨by simp, fun k _ hm => hblk k fun e => hm (.inr ⟨_, List.mem_of_getElem? hc, by rw [e]; rfl⟩), fun _ _ hm => hm⟩
  refine ⟨⟨?_, ?_, h.env.sep, h.env.mx, fun b hb => by simpa using h.env.lt b hb⟩, h.fr.later hL (fun _ _ e => e), h.defers, ?_, h.fresh, h.hold, h.old⟩
  · simp [hset_length, h.env.len]
  · intro j x d hx hd
    rcases hset_get hx with ⟨rfl, rfl⟩ | ⟨hne, hx⟩
    · rw [hc] at hd; cases hd
      exact .var (setRow_heap w b cur _ T _ hcur) (hl.later hL fun _ _ e => e) h1
    · refine (h.env.obj j x d hx hd).later' hL (fun k hk => hblk k fun e => ?_) (fun _ _ e => e)
      exact h.env.sep j i d _ k hne hd hc hk (by rw [e]; rfl)
  · refine h.keeps.step rfl rfl rfl (by simp) fun k hk hn => hblk k fun e => ?_
    rcases h.fresh i _ b hc rfl with h1 | h1
    · exact hn (e ▸ h1)
    · omega

theorem setN_eq (l : List AV) (i : Nat) (v : AV) : setN l i v = l.set i v := by
  induction l generalizing i with
  | nil => rfl
  | cons a l ih => cases i <;> simp [setN, ih]

/-- What a run of stores leaves: cell by cell. -/
theorem foldl_set_seg (off : Nat) : ∀ (us vs : List Value) (n : Nat), off + n + us.length ≤ vs.length →
    (us.zipIdx n).foldl (fun c x => c.set (off + x.2) x.1) vs = vs.take (off + n) ++ us ++ vs.drop (off + n + us.length)
  | [], vs, n, _ => by simp
  | u :: us, vs, n, h => by
    simp only [List.zipIdx_cons, List.foldl_cons]
    simp only [List.length_cons] at h
    rw [foldl_set_seg off us (vs.set (off + n) u) (n + 1) (by simp; omega)]
    have := list_seg_step vs (off + n) u us (by omega)
    rw [show off + (n + 1) = off + n + 1 by omega, this]
    simp

theorem storeVar_step (hT : TabOk P tt) (h : Rel tt w0 FP Mx ρ0 ρ s a w) {t b off T : Nat} {e : TyE} {cs : List AV} {v : AV} {u : Value} (he : tget tt t = some e) (hv : RepV w (Mof Mx ρ) ρ v u)
    (hok : leavesOk v = true) (hlen : (leavesOf v).length = e.size) (hb : hget s.hp b = .var T cs) (hle : off + e.size ≤ cs.length) {ad : Value} (had : RepV w (Mof Mx ρ) ρ (.ptr b off) ad) (d : Option Nat) :
    ∃ w', (Instr.storeAt t ad u).run P w = .ok () w' ∧ Goes tt w0 FP Mx ρ0 (St.put ⟨s.fr, hset s.hp b (.var T (setRange cs off (leavesOf v)))⟩ d undefA) (a.put d undef) w' := by
  obtain ⟨c, hc, hr⟩ := h.env.at (hget_some hb (by simp))
  cases had with | @ptr _ _ g hp' =>
  rw [hc] at hp'; cases hp'
  cases hr with | @var _ _ _ us hh hl h1 =>
  obtain ⟨l1, l2⟩ := leaves_rep hv hok
  have hul : u.cells.toList.length = e.size := by rw [← l1.length]; exact hlen
  have hcl : cs.length = us.length := hl.length
  have hst := run_storeCells_at P g off T u.cells.toList 0 us.toArray w hh (by simp; simp at hul; omega) l2
  have hsz : u.cells.size = e.size := by simpa using hul
  have key := setRange_rep off hl l1
  rw [foldl_set_seg off _ _ 0 (by simp; simp at hul; omega)] at key
  simp only [Nat.add_zero] at key hst
  refine ⟨_, ?_, ρ, ((h.write hc ⟨_, hh⟩ key ?_)).put d (.tup .nil)⟩
  · simp only [Instr.storeAt, Instr.sureAddr, Sem.run_bind, Sem.run_pure, Result.andThen_ok, storeVar, run_sizeOf_of (hT t e he)]
    rw [if_neg (by simp [hsz])]
    simpa using hst
  · intro x hx
    rcases List.mem_append.1 hx with hx | hx
    · rcases List.mem_append.1 hx with hx | hx
      · exact h1 x (List.mem_of_mem_take hx)
      · exact l2 x hx
    · exact h1 x (List.mem_of_mem_drop hx)

/-- What leads to a row that is not written any more reads it. -/
theorem frozenSelf_rep {i : Nat} {p : Pay AV} {c : CObj} {M : Nat → Prop} {E : Nat} (hE : Env tt w Mx ρ hp) (hi : hget hp i = .arr E p) (hc : ρ[i]? = some c)
    (hL : Later w (Mof Mx ρ) w' M) (hblk : ∀ b, c.block? = some b → ¬ M b ∧ w'.heap[b]? = w.heap[b]?) (ρ' : List CObj) :
    ∀ a v, isOf i a = true → RepV w (Mof Mx ρ) ρ a v → RepV w' M ρ' (frozenAs i p a) v := by
  intro a v ha hr
  obtain ⟨c', hc', hro⟩ := hE.at (hget_some hi (by simp))
  rw [hc] at hc'; cases hc'
  cases hro with | @arr _ sz _ v0 us ho hl h1 hpl hw hs hk =>
  -- the row, read
  have read : (v0 = .slice none 0 0 ∧ p.len = 0) ∨ ∃ g cap, v0 = .slice (some ⟨g, 0, none⟩) p.len cap ∧ p.len ≤ cap ∧ cap ≤ maxLen ∧ g < w.heap.size ∧ CellsAt w' g 0 us ∧ ¬ M g := by
    rcases ownsRow_cells ho with h0 | ⟨g, cap, e, hn, hm, hlt, hcl⟩
    · exact .inl h0
    · subst e
      have := hblk g rfl
      refine .inr ⟨g, cap, rfl, hn, hm, hlt, fun j u hu => ?_, this.1⟩
      rw [World.cell?_of_block (w := w) this.2]; exact hcl j u hu
  have hl' : RepL w' M ρ' p.cells us := hl.pure hL hpl
  cases a with
  | own o =>
    simp only [isOf] at ha
    have := Nat.eq_of_beq_eq_true ha; subst this
    simp only [frozenAs, Nat.beq_refl, cond_true]
    cases hr with | own e e1 =>
    rw [hc] at e; cases e
    rcases read with ⟨rfl, h0⟩ | ⟨g, cap, rfl, hn, hm, hlt, hcl, hM⟩
    · exact .roN h0 (by decide) (fun _ => rfl)
    · exact .ro hl' hcl hM (Nat.lt_of_lt_of_le hlt hL.size) h1 hpl hw hn hm
  | sub o k n =>
    simp only [isOf] at ha
    have := Nat.eq_of_beq_eq_true ha; subst this
    simp only [frozenAs, Nat.beq_refl, cond_true]
    cases hr with
    | subN e =>
      rw [hc] at e; cases e
      rcases read with ⟨_, h0⟩ | ⟨g, cap, e, _⟩
      · exact .roN (Pay.cut_zero_len h0 _ _) (by decide) (fun _ => rfl)
      · cases e
    | @sub _ _ _ g m cap sz' addr e hle had =>
      rw [hc] at e; cases e
      rcases read with ⟨e, _⟩ | ⟨g', cap', e, hn, hm, hlt, hcl, hM⟩
      · cases e
      · cases e
        have := RepV.roCut (a := k) (n := n) (c' := cap - k) (ad := some (if cap = k then ⟨g, 0, none⟩ else ⟨g, 0 + k * p.sz, none⟩)) hl' hcl hM (Nat.lt_of_lt_of_le hlt hL.size) h1 hpl hw hn hm hle rfl (by split <;> rfl) rfl
        by_cases hck : cap - k = 0
        · -- no room: the address does not matter
          have hn0 : n = 0 := by omega
          subst hn0
          rw [hck]
          exact .roN (Pay.cut_len k 0 hle) (by omega) (by simp)
        · rw [if_neg (by omega)] at this
          rw [had hck]
          rw [Nat.zero_add, hs] at this
          exact this
  | aptr o j off =>
    simp only [isOf] at ha
    have := Nat.eq_of_beq_eq_true ha; subst this
    simp only [frozenAs, Nat.beq_refl, cond_true]
    cases hr with | aptr e hj =>
    rw [hc] at e; cases e
    rcases read with ⟨e, _⟩ | ⟨g', cap', e, hn, hm, hlt, hcl, hM⟩
    · cases e
    · cases e
      have := RepV.eptr (i := j) (off := off) hl' hcl hM (Nat.lt_of_lt_of_le hlt hL.size) h1 hpl hw hj
      rw [Nat.zero_add, hs] at this
      exact this
  | ptr o off =>
    simp only [isOf] at ha
    simp only [frozenAs, lose, isOf, ha, cond_true]
    exact .top _
  | mapo o =>
    simp only [isOf] at ha
    simp only [frozenAs, lose, isOf, ha, cond_true]
    exact .top _
  | _ => cases ha

/-- What is frozen is read from now on. -/
theorem frozen_rep {i : Nat} {p : Pay AV} {c : CObj} {M : Nat → Prop} {ρ' : List CObj} {E : Nat} (hE : Env tt w Mx ρ hp) (hi : hget hp i = .arr E p) (hc : ρ[i]? = some c)
    (hL : Later w (Mof Mx ρ) w' M) (hblk : ∀ b, c.block? = some b → ¬ M b ∧ w'.heap[b]? = w.heap[b]?) (hρ : ∀ (o : Nat) (d : CObj), o ≠ i → ρ[o]? = some d → ρ'[o]? = some d) :
    ∀ a v, isRef a = true → RepV w (Mof Mx ρ) ρ a v → RepV w' M ρ' (frozenAs i p a) v := by
  intro a v ha hr
  cases hof : isOf i a with
  | true => exact frozenSelf_rep hE hi hc hL hblk ρ' a v hof hr
  | false =>
    have ne : ∀ {o : Nat}, Nat.beq o i = false → o ≠ i := fun h e => by subst e; simp at h
    cases a with
    | own o =>
      simp only [isOf] at hof
      simp only [frozenAs, hof, cond_false]
      cases hr with | own e e1 => exact .own (hρ _ _ (ne hof) e) e1
    | sub o k n =>
      simp only [isOf] at hof
      simp only [frozenAs, hof, cond_false]
      cases hr with
      | subN e => exact .subN (hρ _ _ (ne hof) e)
      | sub e hle had => exact .sub (hρ _ _ (ne hof) e) hle had
    | aptr o j off =>
      simp only [isOf] at hof
      simp only [frozenAs, hof, cond_false]
      cases hr with | aptr e hj => exact .aptr (hρ _ _ (ne hof) e) hj
    | ptr o off =>
      simp only [isOf] at hof
      simp only [frozenAs, lose, isOf, hof, cond_false]
      cases hr with | ptr e => exact .ptr (hρ _ _ (ne hof) e)
    | mapo o =>
      simp only [isOf] at hof
      simp only [frozenAs, lose, isOf, hof, cond_false]
      cases hr with | mapo e => exact .mapo (hρ _ _ (ne hof) e)
    | _ => cases ha

/-- No reference to what moves. -/
theorem lose_rep {i : Nat} {M : Nat → Prop} {ρ' : List CObj} (_hL : Later w (Mof Mx ρ) w' M) (hρ : ∀ (o : Nat) (d : CObj), o ≠ i → ρ[o]? = some d → ρ'[o]? = some d) :
    ∀ a v, isRef a = true → RepV w (Mof Mx ρ) ρ a v → RepV w' M ρ' (lose i a) v := by
  intro a v ha hr
  unfold lose
  cases hof : isOf i a with
  | true => exact .top _
  | false =>
    simp only [cond_false]
    have ne : ∀ {o : Nat}, Nat.beq o i = false → o ≠ i := fun h e => by subst e; simp at h
    cases a with
    | own o => simp only [isOf] at hof; cases hr with | own e e1 => exact .own (hρ _ _ (ne hof) e) e1
    | sub o k n =>
      simp only [isOf] at hof
      cases hr with
      | subN e => exact .subN (hρ _ _ (ne hof) e)
      | sub e hle had => exact .sub (hρ _ _ (ne hof) e) hle had
    | aptr o j off => simp only [isOf] at hof; cases hr with | aptr e hj => exact .aptr (hρ _ _ (ne hof) e) hj
    | ptr o off => simp only [isOf] at hof; cases hr with | ptr e => exact .ptr (hρ _ _ (ne hof) e)
    | mapo o => simp only [isOf] at hof; cases hr with | mapo e => exact .mapo (hρ _ _ (ne hof) e)
    | _ => cases ha

theorem mapRefs_eq (f : AV → AV) (s : St) : s.mapRefs f = ⟨s.fr.map (mapv f 4), s.hp.map (mapObj f)⟩ := rfl

theorem Rel.freeze (h : Rel tt w0 FP Mx ρ0 ρ s a w) (i : Nat) : ∃ ρ', Rel tt w0 FP Mx ρ0 ρ' (s.freeze i) a w ∧ (∀ b, Mof Mx ρ' b → Mof Mx ρ b) ∧
    (∀ E p c b, hget s.hp i = .arr E p → ρ[i]? = some c → c.block? = some b → ¬ Mof Mx ρ' b) ∧ (∀ j c, ρ[j]? = some c → ρ'[j]? = some c ∨ (j = i ∧ ρ'[j]? = some .gone)) := by
  unfold St.freeze
  split
  · rename_i E p hi
    obtain ⟨c, hc, hr⟩ := h.env.at (hget_some hi (by simp))
    have hlt : i < ρ.length := by
      rcases Nat.lt_or_ge i ρ.length with h' | h'
      · exact h'
      · rw [List.getElem?_eq_none h'] at hc; cases hc
    have hsub : ∀ b, Mof Mx (ρ.set i .gone) b → Mof Mx ρ b := by
      rintro b (hb | ⟨d, hd, hb⟩)
      · exact .inl hb
      · rcases List.mem_or_eq_of_mem_set hd with hd | rfl
        · exact .inr ⟨d, hd, hb⟩
        · cases hb
    have hnot : ∀ b, c.block? = some b → ¬ Mof Mx (ρ.set i .gone) b := by
      rintro b hb (hm | ⟨d, hd, hm⟩)
      · exact h.env.mx i c b hc hb hm
      · obtain ⟨j, hj⟩ := List.getElem?_of_mem hd
        by_cases e : i = j
        · subst e
          rw [List.getElem?_set_self hlt] at hj
          cases hj; cases hm
        · rw [List.getElem?_set_ne e] at hj
          exact h.env.sep i j c d b e hc hj hb hm
    refine ⟨ρ.set i .gone, ?_, hsub, ?_, ?_⟩
    · refine h.change (w' := w) (c' := .gone) hc rfl rfl rfl (Nat.le_refl _) (fun _ _ _ => rfl) (fun b hb => by cases hb) ?_ ?_ (.dead _ rfl)
      · intro b e; subst e; cases hr
      · refine frozen_rep h.env hi hc ⟨Nat.le_refl _, fun _ _ _ => rfl, fun b _ hb => hsub b hb⟩ (fun b hb => ⟨hnot b hb, rfl⟩) ?_
        intro o d hne hd
        rw [List.getElem?_set_ne (fun e => hne e.symm)]; exact hd
    · intro E' p' c' b hE' hc' hb
      rw [hc] at hc'; cases hc'
      exact hnot b hb
    · intro j d hd
      by_cases e : j = i
      · subst e; exact .inr ⟨rfl, by rw [List.getElem?_set_self hlt]⟩
      · left; rw [List.getElem?_set_ne (fun h => e h.symm)]; exact hd
  · rename_i hne
    exact ⟨ρ, h, fun _ hb => hb, fun E p c b he => absurd he (hne E p), fun j c hc => .inl hc⟩
end
end Go.Proofs.YtcmhpngmjjcloaaGm
