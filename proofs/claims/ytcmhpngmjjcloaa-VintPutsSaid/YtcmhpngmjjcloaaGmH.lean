/- A part of a reader of loaded code that is proved sound; no condition. -/
import Derived.Test.YtcmhpngmjjcloaaGmG
import Derived.Test.YtcmhpngmjjcloaaGmCps
namespace Go.Proofs.YtcmhpngmjjcloaaGm

section
variable {P : Program} {tt : Tab} {w : World} {Mx : Nat → Prop} {ρ : List CObj} {hp : List AObj}

theorem eta1_eq {t : Nat} {v r : AV} (h : eta1 (R := Option AV) none tt t v some = some r) : r = v := by
  unfold eta1 at h
  split at h
  · split at h
    · cases hc : isBool v <;> simp only [hc, cond_true, cond_false] at h <;> cases h
      cases v <;> simp [isBool] at hc; rfl
    · rename_i kk _
      cases hc : isInt kk v <;> simp only [hc, cond_true, cond_false] at h <;> cases h
      cases v <;> simp [isInt] at hc
      have := ikEq_eq hc; subst this; rfl
    · cases hc : isStr v <;> simp only [hc, cond_true, cond_false] at h <;> cases h
      cases v <;> simp [isStr] at hc; rfl
    · rename_i el _
      cases hc : isRo (emptyPay tt el) v <;> simp only [hc, cond_true, cond_false] at h <;> cases h
      cases v <;> simp [isRo] at hc
      rename_i p
      generalize emptyPay tt el = e at *
      cases e <;> cases p <;> simp only [kindOfPay] at hc <;> try (cases hc)
      · rfl
      · have := ikEq_eq hc; subst this; rfl
      · have := Nat.eq_of_beq_eq_true hc; subst this; rfl
    · cases h; rfl
  · cases h

theorem elim_some {α β : Type} {x : Option α} {f : α → Option β} {b : β} (h : x.elim none f = some b) : ∃ a, x = some a ∧ f a = some b := by
  cases x with
  | none => cases h
  | some a => exact ⟨a, rfl, h⟩

theorem etaL_eq : ∀ {ts : List Nat} {ls rs : List AV} {i : Nat}, etaL (R := Option (List AV)) none tt ls ts i some = some rs →
    rs.length = ts.length ∧ ∀ j, j < ts.length → rs[j]? = some (nth ls (i + j))
  | [], ls, rs, i, h => by simp only [etaL, Option.some.injEq] at h; subst h; simp
  | t :: ts, ls, rs, i, h => by
    simp only [etaL] at h
    rw [eta1_cps] at h
    obtain ⟨v, hv, h⟩ := elim_some h
    rw [etaL_cps] at h
    obtain ⟨vs, hvs, h⟩ := elim_some h
    cases h
    have := etaL_eq hvs
    have e := eta1_eq hv
    refine ⟨by simp [this.1], fun j hj => ?_⟩
    cases j with
    | zero => simp [e]
    | succ j =>
      simp only [List.getElem?_cons_succ]
      rw [this.2 j (by simpa using hj)]
      congr 2; omega

def isAggT : AT → Bool
  | .struct _ => true
  | .array _ _ => true
  | _ => false

theorem run_isAgg_of {t : Nat} {e : TyE} (h : TyOk P t e) : (isAgg t).run P w = .ok (isAggT e.d) w := by
  obtain ⟨d, h1, h2⟩ := h.desc
  unfold isAgg
  rw [Sem.run_bind, run_underlying h1, Result.andThen_ok, ← h2]
  cases d <;> rfl

theorem run_sizeOf_of {t : Nat} {e : TyE} (h : TyOk P t e) : (sizeOf t).run P w = .ok e.size w := by
  obtain ⟨i, h1, _, h2, _⟩ := h.info'
  simp [sizeOf, typeInfo, h1, h2]

theorem addr_add (b o j : Nat) : (⟨b, o, none⟩ : Addr).add j = ⟨b, o + j, none⟩ := by unfold Addr.add; split <;> simp_all

/-- A scalar's load. -/
theorem run_loadVar_one {t : Nat} {e : TyE} (h : TyOk P t e) (hd : isAggT e.d = false) {b o : Nat} {u : Value}
    (hc : w.cell? ⟨b, o, none⟩ = some u) : (loadVar t ⟨b, o, none⟩).run P w = .ok u w := by
  simp [loadVar, run_isAgg_of h, hd, hc]

theorem run_loadVar_agg {t : Nat} {e : TyE} (h : TyOk P t e) (hd : isAggT e.d = true) {b o : Nat} {us : List Value}
    (hc : CellsAt w b o us) (hl : us.length = e.size) : (loadVar t ⟨b, o, none⟩).run P w = .ok (.agg us.toArray) w := by
  have := run_loadCells_list (P := P) w ⟨b, o, none⟩ us (fun j v hv => by rw [addr_add]; exact hc j v hv)
  rw [hl] at this
  simp [loadVar, run_isAgg_of h, hd, run_sizeOf_of h, this]

theorem take_drop_get {α : Type} (l : List α) (a n j : Nat) (hj : j < n) : ((l.drop a).take n)[j]? = l[a + j]? := by
  rw [List.getElem?_take, if_pos hj, List.getElem?_drop]

/-- What a row holds at a place is loaded. -/
theorem ldPay_sound (hT : TabOk P tt) {t i off : Nat} {p : Pay AV} {us : List Value} {b base : Nat} {r : AV} {M : Nat → Prop} (hl : RepL w M ρ p.cells us) (hc : CellsAt w b base us) (hw : p.wf) (hi : i < p.len)
    (h1 : ∀ u ∈ us, u.oneCell' = true)
    (h : ldPay (R := Option AV) none tt t p i off some = some r) : ∃ u, (loadVar t ⟨b, base + i * p.sz + off, none⟩).run P w = .ok u w ∧ RepV w M ρ r u := by
  unfold ldPay at h
  cases he : tget tt t with
  | none => simp only [he] at h; cases h
  | some e =>
    simp only [he] at h
    have hok := hT t e he
    cases hb : (Nat.ble (off + e.size) p.sz && Nat.blt 0 e.size) <;> simp only [hb, cond_true, cond_false] at h
    · cases h
    simp only [Bool.and_eq_true] at hb
    have hsz : off + e.size ≤ p.sz := Nat.le_of_ble_eq_true hb.1
    have hpos : 0 < e.size := by have := hb.2; simp [Nat.blt] at this; omega
    have hlen : us.length = p.len * p.sz := by rw [← hl.length]; exact Pay.cells_length hw
    have hin : i * p.sz + p.sz ≤ us.length := by
      rw [hlen, ← Nat.succ_mul]; exact Nat.mul_le_mul_right _ hi
    have hcells : CellsAt w b (base + i * p.sz + off) ((us.drop (i * p.sz + off)).take e.size) := by
      have := (hc.drop (i * p.sz + off)).take e.size
      rw [show base + i * p.sz + off = base + (i * p.sz + off) by omega]; exact this
    have hleaf : RepL w M ρ (((p.leaves i).drop off).take e.size) ((us.drop (i * p.sz + off)).take e.size) := by
      rw [Pay.leaves_eq hw i hi]
      have := (hl.drop (i * p.sz + off)).take e.size
      rw [List.drop_take, List.take_take, List.drop_drop, Nat.min_eq_left (by omega)]
      exact this
    have hlen2 : ((us.drop (i * p.sz + off)).take e.size).length = e.size := by simp; omega
    have h1' : ∀ u ∈ (us.drop (i * p.sz + off)).take e.size, u.oneCell' = true := fun u hu => h1 u (List.mem_of_mem_drop (List.mem_of_mem_take hu))
    have scalar : isAggT e.d = false → r = p.leaf i off → ∃ u, (loadVar t ⟨b, base + i * p.sz + off, none⟩).run P w = .ok u w ∧ RepV w M ρ r u := by
      intro hd hr
      obtain ⟨u, hu⟩ : ∃ u, us[i * p.sz + off]? = some u := ⟨us[i * p.sz + off]'(by omega), List.getElem?_eq_getElem (by omega)⟩
      refine ⟨u, run_loadVar_one hok hd (by rw [Nat.add_assoc]; exact hc _ _ hu), ?_⟩
      have hr2 := hl.get _ _ hu
      have e2 : nth p.cells (i * p.sz + off) = p.leaf i off := by
        rw [Pay.leaf_eq hw i off hi (by omega), Pay.leaves_eq hw i hi, nth_eq_getElem?, nth_eq_getElem?, take_drop_get _ _ _ _ (by omega)]
      rw [hr, ← e2]; exact hr2
    split at h
    · rename_i fs hfs
      rw [etaL_cps] at h
      obtain ⟨ls, hls, h⟩ := elim_some h
      cases h
      have := etaL_eq hls
      refine ⟨.agg ((us.drop (i * p.sz + off)).take e.size).toArray, run_loadVar_agg hok (by rw [hfs]; rfl) hcells hlen2, .agg ?_ h1'⟩
      refine RepL.of_get (by rw [this.1, hok.leaf, hlen2]) fun j a v ha hv => ?_
      have hj : j < e.leaf.length := by
        rcases Nat.lt_or_ge j e.leaf.length with hj | hj
        · exact hj
        · rw [List.getElem?_eq_none (by rw [this.1]; exact hj)] at ha; cases ha
      rw [this.2 j hj] at ha
      cases ha
      rw [Nat.zero_add]
      exact hleaf.get j v hv
    · rename_i n E hfs
      cases hsc : (((p.leaves i).drop off).take e.size).all scalarLeaf <;> simp only [hsc, cond_true, cond_false] at h <;> cases h
      exact ⟨.agg ((us.drop (i * p.sz + off)).take e.size).toArray, run_loadVar_agg hok (by rw [hfs]; rfl) hcells hlen2, .arr hleaf h1' fun a ha => List.all_eq_true.1 hsc a ha⟩
    · cases h
    · rename_i hns hna hno
      have hd : isAggT e.d = false := by
        cases hdd : e.d <;> simp_all [isAggT]
      split at h
      · exact scalar hd (eta1_eq h)
      · cases h; exact scalar hd rfl

theorem ldVar_sound (hT : TabOk P tt) {t off : Nat} {cs : List AV} {us : List Value} {b : Nat} {r : AV} {M : Nat → Prop} (hl : RepL w M ρ cs us) (hc : CellsAt w b 0 us)
    (h1 : ∀ u ∈ us, u.oneCell' = true) (h : ldVar (R := Option AV) none tt t cs off some = some r) : ∃ u, (loadVar t ⟨b, off, none⟩).run P w = .ok u w ∧ RepV w M ρ r u := by
  unfold ldVar at h
  cases he : tget tt t with
  | none => simp only [he] at h; cases h
  | some e =>
    simp only [he] at h
    have hok := hT t e he
    have scalar : isAggT e.d = false → r = nth cs off → r ≠ .top → ∃ u, (loadVar t ⟨b, off, none⟩).run P w = .ok u w ∧ RepV w M ρ r u := by
      intro hd hr hnt
      have hlt : off < us.length := by
        rcases Nat.lt_or_ge off us.length with hj | hj
        · exact hj
        · exfalso; apply hnt; rw [hr, nth_eq_getElem?, List.getElem?_eq_none (by rw [hl.length]; exact hj)]; rfl
      have hu : us[off]? = some us[off] := List.getElem?_eq_getElem hlt
      exact ⟨us[off], run_loadVar_one hok hd (by have := hc _ _ hu; rw [Nat.zero_add] at this; exact this), by rw [hr]; exact hl.get _ _ hu⟩
    have aggl : ∀ hle : off + e.size ≤ cs.length, RepL w M ρ ((cs.drop off).take e.size) ((us.drop off).take e.size) ∧ CellsAt w b off ((us.drop off).take e.size) ∧ ((us.drop off).take e.size).length = e.size ∧
        ∀ u ∈ (us.drop off).take e.size, u.oneCell' = true := by
      intro hle
      refine ⟨(hl.drop _).take _, ?_, by rw [hl.length] at hle; simp; omega, fun u hu => h1 u (List.mem_of_mem_drop (List.mem_of_mem_take hu))⟩
      have := (hc.drop off).take e.size
      rw [Nat.zero_add] at this; exact this
    have eta : eta1 (R := Option AV) none tt t (nth cs off) some = some r → (match e.d with | .int _ | .bool | .str => true | _ => false) = true → r = nth cs off ∧ r ≠ .top := by
      intro h hd
      have := eta1_eq h
      refine ⟨this, ?_⟩
      rintro rfl
      rw [← this] at h
      unfold eta1 at h
      simp only [he] at h
      cases hdd : e.d <;> simp [hdd, isInt, isBool, isStr] at h hd
    split at h
    · rename_i fs hfs
      cases hb : Nat.ble (off + e.size) cs.length <;> simp only [hb, cond_true, cond_false] at h <;> cases h
      obtain ⟨g1, g2, g3, g4⟩ := aggl (Nat.le_of_ble_eq_true hb)
      exact ⟨_, run_loadVar_agg hok (by rw [hfs]; rfl) g2 g3, .agg g1 g4⟩
    · rename_i n E hfs
      cases hb : (Nat.ble (off + e.size) cs.length && ((cs.drop off).take e.size).all scalarLeaf) <;> simp only [hb, cond_true, cond_false] at h <;> cases h
      simp only [Bool.and_eq_true] at hb
      obtain ⟨g1, g2, g3, g4⟩ := aggl (Nat.le_of_ble_eq_true hb.1)
      exact ⟨_, run_loadVar_agg hok (by rw [hfs]; rfl) g2 g3, .arr g1 g4 fun a ha => List.all_eq_true.1 hb.2 a ha⟩
    · rename_i k hfs
      obtain ⟨e1, e2⟩ := eta h (by rw [hfs])
      exact scalar (by rw [hfs]; rfl) e1 e2
    · rename_i hfs
      obtain ⟨e1, e2⟩ := eta h (by rw [hfs])
      exact scalar (by rw [hfs]; rfl) e1 e2
    · rename_i hfs
      obtain ⟨e1, e2⟩ := eta h (by rw [hfs])
      exact scalar (by rw [hfs]; rfl) e1 e2
    · cases h
    · have hd : isAggT e.d = false := by
        cases hdd : e.d <;> simp_all [isAggT]
      unfold notTop at h
      split at h
      · cases h
      · rename_i hnt
        cases h
        exact scalar hd rfl hnt

theorem cellsAt_block {b : Nat} {us : List Value} {T : Nat} {fz : Nat × Nat} (h : w.heap[b]? = some (.cells us.toArray T fz)) : CellsAt w b 0 us := by
  intro j u hu
  rw [Nat.zero_add, cell_of_row w b j _ T fz h]
  simpa using hu

theorem aload_sound (hT : TabOk P tt) (hE : Env tt w Mx ρ hp) {t : Nat} {a r : AV} {u : Value} (ha : RepV w (Mof Mx ρ) ρ a u) (h : aload (R := Option AV) none tt hp t a some = some r) :
    Gives P w (Mof Mx ρ) ρ (Instr.loadAt t u) r := by
  unfold aload at h
  split at h
  · rename_i o off
    split at h
    · rename_i T cs ho
      obtain ⟨c, hc, hr⟩ := hE.at (hget_some ho (by simp))
      cases ha with | ptr e =>
      rw [hc] at e; cases e
      cases hr with | var hb hl h1 =>
      obtain ⟨v, hv, hrv⟩ := ldVar_sound hT hl (cellsAt_block hb) h1 h
      exact .same (by simp [Instr.loadAt, Instr.sureAddr, hv]) hrv
    · cases h
  · rename_i p i off
    cases ha with | eptr hl hc hb hlt h1 hpl hw hi =>
    obtain ⟨v, hv, hrv⟩ := ldPay_sound hT hl hc hw hi h1 h
    exact .same (by simp [Instr.loadAt, Instr.sureAddr, hv]) hrv
  · rename_i o i off
    split at h
    · rename_i E p ho
      obtain ⟨c, hc, hr⟩ := hE.at (hget_some ho (by simp))
      cases ha with | aptr e hi =>
      rw [hc] at e; cases e
      cases hr with | arr hro hl h1 hpl hw hs hE' =>
      rcases ownsRow_cells hro with ⟨h0, _⟩ | ⟨g, cap, he, hn, hm, hlt, hcl⟩
      · cases h0
      · cases he
        obtain ⟨v, hv, hrv⟩ := ldPay_sound hT hl hcl hw hi h1 h
        rw [Nat.zero_add, hs] at hv
        exact .same (by simp [Instr.loadAt, Instr.sureAddr, hv]) hrv
    · cases h
  · cases h
end
end Go.Proofs.YtcmhpngmjjcloaaGm
