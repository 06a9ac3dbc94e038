/- A part of a reader of loaded code that is proved sound; no condition. -/
import Derived.Test.YtcmhpngmjjcloaaGmH
namespace Go.Proofs.YtcmhpngmjjcloaaGm

section
variable {P : Program} {tt : Tab} {w : World} {Mx : Nat → Prop} {ρ : List CObj} {hp : List AObj}

theorem szOk_some (hT : TabOk P tt) {E n : Nat} (h : szOk tt E n = true) : ∃ e, TyOk P E e ∧ e.size = n ∧ (∀ w : World, (sizeOf E).run P w = .ok n w) := by
  unfold szOk at h
  cases he : tget tt E with
  | none => simp [he] at h
  | some e =>
    simp only [he] at h
    have := Nat.eq_of_beq_eq_true h
    exact ⟨e, hT E e he, this, fun w => by rw [run_sizeOf_of (hT E e he), this]⟩

theorem inB_spec {i : Int} {n : Nat} (h : inB i n = true) : 0 ≤ i ∧ i < n := by simpa [inB] using h

/-- An index address into a slice. -/
theorem run_indexAt_slice {t E n cap sz b o : Nat} {k : IntKind} {i : Int} (ht : P.underlying t = some (.slice E)) (hs : (sizeOf E).run P w = .ok sz w) (h0 : 0 ≤ i) (h1 : i < n) :
    (Instr.indexAt t (.slice (some ⟨b, o, none⟩) n cap) (.int k i)).run P w = .ok (.pointer (some ⟨b, o + i.toNat * sz, none⟩)) w := by
  simp [Instr.indexAt, asIntOf, run_underlying ht, h0, h1, hs, addr_add]

theorem aindexAddr_sound (hT : TabOk P tt) (hE : Env tt w Mx ρ hp) {t : Nat} {x i r : AV} {u v : Value} (hx : RepV w (Mof Mx ρ) ρ x u) (hi : RepV w (Mof Mx ρ) ρ i v)
    (h : aindexAddr (R := Option AV) none tt hp t x i some = some r) : Gives P w (Mof Mx ρ) ρ (Instr.indexAt t u v) r := by
  unfold aindexAddr at h
  split at h
  · rename_i e k i he
    have hok := hT t e he
    cases hi with | int hk =>
    split at h
    · rename_i E p hd
      cases hb : (szOk tt E p.sz && inB i p.len) <;> simp only [hb, cond_true, cond_false] at h <;> cases h
      simp only [Bool.and_eq_true] at hb
      obtain ⟨eE, hokE, _, hsz⟩ := szOk_some hT hb.1
      obtain ⟨h0, h1⟩ := inB_spec hb.2
      cases hx with
      | roN hn => omega
      | ro hl hc hbM hlt h1' hpl hw hcap hm =>
        refine .same (run_indexAt_slice (hok.slice hd) (hsz w) h0 h1) ?_
        exact .eptr hl hc hbM hlt h1' hpl hw (by omega)
    · rename_i E o hd
      split at h
      · rename_i E' p ho
        cases hb : (szOk tt E p.sz && inB i p.len) <;> simp only [hb, cond_true, cond_false] at h <;> cases h
        simp only [Bool.and_eq_true] at hb
        obtain ⟨eE, hokE, _, hsz⟩ := szOk_some hT hb.1
        obtain ⟨h0, h1⟩ := inB_spec hb.2
        obtain ⟨c, hc, hr⟩ := hE.at (hget_some ho (by simp))
        cases hx with | own h' =>
        rw [hc] at h'; cases h'
        cases hr with | arr hro hl h1' hpl hw hs hE' =>
        rcases ownsRow_cells hro with ⟨rfl, hz⟩ | ⟨g, cap, rfl, hn, hm, hlt, hcl⟩
        · omega
        · have := run_indexAt_slice (P := P) (w := w) (k := k) (n := p.len) (cap := cap) (b := g) (o := 0) (hok.slice hd) (hsz w) h0 h1
          refine .same this ?_
          rw [Nat.zero_add, hs]
          exact .aptr (off := 0) hc (by omega)
      · cases h
    · rename_i E o a n hd
      split at h
      · rename_i E' p ho
        cases hb : (szOk tt E p.sz && inB i n) <;> simp only [hb, cond_true, cond_false] at h <;> cases h
        simp only [Bool.and_eq_true] at hb
        obtain ⟨eE, hokE, _, hsz⟩ := szOk_some hT hb.1
        obtain ⟨h0, h1⟩ := inB_spec hb.2
        obtain ⟨c, hc, hr⟩ := hE.at (hget_some ho (by simp))
        cases hx with
        | subN h' => omega
        | @sub _ _ _ g m cap sz addr h' hle ha =>
          rw [hc] at h'; cases h'
          cases hr with | arr hro hl h1' hpl hw hs hE' =>
          rcases ownsRow_cells hro with ⟨h0', _⟩ | ⟨g', cap', he', hn, hm, hlt, hcl⟩
          · cases h0'
          · cases he'
            have hadr := ha (by omega)
            subst hadr
            have := run_indexAt_slice (P := P) (w := w) (k := k) (n := n) (cap := cap - a) (b := g) (o := a * sz) (hok.slice hd) (hsz w) h0 h1
            refine .same this ?_
            have e : a * sz + i.toNat * p.sz = (a + i.toNat) * sz + 0 := by rw [hs, Nat.add_mul]; rfl
            rw [e]
            exact .aptr hc (by omega)
      · cases h
    · rename_i n E o off hd
      split at h
      · rename_i eE heE
        cases hb : inB i n <;> simp only [hb, cond_true, cond_false] at h <;> cases h
        obtain ⟨h0, h1⟩ := inB_spec hb
        cases hx with | @ptr _ _ b hp' =>
        have := run_sizeOf_of (P := P) (w := w) (hT E eE heE)
        refine .same (u := .pointer (some ⟨b, off + i.toNat * eE.size, none⟩)) ?_ (.ptr hp')
        simp [Instr.indexAt, asIntOf, run_underlying (hok.array hd), Instr.sureAddr, h0, h1, this, addr_add]
      · cases h
    · cases h
  · cases h

theorem aindex_sound (hT : TabOk P tt) {M : Nat → Prop} {t : Nat} {x i r : AV} {u v : Value} (hx : RepV w M ρ x u) (hi : RepV w M ρ i v)
    (h : aindex (R := Option AV) none tt t x i some = some r) : Gives P w M ρ (Instr.index t u v) r := by
  unfold aindex at h
  split at h
  · rename_i e k i he
    have hok := hT t e he
    cases hi with | int hk =>
    split at h
    · rename_i s hd
      cases hb : inB i s.length <;> simp only [hb, cond_true, cond_false] at h <;> cases h
      obtain ⟨h0, h1⟩ := inB_spec hb
      cases hx with | @str s hs =>
      have hlt : i.toNat < s.size := by simp at h1; omega
      have hget : s[i.toNat]? = some s[i.toNat] := by simp [getElem?_pos, hlt]
      refine .same (u := .int .u8 s[i.toNat].toNat) ?_ ?_
      · simp [Instr.index, asIntOf, run_underlying (hok.str hd), h0, hget]
      · have e : s.data.toList.getD i.toNat 0 = s[i.toNat] := by
          have hlt' : i.toNat < s.data.size := hlt
          simp only [List.getD, Array.getElem?_toList]
          rw [Array.getElem?_eq_getElem hlt']
          rfl
        rw [e]
        refine .int ?_
        have := s[i.toNat].toNat_lt
        simp [IntKind.has, IntKind.min, IntKind.max, IntKind.signed, IntKind.bits]
        omega
    · rename_i n E l hd
      split at h
      · rename_i k' sz by' zv lf heE
        cases hb : (Nat.beq sz 1 && inB i n) <;> simp only [hb, cond_true, cond_false] at h
        · cases h
        simp only [Bool.and_eq_true] at hb
        have hs1 := Nat.eq_of_beq_eq_true hb.1
        subst hs1
        obtain ⟨h0, h1⟩ := inB_spec hb.2
        have hr := eta1_eq h
        have hokE := hT E _ heE
        cases hx with | @arr _ vs hl h1' hp' =>
        have hlt : i.toNat < vs.length := by
          rcases Nat.lt_or_ge i.toNat vs.length with hj | hj
          · exact hj
          · exfalso
            have : nth l i.toNat = .top := by rw [nth_eq_getElem?, List.getElem?_eq_none (by rw [hl.length]; exact hj)]; rfl
            rw [this] at h
            unfold eta1 at h
            simp [heE, isInt] at h
        have hg : vs[i.toNat]? = some vs[i.toNat] := List.getElem?_eq_getElem hlt
        have hsz := run_sizeOf_of (P := P) (w := w) hokE
        have hag := run_isAgg_of (P := P) (w := w) hokE
        refine .same (u := vs[i.toNat]) ?_ (by rw [hr]; exact hl.get _ _ hg)
        simp [Instr.index, asIntOf, run_underlying (hok.array hd), h0, h1, hsz, part, hag, hg, isAggT]
      · cases h
    · cases h
  · cases h

theorem fieldOff_some (hT : TabOk P tt) {s f fo ft : Nat} (h : fieldOff tt s f = some (fo, ft)) : ∃ (F : Array Field) (g : Field), P.underlying s = some (.struct F) ∧ F[f]? = some g ∧ g.offset = fo ∧ g.type = ft := by
  unfold fieldOff at h
  split at h
  · rename_i fs _ _ _ _ he
    obtain ⟨F, hF, hm⟩ := (hT s _ he).struct rfl
    rw [← hm] at h
    simp only [List.getElem?_map, Option.map_eq_some_iff] at h
    obtain ⟨g, hg, e⟩ := h
    cases e
    exact ⟨F, g, hF, by simpa using hg, rfl, rfl⟩
  · cases h

theorem afieldAddr_sound (hT : TabOk P tt) {M : Nat → Prop} {s f : Nat} {x r : AV} {u : Value} (hx : RepV w M ρ x u)
    (h : afieldAddr (R := Option AV) none tt s f x some = some r) : Gives P w M ρ (Instr.fieldAt s u f) r := by
  unfold afieldAddr at h
  split at h
  · rename_i fo ft hf
    obtain ⟨F, g, hF, hg, ho, hty⟩ := fieldOff_some hT hf
    split at h
    · rename_i e he
      cases hb : Nat.blt 0 e.size <;> simp only [hb, cond_true, cond_false] at h
      · cases h
      have hpos : ¬ e.size = 0 := by simp [Nat.blt] at hb; omega
      have hsz : (sizeOf g.type).run P w = .ok e.size w := by rw [hty]; exact run_sizeOf_of (hT ft e he)
      have run : ∀ b o : Nat, (Instr.fieldAt s (.pointer (some ⟨b, o, none⟩)) f).run P w = .ok (.pointer (some ⟨b, o + fo, none⟩)) w := by
        intro b o
        simp [Instr.fieldAt, run_underlying hF, hg, Instr.sureAddr, fieldPlace, hsz, hpos, addr_add, ho]
      split at h
      · cases h; cases hx with | ptr e => exact .same (run _ _) (.ptr e)
      · cases h; cases hx with | eptr hl hc hb hlt h1 hp hw hi => exact .same (run _ _) (by rw [Nat.add_assoc]; exact .eptr hl hc hb hlt h1 hp hw hi)
      · cases h; cases hx with | aptr e hi => exact .same (run _ _) (by rw [Nat.add_assoc]; exact .aptr e hi)
      · cases h
    · cases h
  · cases h

theorem afield_sound (hT : TabOk P tt) {M : Nat → Prop} {s f : Nat} {x r : AV} {u : Value} (hx : RepV w M ρ x u)
    (h : afield (R := Option AV) none tt s f x some = some r) : Gives P w M ρ (Instr.field s u f) r := by
  unfold afield at h
  split at h
  · rename_i fo ft l hf
    obtain ⟨F, g, hF, hg, ho, hty⟩ := fieldOff_some hT hf
    cases hx with | @agg _ vs hl h1 =>
    split at h
    · rename_i e he
      have hok := hT ft e he
      have hsz := run_sizeOf_of (P := P) (w := w) hok
      have hag := run_isAgg_of (P := P) (w := w) hok
      have hag2 : ∀ b, isAggT e.d = b → (isAgg ft).run P w = .ok b w := fun b hb => by rw [hag, hb]
      have cut : RepL w M ρ ((l.drop fo).take e.size) ((vs.drop fo).take e.size) := (hl.drop _).take _
      have c1 : ∀ u ∈ (vs.drop fo).take e.size, u.oneCell' = true := fun u hu => h1 u (List.mem_of_mem_drop (List.mem_of_mem_take hu))
      subst hty
      split at h
      · rename_i fs hd
        cases h
        refine .same (u := .agg ((vs.drop fo).take e.size).toArray) ?_ (.agg cut c1)
        simp [Instr.field, run_underlying hF, hg, asAgg, part, hag2 true (by rw [hd]; rfl), hsz, ho]
      · rename_i n E hd
        cases hb : ((l.drop fo).take e.size).all scalarLeaf <;> simp only [hb, cond_true, cond_false] at h <;> cases h
        refine .same (u := .agg ((vs.drop fo).take e.size).toArray) ?_ (.arr cut c1 fun a ha => List.all_eq_true.1 hb a ha)
        simp [Instr.field, run_underlying hF, hg, asAgg, part, hag2 true (by rw [hd]; rfl), hsz, ho]
      · rename_i hns hna
        have hd : isAggT e.d = false := by
          cases hdd : e.d <;> simp_all [isAggT]
        unfold notTop at h
        split at h
        · cases h
        · rename_i hnt
          cases h
          have hlt : fo < vs.length := by
            rcases Nat.lt_or_ge fo vs.length with hj | hj
            · exact hj
            · exfalso; apply hnt; rw [nth_eq_getElem?, List.getElem?_eq_none (by rw [hl.length]; exact hj)]; rfl
          have hgv : vs[fo]? = some vs[fo] := List.getElem?_eq_getElem hlt
          refine .same (u := vs[fo]) ?_ (hl.get _ _ hgv)
          simp [Instr.field, run_underlying hF, hg, asAgg, part, hag2 false hd, ho, hgv]
    · cases h
  · cases h

theorem optI_int {d n : Int} {o : Option AV} (h : optI d o = some n) : (o = none ∧ n = d) ∨ ∃ k, o = some (.int k n) := by
  unfold optI at h
  split at h
  · cases h; exact .inl ⟨rfl, rfl⟩
  · cases h; exact .inr ⟨_, rfl⟩
  · cases h

/-- The bounds' values. -/
def OptRep (w : World) (M : Nat → Prop) (ρ : List CObj) : Option AV → Option Value → Prop
  | none, none => True
  | some a, some v => RepV w M ρ a v
  | _, _ => False

theorem run_bounds {M : Nat → Prop} {isS : Bool} {len cap : Nat} {lo hi : Option AV} {lov hiv : Option Value} {l h : Int} (hlo : OptRep w M ρ lo lov) (hhi : OptRep w M ρ hi hiv)
    (e1 : optI 0 lo = some l) (e2 : optI len hi = some h) (h0 : 0 ≤ l) (h1 : l ≤ h) (h2 : h ≤ cap) (_hlc : len ≤ cap) :
    (Instr.sliceBounds isS len cap lov hiv none).run P w = .ok (l.toNat, h.toNat, cap) w := by
  have eh : (h.toNat : Int) = h := Int.toNat_of_nonneg (by omega)
  rcases optI_int e2 with ⟨rfl, rfl⟩ | ⟨k, rfl⟩
  · cases hiv with
    | some v => simp [OptRep] at hhi
    | none =>
      rcases optI_int e1 with ⟨rfl, rfl⟩ | ⟨k, rfl⟩
      · cases lov with
        | some v => simp [OptRep] at hlo
        | none => simp [Instr.sliceBounds]
      · cases lov with
        | none => simp [OptRep] at hlo
        | some v =>
          simp only [OptRep] at hlo
          cases hlo with | int =>
          simp [Instr.sliceBounds, run_sliceBound, h0, h1]
  · cases hiv with
    | none => simp [OptRep] at hhi
    | some v =>
      simp only [OptRep] at hhi
      cases hhi with | int =>
      have h0' : 0 ≤ h := by omega
      rcases optI_int e1 with ⟨rfl, rfl⟩ | ⟨k, rfl⟩
      · cases lov with
        | some v => simp [OptRep] at hlo
        | none => simp [Instr.sliceBounds, run_sliceBound, h0', h2]
      · cases lov with
        | none => simp [OptRep] at hlo
        | some v =>
          simp only [OptRep] at hlo
          cases hlo with | int =>
          simp [Instr.sliceBounds, run_sliceBound, h0, h0', h2, eh, h1]

theorem leI_spec {a b : Int} (h : leI a b = true) : a ≤ b := by simpa [leI] using h

theorem RepV.roCut {M : Nat → Prop} {p : Pay AV} {us : List Value} {b base cap a n c' : Nat} (hl : RepL w M ρ p.cells us) (hc : CellsAt w b base us) (hb : ¬ M b) (hlt : b < w.heap.size)
    (h1 : ∀ u ∈ us, u.oneCell' = true) (hp : ∀ a ∈ p.cells, pureLeaf a = true) (hw : p.wf) (hcap : p.len ≤ cap) (hm : cap ≤ maxLen) (hle : a + n ≤ p.len) (hc' : c' = cap - a) {ad : Option Addr}
    (had : ad = (if cap = a then some ⟨b, base, none⟩ else some ⟨b, base + a * p.sz, none⟩)) {q : Pay AV} (hq : q = p.cut a n) : RepV w M ρ (.ro q) (.slice ad n c') := by
  subst hq; subst hc'
  have hlen : (p.cut a n).len = n := Pay.cut_len a n hle
  rcases Nat.eq_zero_or_pos n with h0 | h0
  · subst h0
    refine .roN hlen (by omega) ?_
    intro h; rw [had] at h; split at h <;> cases h
  · rw [if_neg (by omega)] at had
    subst had
    have key : RepV w M ρ (.ro (p.cut a n)) (.slice (some ⟨b, base + a * p.sz, none⟩) (p.cut a n).len (cap - a)) := by
      refine .ro (us := (us.drop (a * p.sz)).take (n * p.sz)) ?_ ((hc.drop _).take _) hb hlt ?_ ?_ (Pay.cut_wf hw a n) (by omega) (by omega)
      · rw [Pay.cells_cut hw]; exact (hl.drop _).take _
      · exact fun u hu => h1 u (List.mem_of_mem_drop (List.mem_of_mem_take hu))
      · rw [Pay.cells_cut hw]; exact fun u hu => hp u (List.mem_of_mem_drop (List.mem_of_mem_take hu))
    rw [hlen] at key; exact key

theorem Pay.from_cut {p : Pay AV} (a : Nat) (h : a ≤ p.len) : p.from a = p.cut a (p.len - a) := by
  cases p <;> simp only [Pay.from, Pay.cut, Pay.len] at * <;> rw [List.take_of_length_le (by simp)]

theorem Pay.cut_zero_len {p : Pay AV} (h : p.len = 0) (a n : Nat) : (p.cut a n).len = 0 := by
  cases p <;> simp [Pay.cut, Pay.len] at * <;> subst h <;> simp

theorem aslice_sound (hT : TabOk P tt) (hE : Env tt w Mx ρ hp) {t : Nat} {x r : AV} {lo hi : Option AV} {u : Value} {lov hiv : Option Value} (hx : RepV w (Mof Mx ρ) ρ x u)
    (hlo : OptRep w (Mof Mx ρ) ρ lo lov) (hhi : OptRep w (Mof Mx ρ) ρ hi hiv)
    (h : aslice (R := Option AV) none tt hp t x lo hi some = some r) : Gives P w (Mof Mx ρ) ρ (Instr.sliceAt t u lov hiv none) r := by
  unfold aslice at h
  split at h
  case h_2 => cases h
  rename_i e he
  have hok := hT t e he
  split at h
  · rename_i s hd
    split at h
    case h_2 => cases h
    rename_i l hh e1 e2
    cases hb : (leI 0 l && leI l hh && leI hh s.length) <;> simp only [hb, cond_true, cond_false] at h <;> cases h
    simp only [Bool.and_eq_true] at hb
    obtain ⟨⟨b1, b2⟩, b3⟩ := hb
    have b1 := leI_spec b1; have b2 := leI_spec b2; have b3 := leI_spec b3
    cases hx with | @str s hs =>
    have hlen : s.data.toList.length = s.size := by simp
    rw [hlen] at b3 e2
    have hr := run_bounds (P := P) (w := w) (isS := false) (cap := s.size) hlo hhi e1 e2 b1 b2 b3 (Nat.le_refl _)
    refine .same (u := .string (s.extract l.toNat hh.toNat)) ?_ ?_
    · simp [Instr.sliceAt, run_underlying (hok.str hd), Instr.slice, hr]
    · have hsz : (s.extract l.toNat hh.toNat).size ≤ maxLen := by simp; omega
      have key := RepV.str (w := w) (M := Mof Mx ρ) (ρ := ρ) hsz
      have e3 : (s.extract l.toNat hh.toNat).data.toList = (s.data.toList.drop l.toNat).take (hh.toNat - l.toNat) := by
        simp [List.extract_eq_take_drop]
      rw [e3] at key
      cases hs' : isSome? hi with
      | true => simpa using key
      | false =>
        have : hi = none := by cases hi <;> simp [isSome?] at hs' ⊢
        subst this
        simp only [optI, Option.some.injEq] at e2
        subst e2
        rw [List.take_of_length_le (by simp)] at key
        simpa using key
  · rename_i E p hd
    split at h
    case h_2 => cases h
    rename_i l hh e1 e2
    cases hb : (szOk tt E p.sz && leI 0 l && leI l hh && leI hh p.len) <;> simp only [hb, cond_true, cond_false] at h <;> cases h
    simp only [Bool.and_eq_true] at hb
    obtain ⟨⟨⟨b0, b1⟩, b2⟩, b3⟩ := hb
    have b1 := leI_spec b1; have b2 := leI_spec b2; have b3 := leI_spec b3
    obtain ⟨eE, hokE, _, hsz⟩ := szOk_some hT b0
    have hcut : (bif isSome? hi then p.cut l.toNat (hh.toNat - l.toNat) else p.from l.toNat) = p.cut l.toNat (hh.toNat - l.toNat) := by
      cases hs' : isSome? hi with
      | true => rfl
      | false =>
        have : hi = none := by cases hi <;> simp [isSome?] at hs' ⊢
        subst this
        simp only [optI, Option.some.injEq] at e2
        subst e2
        rw [cond_false, Pay.from_cut _ (by omega)]; simp
    rw [hcut]
    cases hx with
    | @roN _ a cap hn hm hnn =>
      have hl0 : l = 0 := by omega
      have hh0 : hh = 0 := by omega
      subst hl0; subst hh0
      rw [hn] at e2
      have hr := run_bounds (P := P) (w := w) (isS := true) (len := 0) (cap := cap) hlo hhi e1 e2 (by omega) (by omega) (by omega) (by omega)
      refine .same (u := .slice (if cap = 0 then a else a.map (·.add (0 * p.sz))) 0 cap) ?_ (.roN (Pay.cut_zero_len hn _ _) hm ?_)
      · simp [Instr.sliceAt, run_underlying (hok.slice hd), Instr.slice, hr, hsz]
      · intro hq
        split at hq
        · assumption
        · cases a with
          | none => exact hnn rfl
          | some a => cases hq
    | @ro _ us b base cap hl hc hbM hlt h1 hpl hw hcap hm =>
      have hr := run_bounds (P := P) (w := w) (isS := true) (len := p.len) (cap := cap) hlo hhi e1 e2 b1 b2 (by omega) hcap
      refine .same (u := .slice (if cap = l.toNat then some ⟨b, base, none⟩ else some ⟨b, base + l.toNat * p.sz, none⟩) (hh.toNat - l.toNat) (cap - l.toNat)) ?_ ?_
      · simp only [Instr.sliceAt, run_underlying (hok.slice hd), Instr.slice, hr, hsz, Sem.run_bind, Result.andThen_ok, Sem.run_pure, Option.map_some, addr_add]
      · exact RepV.roCut hl hc hbM hlt h1 hpl hw hcap hm (by omega) rfl rfl rfl
  · rename_i E o hd
    split at h
    case h_2 => cases h
    rename_i E' p ho
    split at h
    case h_2 => cases h
    rename_i l hh e1 e2
    cases hb : (szOk tt E p.sz && leI 0 l && leI l hh && leI hh p.len) <;> simp only [hb, cond_true, cond_false] at h <;> cases h
    simp only [Bool.and_eq_true] at hb
    obtain ⟨⟨⟨b0, b1⟩, b2⟩, b3⟩ := hb
    have b1 := leI_spec b1; have b2 := leI_spec b2; have b3 := leI_spec b3
    obtain ⟨eE, hokE, _, hsz⟩ := szOk_some hT b0
    obtain ⟨c, hc, hr⟩ := hE.at (hget_some ho (by simp))
    cases hx with | own h' =>
    rw [hc] at h'; cases h'
    cases hr with | arr hro hl h1 hpl hw hs hE' =>
    rcases ownsRow_cells hro with ⟨rfl, hz⟩ | ⟨g, cap, rfl, hn, hm, hlt, hcl⟩
    · have hl0 : l = 0 := by omega
      have hh0 : hh = 0 := by omega
      subst hl0; subst hh0
      rw [hz] at e2
      have hr := run_bounds (P := P) (w := w) (isS := true) (len := 0) (cap := 0) hlo hhi e1 e2 (by omega) (by omega) (by omega) (by omega)
      refine .same (u := .slice none 0 0) ?_ (.subN hc)
      simp [Instr.sliceAt, run_underlying (hok.slice hd), Instr.slice, hr, hsz]
    · have hr := run_bounds (P := P) (w := w) (isS := true) (len := p.len) (cap := cap) hlo hhi e1 e2 b1 b2 (by omega) hn
      refine .same (u := .slice (some (if cap = l.toNat then ⟨g, 0, none⟩ else ⟨g, 0 + l.toNat * p.sz, none⟩)) (hh.toNat - l.toNat) (cap - l.toNat)) ?_ (.sub hc (by omega) ?_)
      · simp only [Instr.sliceAt, run_underlying (hok.slice hd), Instr.slice, hr, hsz, Sem.run_bind, Result.andThen_ok, Sem.run_pure, Option.map_some, addr_add]
        split <;> rfl
      · intro hne
        rw [if_neg (by omega), hs, Nat.zero_add]
  · rename_i E o a n hd
    split at h
    case h_2 => cases h
    rename_i E' p ho
    split at h
    case h_2 => cases h
    rename_i l hh e1 e2
    cases hb : (szOk tt E p.sz && leI 0 l && leI l hh && leI hh n) <;> simp only [hb, cond_true, cond_false] at h <;> cases h
    simp only [Bool.and_eq_true] at hb
    obtain ⟨⟨⟨b0, b1⟩, b2⟩, b3⟩ := hb
    have b1 := leI_spec b1; have b2 := leI_spec b2; have b3 := leI_spec b3
    obtain ⟨eE, hokE, _, hsz⟩ := szOk_some hT b0
    obtain ⟨c, hc, hr⟩ := hE.at (hget_some ho (by simp))
    cases hx with
    | subN h' =>
      rw [hc] at h'; cases h'
      have hl0 : l = 0 := by omega
      have hh0 : hh = 0 := by omega
      subst hl0; subst hh0
      have hr := run_bounds (P := P) (w := w) (isS := true) (len := 0) (cap := 0) hlo hhi e1 e2 (by omega) (by omega) (by omega) (by omega)
      refine .same (u := .slice none 0 0) ?_ (.subN hc)
      simp [Instr.sliceAt, run_underlying (hok.slice hd), Instr.slice, hr, hsz]
    | @sub _ _ _ g m cap sz addr h' hle ha =>
      rw [hc] at h'; cases h'
      cases hr with | arr hro hl h1 hpl hw hs hE' =>
      rcases ownsRow_cells hro with ⟨h0', _⟩ | ⟨g', cap', he', hn, hm, hlt, hcl⟩
      · cases h0'
      · cases he'
        have hr := run_bounds (P := P) (w := w) (isS := true) (len := n) (cap := cap - a) hlo hhi e1 e2 b1 b2 (by omega) (by omega)
        refine .same (u := .slice (some (if cap - a = l.toNat then addr else addr.add (l.toNat * p.sz))) (hh.toNat - l.toNat) (cap - (a + l.toNat))) ?_ (.sub hc (by omega) ?_)
        · simp only [Instr.sliceAt, run_underlying (hok.slice hd), Instr.slice, hr, hsz, Sem.run_bind, Result.andThen_ok, Sem.run_pure, Option.map_some]
          rw [show cap - a - l.toNat = cap - (a + l.toNat) by omega]
          split <;> rfl
        · intro hne
          have := ha (by omega)
          subst this
          rw [if_neg (by omega), addr_add, hs, Nat.add_mul]
  · rename_i E hd
    split at h
    case h_2 => cases h
    rename_i l hh e1 e2
    cases hb : (isTy tt E (fun _ => true) && leI 0 l && leI l hh && leI hh 0) <;> simp only [hb, cond_true, cond_false] at h <;> cases h
    simp only [Bool.and_eq_true] at hb
    obtain ⟨⟨⟨b0, b1⟩, b2⟩, b3⟩ := hb
    have b1 := leI_spec b1; have b2 := leI_spec b2; have b3 := leI_spec b3
    have hl0 : l = 0 := by omega
    have hh0 : hh = 0 := by omega
    subst hl0; subst hh0
    cases hx with | nil =>
    obtain ⟨eE, hokE, _⟩ := isTy_some hT b0
    have hsz := run_sizeOf_of (P := P) (w := w) hokE
    have hr := run_bounds (P := P) (w := w) (isS := true) (len := 0) (cap := 0) hlo hhi e1 e2 (by omega) (by omega) (by omega) (by omega)
    refine .same (u := .slice none 0 0) ?_ .nil
    simp [Instr.sliceAt, run_underlying (hok.slice hd), Instr.slice, hr, hsz]
  · cases h
end
end Go.Proofs.YtcmhpngmjjcloaaGm
