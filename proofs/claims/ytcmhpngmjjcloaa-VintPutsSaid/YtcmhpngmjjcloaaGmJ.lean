/- A part of a reader of loaded code that is proved sound; no condition. -/
import Derived.Test.YtcmhpngmjjcloaaGmI
import Derived.Lib.ConvBytes
import Derived.Below
namespace Go.Proofs.YtcmhpngmjjcloaaGm

section
variable {P : Program} {tt : Tab} {w : World} {Mx : Nat → Prop} {ρ : List CObj} {hp : List AObj}

theorem emptyPay_bytes (hT : TabOk P tt) {E : Nat} {l : List UInt8} (h : emptyPay tt E = .bytes l) : P.underlying E = some (.int .u8) ∧ l = [] := by
  unfold emptyPay at h
  split at h
  · rename_i he
    cases h
    exact ⟨(hT E _ he).int rfl, rfl⟩
  · cases h
  · cases h
  · cases h

theorem repL_bytes {M : Nat → Prop} : ∀ {l : List UInt8} {us : List Value}, RepL w M ρ (l.map fun b => AV.int .u8 b.toNat) us → us = l.map fun b => .int .u8 b.toNat
  | [], _, .nil => rfl
  | b :: l, _, .cons h t => by
    cases h
    simp [repL_bytes t]

theorem bytes_repL {M : Nat → Prop} : ∀ (l : List UInt8), RepL w M ρ (l.map fun b => AV.int .u8 b.toNat) (l.map fun b => .int .u8 b.toNat)
  | [] => .nil
  | b :: l => .cons (.int (by have := b.toNat_lt; simp [IntKind.has, IntKind.min, IntKind.max, IntKind.signed, IntKind.bits]; omega)) (bytes_repL l)

theorem foldl_push_bytes : ∀ (l : List UInt8) (s : ByteArray), ((l.map fun b => (b.toNat : Int)).foldl (fun r n => r.push (UInt8.ofNat n.toNat)) s).data.toList = s.data.toList ++ l
  | [], s => by simp
  | b :: l, s => by
    simp only [List.map_cons, List.foldl_cons]
    rw [foldl_push_bytes l]
    simp

theorem grew_alloc (o : Obj) : Grew w (w.alloc o) := ⟨rfl, rfl, rfl, by simp, fun b hb => Go.RowKit.Below.heap_alloc w o b hb⟩
theorem grew_drew : Grew w w.drew := ⟨rfl, rfl, rfl, Nat.le_refl _, fun _ _ => rfl⟩

theorem grew_bytesWorld (E : Nat) (s : ByteArray) : Grew w (Lib.bytesWorld w E s) := by
  refine ⟨?_, ?_, ?_, by rw [Lib.bytesWorld_size]; omega, fun b hb => Lib.bytesWorld_at_old w E s b hb⟩
  all_goals
    unfold Lib.bytesWorld World.freeze
    split <;> rfl

theorem aconv_sound (hT : TabOk P tt) (hE : Env tt w Mx ρ hp) {s d : Nat} {x r : AV} {u : Value} (hx : RepV w (Mof Mx ρ) ρ x u) (hM : ∀ b, Mof Mx ρ b → b < w.heap.size)
    (h : aconv (R := Option AV) none tt hp s d x some = some r) : Gives P w (Mof Mx ρ) ρ (convert s d u) r := by
  unfold aconv at h
  split at h
  case h_2 => cases h
  rename_i es ed hes hed
  have hos := hT s es hes
  have hod := hT d ed hed
  split at h
  · rename_i k' kk kx n e1 e2
    cases h
    cases hx with | int hk =>
    refine .same (u := .int kk (kk.wrap n)) ?_ (.int (wrap_has _ _))
    simp [convert, run_underlying (hos.int e1), run_underlying (hod.int e2), Conv.intToInt]
  · rename_i a e1 e2
    cases h
    cases hx with | @str z hs =>
    refine .same (u := .string z) ?_ (.str hs)
    simp [convert, run_underlying (hos.str e1), run_underlying (hod.str e2)]
  · rename_i E e1 e2
    split at h
    case h_2 => cases h
    rename_i l0 l hb hp'
    cases h
    obtain ⟨hu8, rfl⟩ := emptyPay_bytes hT hb
    obtain ⟨a, cap, us, rfl, hlc, hm, _, hcs⟩ := payOf_holds hE hx hp'
    simp only [Pay.len] at *
    have run : ∀ z : ByteArray, z.data.toList = l → (Conv.bytesToString (.slice a l.length cap)).run P w = .ok (.string z) w → Gives P w (Mof Mx ρ) ρ (convert s d (.slice a l.length cap)) (.str l) := by
      intro z hz hr
      refine .same (u := .string z) ?_ ?_
      · rw [run_convert_bytes_string w s d E a _ _ (hos.slice e1) hu8 (hod.str e2), hr]
      · have hzl : z.size = l.length := by rw [← hz]; simp
        have := RepV.str (w := w) (M := Mof Mx ρ) (ρ := ρ) (s := z) (by omega)
        rw [hz] at this; exact this
    rcases hcs with h0 | ⟨b, base, rfl, hlt, hl, hc, h1, hpl, hw⟩
    · have hnil : l = [] := List.eq_nil_of_length_eq_zero h0
      subst hnil
      refine run .empty rfl ?_
      cases a with
      | none => rfl
      | some a => exact run_bytesToString (P := P) w a 0 cap [] (by simp [loadCells, loadCellsFrom])
    · have hus := repL_bytes hl
      have hload := run_loadCells_list (P := P) w ⟨b, base, none⟩ us (fun j v hv => by rw [addr_add]; exact hc j v hv)
      have hul : us.length = l.length := by rw [hus]; simp
      rw [hul] at hload
      have := run_bytesToString (P := P) w ⟨b, base, none⟩ l.length cap (l.map fun b => (b.toNat : Int)) (by rw [hload, hus]; simp)
      exact run _ (by rw [foldl_push_bytes]; rfl) this
  · rename_i E a e1 e2
    split at h
    case h_2 => cases h
    rename_i l0 hb
    cases h
    obtain ⟨hu8, rfl⟩ := emptyPay_bytes hT hb
    cases hx with | @str z hs =>
    have hc1 : z.size ≤ grownCap w z.size 0 E := grownCap_ge w z.size 0 E
    have hc2 : grownCap w z.size 0 E ≤ maxLen := grownCap_le_maxLen w z.size 0 E hs
    have hrun := Lib.run_convert_string_bytes (P := P) w s d E z (hos.str e1) (hod.slice e2) hu8
    refine ⟨_, _, hrun, grew_bytesWorld E z, ?_⟩
    have hnew : ¬ Mof Mx ρ w.heap.size := fun h => absurd (hM _ h) (Nat.lt_irrefl _)
    rcases Nat.eq_zero_or_pos z.size with h0 | h0
    · rw [h0]
      refine .roN (show z.data.toList.length = 0 from by rw [Array.length_toList]; exact h0) (by rw [h0] at hc2; exact hc2) (by simp)
    · have key : RepV (Lib.bytesWorld w E z) (Mof Mx ρ) ρ (.ro (.bytes z.data.toList)) (.slice (some ⟨w.heap.size, 0, none⟩) (Pay.len (.bytes z.data.toList)) (grownCap w z.size 0 E)) := by
        refine .ro (us := z.data.toList.map fun b => .int .u8 b.toNat) (bytes_repL _) ?_ hnew (by rw [Lib.bytesWorld_size]; omega) ?_ ?_ trivial ?_ hc2
        · intro j u hu
          simp only [List.getElem?_map, Option.map_eq_some_iff] at hu
          obtain ⟨b, hb, rfl⟩ := hu
          have hj : j < z.size := by
            rcases Nat.lt_or_ge j z.data.toList.length with hj | hj
            · simpa using hj
            · rw [List.getElem?_eq_none hj] at hb; cases hb
          rw [Nat.zero_add, Lib.bytesWorld_cell w E z j hj]
          simp [List.getD, hb]
        · intro u hu
          obtain ⟨b, _, rfl⟩ := List.mem_map.1 hu
          rfl
        · intro a ha
          obtain ⟨b, _, rfl⟩ := List.mem_map.1 ha
          rfl
        · simpa [Pay.len] using hc1
      have e : Pay.len (.bytes z.data.toList) = z.size := by simp [Pay.len]
      rw [e] at key
      exact key
  · cases h

theorem alen_sound (hT : TabOk P tt) (hE : Env tt w Mx ρ hp) {t ty : Nat} {x r : AV} {u : Value} (hx : RepV w (Mof Mx ρ) ρ x u)
    (h : alen (R := Option AV) none tt hp t x some = some r) : Gives P w (Mof Mx ρ) ρ (Builtin.len_ #[t] ty #[u]) r := by
  unfold alen at h
  split at h
  case h_2 => cases h
  rename_i e he
  have hok := hT t e he
  have has : ∀ n : Nat, n ≤ maxLen → IntKind.i64.has n := by
    intro n hn
    simp only [maxLen] at hn
    simp [IntKind.has, IntKind.min, IntKind.max, IntKind.signed, IntKind.bits]
    omega
  split at h
  · rename_i s hd
    cases h
    cases hx with | @str z hs =>
    refine .same (u := .int .i64 z.size) ?_ ?_
    · simp [Builtin.len_, run_underlying (hok.str hd), goInt]
    · have : z.data.toList.length = z.size := by simp
      rw [this]
      exact .int (has _ hs)
  · rename_i E hd
    split at h
    · rename_i p hp'
      cases h
      obtain ⟨a, cap, us, rfl, hlc, hm, _, _⟩ := payOf_holds hE hx hp'
      refine .same (u := .int .i64 p.len) ?_ (.int (has _ (by omega)))
      simp [Builtin.len_, run_underlying (hok.slice hd), goInt]
    · cases h
  · rename_i n E hd
    cases hb : hasB .i64 n <;> simp only [hb, cond_true, cond_false] at h <;> cases h
    refine .same (u := .int .i64 n) ?_ (.int (has_of_hasB hb))
    simp [Builtin.len_, run_underlying (hok.array hd), goInt]
  · cases h

theorem amin2_sound {M : Nat → Prop} {x y r : AV} {u v : Value} (hx : RepV w M ρ x u) (hy : RepV w M ρ y v) (h : amin2 (R := Option AV) none x y some = some r) :
    ∃ z, (Builtin.min2 u v).run P w = .ok z w ∧ RepV w M ρ r z := by
  unfold amin2 at h
  split at h
  · rename_i kk a k' b
    cases hk : ikEq kk k' <;> simp only [hk, cond_true, cond_false] at h <;> cases h
    have := ikEq_eq hk; subst this
    cases hx with | int ha => cases hy with | int hb =>
    exact ⟨_, rfl, .int (by split <;> assumption)⟩
  · cases h

theorem amax2_sound {M : Nat → Prop} {x y r : AV} {u v : Value} (hx : RepV w M ρ x u) (hy : RepV w M ρ y v) (h : amax2 (R := Option AV) none x y some = some r) :
    ∃ z, (Builtin.max2 u v).run P w = .ok z w ∧ RepV w M ρ r z := by
  unfold amax2 at h
  split at h
  · rename_i kk a k' b
    cases hk : ikEq kk k' <;> simp only [hk, cond_true, cond_false] at h <;> cases h
    have := ikEq_eq hk; subst this
    cases hx with | int ha => cases hy with | int hb =>
    exact ⟨_, rfl, .int (by split <;> assumption)⟩
  · cases h

theorem afoldm_sound {M : Nat → Prop} {f : {R : Type} → R → AV → AV → (AV → R) → R} {g : Value → Value → Sem Value}
    (hcps : ∀ {R : Type} (stk : R) (x y : AV) (k : AV → R), f stk x y k = (f (R := Option AV) none x y some).elim stk k)
    (hf : ∀ {x y r : AV} {u v : Value}, RepV w M ρ x u → RepV w M ρ y v → f (R := Option AV) none x y some = some r → ∃ z, (g u v).run P w = .ok z w ∧ RepV w M ρ r z) :
    ∀ {l : List AV} {vs : List Value} {x r : AV} {u : Value}, RepV w M ρ x u → RepL w M ρ l vs → afoldm (f (R := Option AV) none) x l some = some r →
      ∃ z, (vs.foldlM g u).run P w = .ok z w ∧ RepV w M ρ r z
  | [], _, x, r, u, hx, .nil, h => by
    cases h
    exact ⟨u, rfl, hx⟩
  | y :: l, _, x, r, u, hx, .cons (v := v) hy t, h => by
    simp only [afoldm] at h
    rw [hcps] at h
    obtain ⟨a, ha, h⟩ := elim_some h
    obtain ⟨z, hz, hr⟩ := hf hx hy ha
    obtain ⟨z2, hz2, hr2⟩ := afoldm_sound hcps hf hr t h
    exact ⟨z2, by simp [hz, hz2], hr2⟩

theorem apick_sound {M : Nat → Prop} {c a b r : AV} {uc ua ub : Value} (hc : RepV w M ρ c uc) (ha : RepV w M ρ a ua) (hb : RepV w M ρ b ub)
    (h : apick (R := Option AV) none c a b some = some r) : Gives P w M ρ (do pure (if ← asBool uc then ua else ub)) r := by
  unfold apick at h
  split at h
  · rename_i t
    cases hc with | bool =>
    cases t with
    | true => cases h; exact .same (u := ua) (by simp [asBool]) ha
    | false => cases h; exact .same (u := ub) (by simp [asBool]) hb
  · cases h

theorem cells_one {v : Value} (h : v.oneCell' = true) : v.cells = #[v] := by cases v <;> first | rfl | cases h

theorem one_rep {M : Nat → Prop} {v : AV} {u : Value} (h : RepV w M ρ v u) (hv : leavesOf v = [v]) (h1 : u.oneCell' = true) : RepL w M ρ (leavesOf v) u.cells.toList ∧ ∀ c ∈ u.cells.toList, c.oneCell' = true := by
  rw [hv, cells_one h1]
  exact ⟨.cons h .nil, by simpa using h1⟩

theorem leaves_rep {M : Nat → Prop} {v : AV} {u : Value} (h : RepV w M ρ v u) (hl : leavesOk v = true) : RepL w M ρ (leavesOf v) u.cells.toList ∧ ∀ c ∈ u.cells.toList, c.oneCell' = true := by
  cases v with
  | agg l => cases h with | agg hl' h1 => exact ⟨by simpa [leavesOf, Value.cells] using hl', by simpa [Value.cells] using h1⟩
  | arr l => cases h with | arr hl' h1 _ => exact ⟨by simpa [leavesOf, Value.cells] using hl', by simpa [Value.cells] using h1⟩
  | top => cases hl
  | tup l => cases hl
  | own o => exact one_rep h rfl (by cases h; assumption)
  | _ => exact one_rep h rfl (by cases h <;> rfl)

theorem setRange_rep {M : Nat → Prop} : ∀ {ls : List AV} {us : List Value} {cs : List AV} {vs : List Value} (off : Nat), RepL w M ρ cs vs → RepL w M ρ ls us →
    RepL w M ρ (setRange cs off ls) (us.zipIdx.foldl (fun c x => c.set (off + x.2) x.1) vs) := by
  have key : ∀ {ls : List AV} {us : List Value} {cs : List AV} {vs : List Value} (off n : Nat), RepL w M ρ cs vs → RepL w M ρ ls us →
      RepL w M ρ (setRange cs (off + n) ls) ((us.zipIdx n).foldl (fun c x => c.set (off + x.2) x.1) vs) := by
    intro ls us cs vs off n hc hl
    induction ls generalizing us cs vs n with
    | nil => cases hl; exact hc
    | cons l ls ih =>
      cases hl with | cons h t =>
      simp only [setRange, List.zipIdx_cons, List.foldl_cons]
      exact ih (n + 1) (hc.set (off + n) h) t
  intro ls us cs vs off hc hl
  exact key off 0 hc hl

theorem foldl_set_mem {α : Type} (off : Nat) : ∀ (l : List (α × Nat)) (vs : List α) (p : α → Prop), (∀ v ∈ vs, p v) → (∀ x ∈ l, p x.1) → ∀ v ∈ l.foldl (fun c x => c.set (off + x.2) x.1) vs, p v
  | [], _, _, h, _ => h
  | x :: l, vs, p, h, hl => by
    simp only [List.foldl_cons]
    refine foldl_set_mem off l _ p (fun v hv => ?_) fun y hy => hl y (by simp [hy])
    rcases List.mem_or_eq_of_mem_set hv with hv | rfl
    · exact h v hv
    · exact hl x (by simp)

theorem foldl_set_length {α : Type} (off : Nat) : ∀ (l : List (α × Nat)) (vs : List α), (l.foldl (fun c x => c.set (off + x.2) x.1) vs).length = vs.length
  | [], _ => rfl
  | x :: l, vs => by simp only [List.foldl_cons]; rw [foldl_set_length off l]; simp

theorem foldl_set_toList {off : Nat} : ∀ (l : List (Value × Nat)) (vs : Array Value), (l.foldl (fun c x => c.setIfInBounds (off + x.2) x.1) vs).toList = l.foldl (fun c x => c.set (off + x.2) x.1) vs.toList
  | [], _ => rfl
  | x :: l, vs => by simp only [List.foldl_cons]; rw [foldl_set_toList l]; simp

theorem setRange_length : ∀ (ls cs : List AV) (off : Nat), (setRange cs off ls).length = cs.length
  | [], _, _ => rfl
  | v :: ls, cs, off => by
    have : ∀ (cs : List AV) (n : Nat), (setN cs n v).length = cs.length := by
      intro cs n
      induction cs generalizing n with
      | nil => rfl
      | cons a cs ih => cases n <;> simp [setN, ih]
    simp only [setRange]
    rw [setRange_length ls, this]

/-- The parts of a literal, named and valued. -/
inductive RepP (w : World) (M : Nat → Prop) (ρ : List CObj) : List (Nat × AV) → List (Nat × Value) → Prop
  | nil : RepP w M ρ [] []
  | cons {i : Nat} {a : AV} {v : Value} {l : List (Nat × AV)} {vs : List (Nat × Value)} (h : RepV w M ρ a v) (t : RepP w M ρ l vs) : RepP w M ρ ((i, a) :: l) ((i, v) :: vs)

theorem fillParts_sound {M : Nat → Prop} {place place' : Nat → Option (Nat × Nat)} (hpl : ∀ i x, place i = some x → place' i = some x) : ∀ {parts : List (Nat × AV)} {pv : List (Nat × Value)} {cs r : List AV} {vs : List Value},
    RepP w M ρ parts pv → RepL w M ρ cs vs → (∀ v ∈ vs, v.oneCell' = true) → fillParts place cs parts = some r →
    ∃ vs', Instr.fill place' vs.toArray pv = some vs'.toArray ∧ RepL w M ρ r vs' ∧ ∀ v ∈ vs', v.oneCell' = true
  | [], _, cs, r, vs, .nil, hc, h1, h => by
    cases h
    exact ⟨vs, rfl, hc, h1⟩
  | (i, a) :: parts, _, cs, r, vs, .cons (v := u) ha t, hc, h1, h => by
    simp only [fillParts] at h
    split at h
    · cases h
    · rename_i off size hp'
      cases hb : (leavesOk a && Nat.beq (leavesOf a).length size && Nat.ble (off + size) cs.length) <;> simp only [hb, cond_true, cond_false] at h
      · cases h
      simp only [Bool.and_eq_true] at hb
      obtain ⟨⟨b1, b2⟩, b3⟩ := hb
      obtain ⟨hl, ho⟩ := leaves_rep ha b1
      have hsz : u.cells.size = size := by
        have := Nat.eq_of_beq_eq_true b2
        have e := hl.length
        simp at e; omega
      have hle : off + u.cells.size ≤ vs.toArray.size := by
        have := Nat.le_of_ble_eq_true b3
        have e := hc.length
        simp; omega
      have step := setRange_rep off hc hl
      have mem : ∀ v ∈ u.cells.toList.zipIdx.foldl (fun c x => c.set (off + x.2) x.1) vs, v.oneCell' = true := by
        refine foldl_set_mem off _ vs (fun v => v.oneCell' = true) h1 ?_
        rintro ⟨x, j⟩ hx
        exact ho x (List.fst_mem_of_mem_zipIdx hx)
      obtain ⟨vs', f1, f2, f3⟩ := fillParts_sound hpl t step mem h
      refine ⟨vs', ?_, f2, f3⟩
      unfold Instr.fill
      simp only [hpl i _ hp']
      rw [if_neg (by simp [hsz]; simp at hle; omega), ← f1]
      congr 1
      apply Array.ext'
      rw [← Array.foldl_toList, foldl_set_toList]
      simp

theorem placesOf_sound (hT : TabOk P tt) : ∀ {F : List Field} {i : Nat} {x : Nat × Nat}, placesOf tt (F.map fun f => (f.offset, f.type)) i = some x →
    ∃ f, F[i]? = some f ∧ x.1 = f.offset ∧ ∃ e, TyOk P f.type e ∧ e.size = x.2
  | [], i, x, h => by simp [placesOf] at h
  | f :: F, 0, x, h => by
    simp only [List.map_cons, placesOf] at h
    split at h
    · rename_i e he
      cases h
      exact ⟨f, rfl, rfl, e, hT _ e he, rfl⟩
    · cases h
  | f :: F, i + 1, x, h => by
    simp only [List.map_cons, placesOf] at h
    simpa using placesOf_sound hT h

theorem run_zeroValue_of {t : Nat} {e : TyE} (h : TyOk P t e) : (zeroValue t).run P w = .ok e.zv w := by
  obtain ⟨i, h1, h2, _, _⟩ := h.info'
  simp [zeroValue, typeInfo, h1, h2]

theorem zero_rep {M : Nat → Prop} {e : TyE} (h : leavesOk e.zero = true) : RepL w M ρ (leavesOf e.zero) e.zv.cells.toList ∧ ∀ c ∈ e.zv.cells.toList, c.oneCell' = true :=
  leaves_rep (aconst_rep e.zv) h

theorem run_places (hT : TabOk P tt) : ∀ (F : List Field), (∀ f ∈ F, isTy tt f.type (fun _ => true) = true) →
    (F.mapM fun f => (do pure (f.offset, ← sizeOf f.type) : Sem (Nat × Nat))).run P w = .ok (F.map fun f => (f.offset, P.cellsOf f.type)) w
  | [], _ => rfl
  | f :: F, h => by
    obtain ⟨e, he, _⟩ := isTy_some hT (h f (by simp))
    obtain ⟨i, h1, _, h2, _⟩ := he.info'
    have := run_places hT F fun g hg => h g (by simp [hg])
    have hs : (sizeOf f.type).run P w = .ok (P.cellsOf f.type) w := by simp [sizeOf, typeInfo, h1, Program.cellsOf]
    simp only [List.mapM_cons, Sem.run_bind, hs, Result.andThen_ok, Sem.run_pure, this, List.map_cons]

theorem abuild_sound (hT : TabOk P tt) {M : Nat → Prop} {t : Nat} {parts : List (Nat × AV)} {pv : Array (Nat × Value)} {r : AV} (hp' : RepP w M ρ parts pv.toList)
    (h : abuild (R := Option AV) none tt t parts some = some r) : Gives P w M ρ (Instr.build t pv) r := by
  unfold abuild at h
  split at h
  case h_2 => cases h
  rename_i e he
  have hok := hT t e he
  split at h
  · rename_i fs hd
    cases hb : (leavesOk e.zero && fs.all (fun x => isTy tt x.2 fun _ => true)) <;> simp only [hb, cond_true, cond_false] at h
    · cases h
    simp only [Bool.and_eq_true] at hb
    split at h
    case h_2 => cases h
    rename_i cs hf
    cases h
    obtain ⟨F, hF, hm⟩ := hok.struct hd
    obtain ⟨z1, z2⟩ := zero_rep (w := w) (M := M) (ρ := ρ) hb.1
    subst hm
    have hall : ∀ f ∈ F.toList, isTy tt f.type (fun _ => true) = true := by
      intro f hf'
      exact List.all_eq_true.1 hb.2 (f.offset, f.type) (List.mem_map.2 ⟨f, hf', rfl⟩)
    have hpl := run_places (P := P) (w := w) hT F.toList hall
    obtain ⟨vs', f1, f2, f3⟩ := fillParts_sound (place' := fun i => (F.toList.map fun f => (f.offset, P.cellsOf f.type)).toArray[i]?) (fun i x hx => by
      obtain ⟨f, g1, g2, e', g3, g4⟩ := placesOf_sound hT hx
      obtain ⟨i', h1, _, h2, _⟩ := g3.info'
      have : P.cellsOf f.type = x.2 := by simp [Program.cellsOf, h1, h2, g4]
      rw [List.getElem?_toArray, List.getElem?_map, g1]
      simp [this, ← g2]) hp' z1 z2 hf
    refine .same (u := .agg vs'.toArray) ?_ (.agg f2 f3)
    have hmap : (F.mapM fun f => (do pure (f.offset, ← sizeOf f.type) : Sem (Nat × Nat))).run P w = .ok (F.toList.map fun f => (f.offset, P.cellsOf f.type)).toArray w := by
      rw [Array.mapM_eq_mapM_toList]
      simp only [map_eq_pure_bind, Sem.run_bind, hpl, Result.andThen_ok, Sem.run_pure]
    simp only [Instr.build, Sem.run_bind, run_zeroValue_of hok, Result.andThen_ok, run_underlying hF, hmap]
    simp only [Array.toArray_toList] at f1
    rw [f1]
    rfl
  · rename_i n E hd
    cases hb : (leavesOk e.zero && szOk tt E 1) <;> simp only [hb, cond_true, cond_false] at h
    · cases h
    simp only [Bool.and_eq_true] at hb
    split at h
    case h_2 => cases h
    rename_i cs hf
    cases hpu : cs.all scalarLeaf <;> simp only [hpu, cond_true, cond_false] at h <;> cases h
    obtain ⟨z1, z2⟩ := zero_rep (w := w) (M := M) (ρ := ρ) hb.1
    obtain ⟨eE, hokE, _, hsz⟩ := szOk_some hT hb.2
    obtain ⟨vs', f1, f2, f3⟩ := fillParts_sound (place' := fun i => some (i * 1, 1)) (fun i x hx => by
      cases hlt : Nat.blt i n <;> simp only [hlt, cond_true, cond_false] at hx <;> cases hx
      simp) hp' z1 z2 hf
    refine .same (u := .agg vs'.toArray) ?_ (.arr f2 f3 fun a ha => List.all_eq_true.1 hpu a ha)
    simp only [Array.toArray_toList] at f1
    simp [Instr.build, run_zeroValue_of hok, run_underlying (hok.array hd), hsz w]
    simp only [Nat.mul_one] at f1
    rw [f1]
    rfl
  · cases h

theorem optRep_map {M : Nat → Prop} {fr : List AV} {a : Act} (hf : RepL w M ρ fr a.tmps.toList) (o : Option Operand) : OptRep w M ρ (o.map (aval fr)) (o.map a.eval) := by
  cases o with
  | none => trivial
  | some x => exact aval_rep hf x

theorem repL_map {M : Nat → Prop} {fr : List AV} {a : Act} (hf : RepL w M ρ fr a.tmps.toList) : ∀ (l : List Operand), RepL w M ρ (l.map (aval fr)) (l.map a.eval)
  | [] => .nil
  | x :: l => .cons (aval_rep hf x) (repL_map hf l)

theorem repP_map {M : Nat → Prop} {fr : List AV} {a : Act} (hf : RepL w M ρ fr a.tmps.toList) : ∀ (l : List (Nat × Operand)), RepP w M ρ (l.map fun x => (x.1, aval fr x.2)) (l.map fun x => (x.1, a.eval x.2))
  | [] => .nil
  | (_, x) :: l => .cons (aval_rep hf x) (repP_map hf l)

theorem run_value {s : Sem Value} {u : Value} {w' : World} (h : s.run P w = .ok u w') : (do pure (Next.value (← s)) : Sem Next).run P w = .ok (.value u) w' := by
  simp [h]

/-- AN OPERATION THAT LEAVES THE OBJECTS AS THEY ARE. -/
theorem rop_sound (hT : TabOk P tt) (hE : Env tt w Mx ρ hp) {fr : List AV} {a : Act} (hf : RepL w (Mof Mx ρ) ρ fr a.tmps.toList) (hM : ∀ b, Mof Mx ρ b → b < w.heap.size) (o : Oper) {r : AV}
    (h : rop (R := Option AV) none tt hp (aval fr) o.op some = some r) :
    ∃ u w', (execOp a.eval o).run P w = .ok (.value u) w' ∧ Grew w w' ∧ RepV w' (Mof Mx ρ) ρ r u := by
  have ev := aval_rep hf
  have fin : ∀ {s : Sem Value}, Gives P w (Mof Mx ρ) ρ s r → (execOp a.eval o).run P w = (do pure (Next.value (← s)) : Sem Next).run P w →
      ∃ u w', (execOp a.eval o).run P w = .ok (.value u) w' ∧ Grew w w' ∧ RepV w' (Mof Mx ρ) ρ r u := by
    rintro s ⟨u, w', h1, h2, h3⟩ he
    exact ⟨u, w', by rw [he, run_value h1], h2, h3⟩
  unfold rop at h
  split at h
  · rename_i x ho
    cases h
    exact ⟨a.eval x, w, by simp [execOp, ho], .refl w, ev x⟩
  · rename_i x ho
    cases h
    exact ⟨a.eval x, w, by simp [execOp, ho], .refl w, ev x⟩
  · rename_i c x y ho
    obtain ⟨u, w', h1, h2, h3⟩ := apick_sound (P := P) (ev c) (ev x) (ev y) h
    refine ⟨u, w', ?_, h2, h3⟩
    have : (execOp a.eval o) = (do pure (Next.value (if ← asBool (a.eval c) then a.eval x else a.eval y)) : Sem Next) := by simp [execOp, ho]
    rw [this]
    cases hb : (asBool (a.eval c)).run P w with
    | ok b w1 => simp [hb] at h1 ⊢; exact h1
    | halt e w1 => simp [hb, Result.andThen] at h1
  · rename_i x ho
    have hx := ev x
    have key : ∀ b : Option Addr, a.eval x = .pointer b → b ≠ none → (execOp a.eval o).run P w = .ok (.value (a.eval x)) w := by
      intro b hb hn
      cases b with
      | none => exact absurd rfl hn
      | some b => simp [execOp, ho, hb]
    split at h
    · rename_i e
      cases h
      rw [e] at hx
      generalize hv : a.eval x = v at hx key
      cases hx with | ptr hh => exact ⟨_, w, key _ rfl (by simp), .refl w, .ptr hh⟩
    · rename_i e
      cases h
      rw [e] at hx
      generalize hv : a.eval x = v at hx key
      cases hx with | aptr hh hi => exact ⟨_, w, key _ rfl (by simp), .refl w, .aptr hh hi⟩
    · rename_i e
      cases h
      rw [e] at hx
      generalize hv : a.eval x = v at hx key
      cases hx with | eptr hl hc hb hlt h1 hp hw hi => exact ⟨_, w, key _ rfl (by simp), .refl w, .eptr hl hc hb hlt h1 hp hw hi⟩
    · cases h
  · rename_i op t x y ty ho
    exact fin (abin_sound hT x y (ev x) (ev y) h) (by simp only [execOp, ho])
  · rename_i op t x ho
    exact fin (aun_sound (ev x) h) (by simp only [execOp, ho])
  · rename_i s d x ho
    exact fin (aconv_sound hT hE (ev x) hM h) (by simp only [execOp, ho])
  · rename_i f first caps ho
    split at h
    · rename_i hfi
      cases h
      have hfirst : first = #[] := by cases first; simp_all
      refine ⟨.func (.func f) #[] (caps.map a.eval), w, ?_, .refl w, ?_⟩
      · simp [execOp, ho, Instr.makeFunc, hfirst]
      · have := repL_map hf caps.toList
        have key := RepV.fn (f := f) this
        have e : (caps.toList.map a.eval).toArray = caps.map a.eval := by apply Array.ext'; simp
        rw [e] at key; exact key
    · cases h
  · rename_i t x lo hi ho
    refine fin (aslice_sound hT hE (ev x).deN (optRep_map hf lo) (optRep_map hf hi) h) ?_
    simp only [execOp, ho, Option.map_none]
  · rename_i s x f ho
    exact fin (afieldAddr_sound hT (ev x) h) (by simp only [execOp, ho])
  · rename_i t x f ho
    exact fin (afield_sound hT (ev x) h) (by simp only [execOp, ho])
  · rename_i t x i ho
    exact fin (aindexAddr_sound hT hE (ev x).deN (ev i) h) (by simp only [execOp, ho])
  · rename_i t x i ho
    exact fin (aindex_sound hT (ev x) (ev i) h) (by simp only [execOp, ho])
  · rename_i t x ho
    exact fin (aload_sound hT hE (ev x) h) (by simp only [execOp, ho])
  · rename_i x i ho
    have hx := ev x
    split at h
    · rename_i l e
      cases hb : Nat.blt i l.length <;> simp only [hb, cond_true, cond_false] at h <;> cases h
      rw [e] at hx
      generalize hv : a.eval x = v at hx
      cases hx with | @tup _ vs hl =>
      have hi : i < vs.length := by
        have := hl.length
        simp [Nat.blt] at hb; omega
      have hg : vs[i]? = some vs[i] := List.getElem?_eq_getElem hi
      refine ⟨vs[i], w, ?_, .refl w, hl.get i _ hg⟩
      simp [execOp, ho, hv, Instr.extract, hg]
    · cases h
  · rename_i t parts ho
    refine fin (abuild_sound (pv := parts.map fun x => (x.1, a.eval x.2)) hT ?_ h) (by simp only [execOp, ho])
    have := repP_map hf parts.toList
    simpa using this
  · rename_i c ho
    split at h
    · rename_i hcal
      split at h
      · rename_i x t hx ht
        refine fin (alen_sound (ty := o.type) hT hE (ev x).deN h) ?_
        have e1 : c.args = #[x] := by cases hc : c.args; simp_all
        have e2 : c.argTypes = #[t] := by cases hc : c.argTypes; simp_all
        simp [execOp, ho, resolve, hcal, invoke, builtin, e1, e2]
      · cases h
    · rename_i hcal
      split at h
      · rename_i x l hx
        have e1 : c.args = (x :: l).toArray := by cases hc : c.args; simp_all
        obtain ⟨z, hz, hr⟩ := afoldm_sound (P := P) (f := @amin2) (g := Builtin.min2) amin2_cps amin2_sound (ev x) (repL_map hf l) h
        refine ⟨z, w, ?_, .refl w, hr⟩
        simp [execOp, ho, resolve, hcal, invoke, builtin, e1, Builtin.min_, hz]
      · cases h
    · rename_i hcal
      split at h
      · rename_i x l hx
        have e1 : c.args = (x :: l).toArray := by cases hc : c.args; simp_all
        obtain ⟨z, hz, hr⟩ := afoldm_sound (P := P) (f := @amax2) (g := Builtin.max2) amax2_cps amax2_sound (ev x) (repL_map hf l) h
        refine ⟨z, w, ?_, .refl w, hr⟩
        simp [execOp, ho, resolve, hcal, invoke, builtin, e1, Builtin.max_, hz]
      · cases h
    · cases h
  · cases h
end
end Go.Proofs.YtcmhpngmjjcloaaGm
