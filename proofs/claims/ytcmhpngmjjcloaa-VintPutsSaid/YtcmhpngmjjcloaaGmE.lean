/- A part of a reader of loaded code that is proved sound; no condition. -/
import Derived.Test.YtcmhpngmjjcloaaGmD
import Derived.Laws.StructEq
import Derived.WalkSpells
import Derived.WalkLawsBesides
namespace Go.Proofs.YtcmhpngmjjcloaaGm

def absT : TypeDesc → AT
  | .bool => .bool
  | .int k => .int k
  | .string => .str
  | .pointer e => .ptr e
  | .slice e => .slice e
  | .array n e => .array n e
  | .struct fs => .struct (fs.toList.map fun f => (f.offset, f.type))
  | .map k e => .map k e
  | .func _ _ _ => .func
  | .interface _ => .iface
  | _ => .other

/-- A row of the table is the program's. -/
structure TyOk (P : Program) (t : Nat) (e : TyE) : Prop where
  info : (P.info? t).map (fun i => (i.zero, i.size, i.bytes)) = some (some e.zv, e.size, e.bytes)
  und : (P.underlying t).map absT = some e.d
  leaf : e.leaf.length = e.size
  zs : e.zv.cells.size = e.size

def TabOk (P : Program) (tt : Tab) : Prop := ∀ t e, tget tt t = some e → TyOk P t e

def TabAll (P : Program) : Tab → Prop
  | [] => True
  | (t, e) :: r => TyOk P t e ∧ TabAll P r

theorem tabOk_of_all {P : Program} : ∀ {tt : Tab}, TabAll P tt → TabOk P tt
  | [], _, t, e, h => by simp [tget] at h
  | (a, d) :: r, ⟨h1, h2⟩, t, e, h => by
    simp only [tget] at h
    cases hb : Nat.beq a t with
    | true =>
      simp only [hb, cond_true, Option.some.injEq] at h
      have := Nat.eq_of_beq_eq_true hb
      subst this; subst h
      exact h1
    | false =>
      simp only [hb, cond_false] at h
      exact tabOk_of_all h2 t e h

section ty
variable {P : Program} {t : Nat} {e : TyE}
theorem TyOk.info' (h : TyOk P t e) : ∃ i, P.info? t = some i ∧ i.zero = some e.zv ∧ i.size = e.size ∧ i.bytes = e.bytes := by
  have := h.info
  cases hi : P.info? t with
  | none => simp [hi] at this
  | some i => simp [hi] at this; exact ⟨i, rfl, this.1, this.2.1, this.2.2⟩
theorem TyOk.desc (h : TyOk P t e) : ∃ d, P.underlying t = some d ∧ absT d = e.d := by
  have := h.und
  cases hi : P.underlying t with
  | none => simp [hi] at this
  | some d => simp [hi] at this; exact ⟨d, rfl, this⟩
theorem TyOk.slice (h : TyOk P t e) {E : Nat} (hd : e.d = .slice E) : P.underlying t = some (.slice E) := by
  obtain ⟨d, h1, h2⟩ := h.desc
  rw [hd] at h2
  cases d <;> simp [absT] at h2
  subst h2; exact h1
theorem TyOk.bool (h : TyOk P t e) (hd : e.d = .bool) : P.underlying t = some .bool := by
  obtain ⟨d, h1, h2⟩ := h.desc
  rw [hd] at h2
  cases d <;> simp [absT] at h2
  exact h1
theorem TyOk.int (h : TyOk P t e) {k : IntKind} (hd : e.d = .int k) : P.underlying t = some (.int k) := by
  obtain ⟨d, h1, h2⟩ := h.desc
  rw [hd] at h2
  cases d <;> simp [absT] at h2
  subst h2; exact h1
theorem TyOk.str (h : TyOk P t e) (hd : e.d = .str) : P.underlying t = some .string := by
  obtain ⟨d, h1, h2⟩ := h.desc
  rw [hd] at h2
  cases d <;> simp [absT] at h2
  exact h1
theorem TyOk.ptr (h : TyOk P t e) {E : Nat} (hd : e.d = .ptr E) : P.underlying t = some (.pointer E) := by
  obtain ⟨d, h1, h2⟩ := h.desc
  rw [hd] at h2
  cases d <;> simp [absT] at h2
  subst h2; exact h1
theorem TyOk.array (h : TyOk P t e) {n E : Nat} (hd : e.d = .array n E) : P.underlying t = some (.array n E) := by
  obtain ⟨d, h1, h2⟩ := h.desc
  rw [hd] at h2
  cases d <;> simp [absT] at h2
  obtain ⟨rfl, rfl⟩ := h2; exact h1
theorem TyOk.map (h : TyOk P t e) {n E : Nat} (hd : e.d = .map n E) : P.underlying t = some (.map n E) := by
  obtain ⟨d, h1, h2⟩ := h.desc
  rw [hd] at h2
  cases d <;> simp [absT] at h2
  obtain ⟨rfl, rfl⟩ := h2; exact h1
theorem TyOk.func (h : TyOk P t e) (hd : e.d = .func) : ∃ a b c, P.underlying t = some (.func a b c) := by
  obtain ⟨d, h1, h2⟩ := h.desc
  rw [hd] at h2
  cases d <;> simp [absT] at h2
  exact ⟨_, _, _, h1⟩
theorem TyOk.struct (h : TyOk P t e) {fs : List (Nat × Nat)} (hd : e.d = .struct fs) : ∃ F, P.underlying t = some (.struct F) ∧ F.toList.map (fun f => (f.offset, f.type)) = fs := by
  obtain ⟨d, h1, h2⟩ := h.desc
  rw [hd] at h2
  cases d <;> simp [absT] at h2
  exact ⟨_, h1, h2⟩
end ty

theorem oneB_eq (v : Value) : oneB v = v.oneCell' := by cases v <;> rfl

section rep
variable {w : World} {M : Nat → Prop} {ρ : List CObj}

theorem has_of_hasB {k : IntKind} {n : Int} (h : hasB k n = true) : k.has n := by
  simp [hasB] at h; exact h

theorem aleaf_rep (v : Value) : RepV w M ρ (aleaf v) v := by
  unfold aleaf
  split
  · exact .bool _
  · rename_i k n
    cases h : hasB k n with
    | true => simp only [cond_true]; exact .int (has_of_hasB h)
    | false => simp only [cond_false]; exact .top _
  · rename_i s
    cases h : Nat.ble s.size maxLen with
    | true => simp only [cond_true]; exact .str (Nat.le_of_ble_eq_true h)
    | false => simp only [cond_false]; exact .top _
  · exact .nilp
  · exact .nil
  · exact .nilm
  · exact .nilf
  · exact .nili
  · exact .top _

theorem aleaf_repL : ∀ (l : List Value), RepL w M ρ (l.map aleaf) l
  | [] => .nil
  | v :: l => .cons (aleaf_rep v) (aleaf_repL l)

theorem aconst_rep (v : Value) : RepV w M ρ (aconst v) v := by
  unfold aconst
  split
  · rename_i cs
    cases h : cs.toList.all oneB with
    | true =>
      simp only [cond_true]
      exact .agg (vs := cs.toList) (aleaf_repL _) (fun u hu => by rw [← oneB_eq]; exact List.all_eq_true.1 h u hu)
    | false => simp only [cond_false]; exact .top _
  · rename_i vs
    split
    · rename_i h
      have : vs = #[] := by cases vs; simp_all
      subst this
      exact .tup .nil
    · exact .top _
  · exact aleaf_rep v

theorem aval_rep {fr : List AV} {a : Act} (h : RepL w M ρ fr a.tmps.toList) (x : Operand) : RepV w M ρ (aval fr x) (a.eval x) := by
  cases x with
  | tmp t =>
    have := h.nth t
    simp only [aval, Act.eval]
    have e : a.tmps.toList.getD t undef = a.tmps.getD t undef := by simp [List.getD, Array.getD_eq_getD_getElem?]
    rw [← e]; exact this
  | const v => exact aconst_rep v
  | global g => exact .top _
  | func f => exact .fn .nil
end rep

/-- The world has grown: nothing that was there has turned. -/
structure Grew (w w' : World) : Prop where
  os : w'.os = w.os
  tape : w'.tape = w.tape
  output : w'.output = w.output
  size : w.heap.size ≤ w'.heap.size
  block : ∀ b, b < w.heap.size → w'.heap[b]? = w.heap[b]?

theorem Grew.refl (w : World) : Grew w w := ⟨rfl, rfl, rfl, Nat.le_refl _, fun _ _ => rfl⟩
theorem Grew.trans {a b c : World} (h : Grew a b) (k : Grew b c) : Grew a c :=
  ⟨k.os.trans h.os, k.tape.trans h.tape, k.output.trans h.output, Nat.le_trans h.size k.size, fun i hi => (k.block i (Nat.lt_of_lt_of_le hi h.size)).trans (h.block i hi)⟩
theorem Grew.later {w w' : World} (h : Grew w w') (M : Nat → Prop) : Later w M w' M := ⟨h.size, fun b hb _ => h.block b hb, fun _ _ h => h⟩

/-- An operation's own value. -/
def Gives (P : Program) (w : World) (M : Nat → Prop) (ρ : List CObj) (e : Sem Value) (r : AV) : Prop :=
  ∃ u w', e.run P w = .ok u w' ∧ Grew w w' ∧ RepV w' M ρ r u

theorem Gives.same {P : Program} {w : World} {M : Nat → Prop} {ρ : List CObj} {e : Sem Value} {r : AV} {u : Value} (h : e.run P w = .ok u w) (hr : RepV w M ρ r u) : Gives P w M ρ e r :=
  ⟨u, w, h, .refl w, hr⟩

theorem RepV.deN {w : World} {M : Nat → Prop} {ρ : List CObj} {a : AV} {v : Value} (h : RepV w M ρ a v) : RepV w M ρ (YtcmhpngmjjcloaaGm.deN a) v := by
  cases h with
  | rn h => exact h
  | top => exact .top _
  | bool => exact .bool _
  | int h => exact .int h
  | str h => exact .str h
  | agg h h1 => exact .agg h h1
  | arr h h1 hp => exact .arr h h1 hp
  | tup h => exact .tup h
  | nilp => exact .nilp
  | ptr h => exact .ptr h
  | aptr h hi => exact .aptr h hi
  | eptr a b c d e f g i => exact .eptr a b c d e f g i
  | nil => exact .nil
  | roN a b c => exact .roN a b c
  | ro a b c d e f g i j => exact .ro a b c d e f g i j
  | own h h1 => exact .own h h1
  | subN h => exact .subN h
  | sub h a b => exact .sub h a b
  | fn h => exact .fn h
  | nilf => exact .nilf
  | nilm => exact .nilm
  | mapo h => exact .mapo h
  | iface h => exact .iface h
  | nili => exact .nili

theorem RepL.deN {w : World} {M : Nat → Prop} {ρ : List CObj} : ∀ {l : List AV} {vs : List Value}, RepL w M ρ l vs → RepL w M ρ (l.map YtcmhpngmjjcloaaGm.deN) vs
  | _, _, .nil => .nil
  | _, _, .cons h t => .cons h.deN t.deN

section ints
theorem wrap_has (k : IntKind) (n : Int) : k.has (k.wrap n) := by
  cases k <;> simp [IntKind.has, IntKind.min, IntKind.max, IntKind.wrap, IntKind.signed, IntKind.bits] <;> (try split) <;> omega
theorem ikEq_eq {a b : IntKind} (h : ikEq a b = true) : a = b := by cases a <;> cases b <;> simp_all [ikEq]
theorem min_le (k : IntKind) : k.min ≤ 0 := by cases k <;> decide
theorem max_ge (k : IntKind) : 0 ≤ k.max := by cases k <;> decide
theorem tmod_has {k : IntKind} {a b : Int} (ha : k.has a) (h0 : b ≠ 0) : k.has (a.tmod b) := by
  have h1 := Int.tmod_lt_of_pos a (b := b)
  obtain ⟨l1, u1⟩ := ha
  unfold IntKind.has
  rcases Int.le_total 0 a with h | h
  · have e : a.tmod b = a % b := Int.tmod_eq_emod_of_nonneg h
    have h2 := Int.emod_nonneg a h0
    have h3 : a % b ≤ a := by
      rcases Int.lt_or_lt_of_ne h0 with hb | hb
      · have := Int.emod_neg a (-b); rw [Int.neg_neg] at this
        rw [this]
        rcases Int.lt_or_le a (-b) with hlt | hge
        · rw [Int.emod_eq_of_lt h hlt]; exact Int.le_refl _
        · have := Int.emod_lt_of_pos a (b := -b) (by omega); omega
      · rcases Int.lt_or_le a b with hlt | hge
        · rw [Int.emod_eq_of_lt h hlt]; exact Int.le_refl _
        · have := Int.emod_lt_of_pos a hb; omega
    have := min_le k
    rw [e]; omega
  · have e : a.tmod b = -((-a) % b) := by
      rw [← Int.tmod_eq_emod_of_nonneg (show 0 ≤ -a by omega), Int.neg_tmod, Int.neg_neg]
    have h2 := Int.emod_nonneg (-a) h0
    have h3 : (-a) % b ≤ -a := by
      rcases Int.lt_or_lt_of_ne h0 with hb | hb
      · have := Int.emod_neg (-a) (-b); rw [Int.neg_neg] at this
        rw [this]
        rcases Int.lt_or_le (-a) (-b) with hlt | hge
        · rw [Int.emod_eq_of_lt (by omega) hlt]; exact Int.le_refl _
        · have := Int.emod_lt_of_pos (-a) (b := -b) (by omega); omega
      · rcases Int.lt_or_le (-a) b with hlt | hge
        · rw [Int.emod_eq_of_lt (by omega) hlt]; exact Int.le_refl _
        · have := Int.emod_lt_of_pos (-a) hb; omega
    have := max_ge k
    rw [e]; omega
theorem fdiv_has {k : IntKind} {a : Int} (ha : k.has a) (n : Nat) : k.has (a.fdiv (2 ^ n)) := by
  obtain ⟨l, u⟩ := ha
  have hp : (0 : Int) < 2 ^ n := Int.pow_pos (by decide)
  rw [Int.fdiv_eq_ediv_of_nonneg _ (Int.le_of_lt hp)]
  have h0 := min_le k
  have h1 := max_ge k
  unfold IntKind.has
  rcases Int.le_total 0 a with h | h
  · have := Int.ediv_nonneg h (Int.le_of_lt hp)
    have := Int.ediv_le_self (2 ^ n) h
    omega
  · have h2 : a ≤ a / 2 ^ n := by
      rw [Int.le_ediv_iff_mul_le hp]
      have : a * 2 ^ n ≤ a * 1 := Int.mul_le_mul_of_nonpos_left h (by omega)
      omega
    have h3 : a / 2 ^ n ≤ 0 := by
      have := Int.ediv_le_ediv hp h
      simpa using this
    omega
end ints
end Go.Proofs.YtcmhpngmjjcloaaGm
