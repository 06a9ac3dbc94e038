/- A part of a reader of loaded code that is proved sound; no condition. -/
import Derived.Test.YtcmhpngmjjcloaaGmC
namespace Go.Proofs.YtcmhpngmjjcloaaGm

/-- Where an own object lies. -/
inductive CObj where
  | gone
  | blk (b : Nat)
  | row (v : Value) (sz : Nat)

def CObj.block? : CObj → Option Nat
  | .gone => none
  | .blk b => some b
  | .row v _ => v.ownBlock

/-- These cells, from a place on. -/
def CellsAt (w : World) (b base : Nat) (us : List Value) : Prop := ∀ j u, us[j]? = some u → w.cell? ⟨b, base + j, none⟩ = some u

def Pay.wf : Pay AV → Prop
  | .rows s l => 0 < s ∧ ∀ r ∈ l, r.length = s
  | _ => True

mutual
inductive RepV (w : World) (M : Nat → Prop) (ρ : List CObj) : AV → Value → Prop
  | top (v : Value) : RepV w M ρ .top v
  | bool (b : Bool) : RepV w M ρ (.bool b) (.bool b)
  | int {k : IntKind} {n : Int} (h : k.has n) : RepV w M ρ (.int k n) (.int k n)
  | str {s : ByteArray} (h : s.size ≤ maxLen) : RepV w M ρ (.str s.data.toList) (.string s)
  | agg {l : List AV} {vs : List Value} (h : RepL w M ρ l vs) (h1 : ∀ v ∈ vs, v.oneCell' = true) : RepV w M ρ (.agg l) (.agg vs.toArray)
  | arr {l : List AV} {vs : List Value} (h : RepL w M ρ l vs) (h1 : ∀ v ∈ vs, v.oneCell' = true) (hp : ∀ a ∈ l, scalarLeaf a = true) : RepV w M ρ (.arr l) (.agg vs.toArray)
  | tup {l : List AV} {vs : List Value} (h : RepL w M ρ l vs) : RepV w M ρ (.tup l) (.tuple vs.toArray)
  | nilp : RepV w M ρ .nilp (.pointer none)
  | ptr {o off b : Nat} (h : ρ[o]? = some (.blk b)) : RepV w M ρ (.ptr o off) (.pointer (some ⟨b, off, none⟩))
  | aptr {o i off g n cap sz : Nat} (h : ρ[o]? = some (.row (.slice (some ⟨g, 0, none⟩) n cap) sz)) (hi : i < n) :
      RepV w M ρ (.aptr o i off) (.pointer (some ⟨g, i * sz + off, none⟩))
  | eptr {p : Pay AV} {us : List Value} {b base i off : Nat} (hl : RepL w M ρ p.cells us) (hc : CellsAt w b base us) (hb : ¬ M b) (hlt : b < w.heap.size) (h1 : ∀ u ∈ us, u.oneCell' = true)
      (hp : ∀ a ∈ p.cells, pureLeaf a = true) (hw : p.wf) (hi : i < p.len) : RepV w M ρ (.eptr p i off) (.pointer (some ⟨b, base + i * p.sz + off, none⟩))
  | nil : RepV w M ρ .nil (.slice none 0 0)
  | roN {p : Pay AV} {a : Option Addr} {cap : Nat} (h0 : p.len = 0) (hm : cap ≤ maxLen) (hn : a = none → cap = 0) : RepV w M ρ (.ro p) (.slice a 0 cap)
  | ro {p : Pay AV} {us : List Value} {b base cap : Nat} (hl : RepL w M ρ p.cells us) (hc : CellsAt w b base us) (hb : ¬ M b) (hlt : b < w.heap.size) (h1 : ∀ u ∈ us, u.oneCell' = true)
      (hp : ∀ a ∈ p.cells, pureLeaf a = true) (hw : p.wf) (hcap : p.len ≤ cap) (hm : cap ≤ maxLen) : RepV w M ρ (.ro p) (.slice (some ⟨b, base, none⟩) p.len cap)
  | rn {p : Pay AV} {a : Addr} {n cap : Nat} (h : RepV w M ρ (.ro p) (.slice (some a) n cap)) : RepV w M ρ (.rn p) (.slice (some a) n cap)
  | own {o sz : Nat} {v : Value} (h : ρ[o]? = some (.row v sz)) (h1 : v.oneCell' = true) : RepV w M ρ (.own o) v
  | subN {o sz : Nat} (h : ρ[o]? = some (.row (.slice none 0 0) sz)) : RepV w M ρ (.sub o 0 0) (.slice none 0 0)
  | sub {o off len g n cap sz : Nat} {a : Addr} (h : ρ[o]? = some (.row (.slice (some ⟨g, 0, none⟩) n cap) sz)) (hle : off + len ≤ n) (ha : cap - off ≠ 0 → a = ⟨g, off * sz, none⟩) :
      RepV w M ρ (.sub o off len) (.slice (some a) len (cap - off))
  | fn {f : Nat} {l : List AV} {vs : List Value} (h : RepL w M ρ l vs) : RepV w M ρ (.fn f l) (.func (.func f) #[] vs.toArray)
  | nilf : RepV w M ρ .nilf .nilFunc
  | nilm : RepV w M ρ .nilm (.map none)
  | mapo {o b : Nat} (h : ρ[o]? = some (.blk b)) : RepV w M ρ (.mapo o) (.map (some b))
  | iface {t : Nat} {v : AV} {u : Value} (h : RepV w M ρ v u) : RepV w M ρ (.iface t v) (.iface t u)
  | nili : RepV w M ρ .nili .nilIface
inductive RepL (w : World) (M : Nat → Prop) (ρ : List CObj) : List AV → List Value → Prop
  | nil : RepL w M ρ [] []
  | cons {a : AV} {v : Value} {l : List AV} {vs : List Value} (h : RepV w M ρ a v) (t : RepL w M ρ l vs) : RepL w M ρ (a :: l) (v :: vs)
end

section lists
variable {w : World} {M : Nat → Prop} {ρ : List CObj}

theorem RepL.length {l : List AV} {vs : List Value} : RepL w M ρ l vs → l.length = vs.length
  | .nil => rfl
  | .cons _ t => by simp [t.length]

theorem RepL.get {l : List AV} {vs : List Value} : RepL w M ρ l vs → ∀ i v, vs[i]? = some v → RepV w M ρ (nth l i) v
  | .nil, i, v, h => by simp at h
  | .cons h _, 0, v, e => by simp at e; subst e; exact h
  | .cons _ t, i + 1, v, e => by simp at e; exact t.get i v e

theorem RepL.nth {l : List AV} {vs : List Value} (h : RepL w M ρ l vs) (i : Nat) : RepV w M ρ (YtcmhpngmjjcloaaGm.nth l i) (vs.getD i undef) := by
  rcases Nat.lt_or_ge i vs.length with hi | hi
  · exact h.get i _ (by simp [List.getD, List.getElem?_eq_getElem hi])
  · have : YtcmhpngmjjcloaaGm.nth l i = .top := by
      have hl := h.length
      clear h
      induction l generalizing i vs with
      | nil => rfl
      | cons a l ih =>
        cases i with
        | zero => simp at hl; omega
        | succ i =>
          cases vs with
          | nil => simp at hl
          | cons v vs => exact ih (vs := vs) i (by simpa using hi) (by simpa using hl)
    rw [this]
    exact .top _

theorem RepL.set {l : List AV} {vs : List Value} : RepL w M ρ l vs → ∀ (i : Nat) {a : AV} {v : Value}, RepV w M ρ a v → RepL w M ρ (setN l i a) (vs.set i v)
  | .nil, _, _, _, _ => .nil
  | .cons _ t, 0, _, _, hv => .cons hv t
  | .cons h t, i + 1, _, _, hv => .cons h (t.set i hv)

theorem RepL.append {l m : List AV} {vs us : List Value} : RepL w M ρ l vs → RepL w M ρ m us → RepL w M ρ (l ++ m) (vs ++ us)
  | .nil, h => h
  | .cons h t, h' => .cons h (t.append h')

theorem RepL.take {l : List AV} {vs : List Value} : RepL w M ρ l vs → ∀ n, RepL w M ρ (l.take n) (vs.take n)
  | _, 0 => .nil
  | .nil, n + 1 => .nil
  | .cons h t, n + 1 => .cons h (t.take n)

theorem RepL.drop {l : List AV} {vs : List Value} : RepL w M ρ l vs → ∀ n, RepL w M ρ (l.drop n) (vs.drop n)
  | h, 0 => h
  | .nil, n + 1 => .nil
  | .cons _ t, n + 1 => t.drop n

theorem RepL.of_get {l : List AV} {vs : List Value} (hl : l.length = vs.length) (h : ∀ (i : Nat) (a : AV) (v : Value), l[i]? = some a → vs[i]? = some v → RepV w M ρ a v) : RepL w M ρ l vs := by
  induction l generalizing vs with
  | nil => cases vs with
    | nil => exact .nil
    | cons v vs => simp at hl
  | cons a l ih => cases vs with
    | nil => simp at hl
    | cons v vs => exact .cons (h 0 a v rfl rfl) (ih (by simpa using hl) fun i a' v' h1 h2 => h (i + 1) a' v' (by simpa using h1) (by simpa using h2))

theorem RepL.get' {l : List AV} {vs : List Value} : RepL w M ρ l vs → ∀ (i : Nat) (a : AV), l[i]? = some a → ∃ v, vs[i]? = some v ∧ RepV w M ρ a v
  | .nil, i, a, h => by simp at h
  | .cons h _, 0, a, e => by simp at e; subst e; exact ⟨_, rfl, h⟩
  | .cons _ t, i + 1, a, e => by simp at e; simpa using t.get' i a e

theorem RepL.mem {l : List AV} {vs : List Value} : RepL w M ρ l vs → ∀ v ∈ vs, ∃ a ∈ l, RepV w M ρ a v
  | .nil, v, h => by simp at h
  | .cons (a := a) (v := u) h t, v, e => by
    rcases List.mem_cons.1 e with rfl | e
    · exact ⟨a, by simp, h⟩
    · obtain ⟨b, hb, hr⟩ := t.mem v e; exact ⟨b, by simp [hb], hr⟩

theorem RepL.replicate {a : AV} {v : Value} (h : RepV w M ρ a v) : ∀ n, RepL w M ρ (List.replicate n a) (List.replicate n v)
  | 0 => .nil
  | n + 1 => .cons h (RepL.replicate h n)
end lists

/-- A reference to an object. -/
def isRef : AV → Bool
  | .own _ => true
  | .sub _ _ _ => true
  | .ptr _ _ => true
  | .aptr _ _ _ => true
  | .mapo _ => true
  | _ => false

theorem pure_of_scalar {a : AV} (h : scalarLeaf a = true) : pureLeaf a = true := by cases a <;> simp_all [scalarLeaf, pureLeaf]

/-- What is read stays: a later world. -/
structure Later (w : World) (M : Nat → Prop) (w' : World) (M' : Nat → Prop) : Prop where
  size : w.heap.size ≤ w'.heap.size
  block : ∀ b, b < w.heap.size → ¬ M b → w'.heap[b]? = w.heap[b]?
  own : ∀ b, b < w.heap.size → M' b → M b

theorem Later.refl (w : World) (M : Nat → Prop) : Later w M w M := ⟨Nat.le_refl _, fun _ _ _ => rfl, fun _ _ h => h⟩

section transport
variable {w w' : World} {M M' : Nat → Prop} {ρ ρ' : List CObj}

theorem CellsAt.later (h : Later w M w' M') {b base : Nat} {us : List Value} (hb : ¬ M b) (hlt : b < w.heap.size) (hc : CellsAt w b base us) : CellsAt w' b base us := by
  intro j u hu
  have := hc j u hu
  rw [← this]
  exact World.cell?_of_block (h.block b hlt hb)

mutual
theorem RepV.pure (h : Later w M w' M') {a : AV} {v : Value} : RepV w M ρ a v → pureLeaf a = true → RepV w' M' ρ' a v
  | .bool b, _ => .bool b
  | .int hk, _ => .int hk
  | .str hs, _ => .str hs
  | .roN h0 hm hn, _ => .roN h0 hm hn
  | .ro hl hc hb hlt h1 hp hw hcap hm, _ => .ro (hl.pure h hp) (hc.later h hb hlt) (fun x => hb (h.own _ hlt x)) (Nat.lt_of_lt_of_le hlt h.size) h1 hp hw hcap hm
theorem RepL.pure (h : Later w M w' M') {l : List AV} {vs : List Value} : RepL w M ρ l vs → (∀ a ∈ l, pureLeaf a = true) → RepL w' M' ρ' l vs
  | .nil, _ => .nil
  | .cons hv t, hp => .cons (hv.pure h (hp _ (by simp))) (t.pure h fun a ha => hp a (by simp [ha]))
end

theorem mapv_pure (f : AV → AV) (n : Nat) {a : AV} (h : pureLeaf a = true) : mapv f n a = a := by
  cases a <;> simp [pureLeaf] at h <;> cases n <;> rfl

mutual
theorem RepV.mapv (f : AV → AV) (h : Later w M w' M') (hf : ∀ a v, isRef a = true → RepV w M ρ a v → RepV w' M' ρ' (f a) v) : ∀ (n : Nat) {a : AV} {v : Value}, RepV w M ρ a v → RepV w' M' ρ' (YtcmhpngmjjcloaaGm.mapv f n a) v
  | n, _, _, .top v => by cases n <;> exact .top v
  | n, _, _, .bool b => by cases n <;> exact .bool b
  | n, _, _, .int hk => by cases n <;> exact .int hk
  | n, _, _, .str hs => by cases n <;> exact .str hs
  | n + 1, _, _, .agg hl h1 => .agg (hl.mapv f h hf n) h1
  | 0, _, _, .agg _ _ => .top _
  | n, _, _, .arr hl h1 hp => by cases n <;> exact .arr (hl.pure h fun a ha => pure_of_scalar (hp a ha)) h1 hp
  | n + 1, _, _, .tup hl => .tup (hl.mapv f h hf n)
  | 0, _, _, .tup _ => .top _
  | n, _, _, .nilp => by cases n <;> exact .nilp
  | n, _, _, .ptr e => by cases n <;> exact hf _ _ rfl (.ptr e)
  | n, _, _, .aptr e hi => by cases n <;> exact hf _ _ rfl (.aptr e hi)
  | n, _, _, .eptr hl hc hb hlt h1 hp hw hi => by cases n <;> exact .eptr (hl.pure h hp) (hc.later h hb hlt) (fun x => hb (h.own _ hlt x)) (Nat.lt_of_lt_of_le hlt h.size) h1 hp hw hi
  | n, _, _, .nil => by cases n <;> exact .nil
  | n, _, _, .roN h0 hm hn => by cases n <;> exact .roN h0 hm hn
  | n, _, _, .ro hl hc hb hlt h1 hp hw hcap hm => by cases n <;> exact .ro (hl.pure h hp) (hc.later h hb hlt) (fun x => hb (h.own _ hlt x)) (Nat.lt_of_lt_of_le hlt h.size) h1 hp hw hcap hm
  | n, _, _, .rn hr => by
    have := hr.mapv f h hf n
    cases n <;> exact .rn this
  | n, _, _, .own e h1 => by cases n <;> exact hf _ _ rfl (.own e h1)
  | n, _, _, .subN e => by cases n <;> exact hf _ _ rfl (.subN e)
  | n, _, _, .sub e hle ha => by cases n <;> exact hf _ _ rfl (.sub e hle ha)
  | n + 1, _, _, .fn hl => .fn (hl.mapv f h hf n)
  | 0, _, _, .fn _ => .top _
  | n, _, _, .nilf => by cases n <;> exact .nilf
  | n, _, _, .nilm => by cases n <;> exact .nilm
  | n, _, _, .mapo e => by cases n <;> exact hf _ _ rfl (.mapo e)
  | n + 1, _, _, .iface hv => .iface (hv.mapv f h hf n)
  | 0, _, _, .iface _ => .top _
  | n, _, _, .nili => by cases n <;> exact .nili
theorem RepL.mapv (f : AV → AV) (h : Later w M w' M') (hf : ∀ a v, isRef a = true → RepV w M ρ a v → RepV w' M' ρ' (f a) v) : ∀ (n : Nat) {l : List AV} {vs : List Value}, RepL w M ρ l vs → RepL w' M' ρ' (l.map (YtcmhpngmjjcloaaGm.mapv f n)) vs
  | _, _, _, .nil => .nil
  | n, _, _, .cons hv t => .cons (hv.mapv f h hf n) (t.mapv f h hf n)
end

mutual
/-- The same places, a later world. -/
theorem RepV.later (h : Later w M w' M') (hρ : ∀ (o : Nat) (c : CObj), ρ[o]? = some c → ρ'[o]? = some c) : ∀ {a : AV} {v : Value}, RepV w M ρ a v → RepV w' M' ρ' a v
  | _, _, .top v => .top v
  | _, _, .bool b => .bool b
  | _, _, .int hk => .int hk
  | _, _, .str hs => .str hs
  | _, _, .agg hl h1 => .agg (hl.later h hρ) h1
  | _, _, .arr hl h1 hp => .arr (hl.later h hρ) h1 hp
  | _, _, .tup hl => .tup (hl.later h hρ)
  | _, _, .nilp => .nilp
  | _, _, .ptr e => .ptr (hρ _ _ e)
  | _, _, .aptr e hi => .aptr (hρ _ _ e) hi
  | _, _, .eptr hl hc hb hlt h1 hp hw hi => .eptr (hl.later h hρ) (hc.later h hb hlt) (fun x => hb (h.own _ hlt x)) (Nat.lt_of_lt_of_le hlt h.size) h1 hp hw hi
  | _, _, .nil => .nil
  | _, _, .roN h0 hm hn => .roN h0 hm hn
  | _, _, .ro hl hc hb hlt h1 hp hw hcap hm => .ro (hl.later h hρ) (hc.later h hb hlt) (fun x => hb (h.own _ hlt x)) (Nat.lt_of_lt_of_le hlt h.size) h1 hp hw hcap hm
  | _, _, .rn hr => .rn (hr.later h hρ)
  | _, _, .own e h1 => .own (hρ _ _ e) h1
  | _, _, .subN e => .subN (hρ _ _ e)
  | _, _, .sub e hle ha => .sub (hρ _ _ e) hle ha
  | _, _, .fn hl => .fn (hl.later h hρ)
  | _, _, .nilf => .nilf
  | _, _, .nilm => .nilm
  | _, _, .mapo e => .mapo (hρ _ _ e)
  | _, _, .iface hv => .iface (hv.later h hρ)
  | _, _, .nili => .nili
theorem RepL.later (h : Later w M w' M') (hρ : ∀ (o : Nat) (c : CObj), ρ[o]? = some c → ρ'[o]? = some c) : ∀ {l : List AV} {vs : List Value}, RepL w M ρ l vs → RepL w' M' ρ' l vs
  | _, _, .nil => .nil
  | _, _, .cons hv t => .cons (hv.later h hρ) (t.later h hρ)
end
end transport

/-- An own object, where it lies. -/
inductive RepO (tt : Tab) (w : World) (M : Nat → Prop) (ρ : List CObj) : AObj → CObj → Prop
  | dead (c : CObj) (h : c.block? = none) : RepO tt w M ρ .dead c
  | var {T b : Nat} {cs : List AV} {us : List Value} (hb : w.heap[b]? = some (.cells us.toArray T (0, 0))) (hl : RepL w M ρ cs us) (h1 : ∀ u ∈ us, u.oneCell' = true) : RepO tt w M ρ (.var T cs) (.blk b)
  | arr {E sz : Nat} {p : Pay AV} {v : Value} {us : List Value} (ho : w.ownsRow 0 E sz v p.len us) (hl : RepL w M ρ p.cells us) (h1 : ∀ u ∈ us, u.oneCell' = true)
      (hp : ∀ a ∈ p.cells, pureLeaf a = true) (hw : p.wf) (hs : p.sz = sz) (hE : kindOfPay (emptyPay tt E) p = true) : RepO tt w M ρ (.arr E p) (.row v sz)

def Mof (Mx : Nat → Prop) (ρ : List CObj) (b : Nat) : Prop := Mx b ∨ ∃ c ∈ ρ, c.block? = some b

/-- The own objects and the memory behind them. -/
structure Env (tt : Tab) (w : World) (Mx : Nat → Prop) (ρ : List CObj) (hp : List AObj) : Prop where
  len : ρ.length = hp.length
  obj : ∀ (i : Nat) (o : AObj) (c : CObj), hp[i]? = some o → ρ[i]? = some c → RepO tt w (Mof Mx ρ) ρ o c
  sep : ∀ (i j : Nat) (ci cj : CObj) (b : Nat), i ≠ j → ρ[i]? = some ci → ρ[j]? = some cj → ci.block? = some b → cj.block? ≠ some b
  mx : ∀ (i : Nat) (c : CObj) (b : Nat), ρ[i]? = some c → c.block? = some b → ¬ Mx b
  lt : ∀ b, Mx b → b < w.heap.size

/-- Of what was there, nothing has turned but in the blocks handed over. -/
structure Keeps (w0 w : World) (FP : Nat → Prop) : Prop where
  os : w.os = w0.os
  tape : w.tape = w0.tape
  output : w.output = w0.output
  size : w0.heap.size ≤ w.heap.size
  block : ∀ b, b < w0.heap.size → ¬ FP b → w.heap[b]? = w0.heap[b]?

theorem Keeps.refl (w : World) (FP : Nat → Prop) : Keeps w w FP := ⟨rfl, rfl, rfl, Nat.le_refl _, fun _ _ _ => rfl⟩

/-- The state of the reading and the machine's. -/
structure Rel (tt : Tab) (w0 : World) (FP Mx : Nat → Prop) (ρ0 ρ : List CObj) (s : St) (a : Act) (w : World) : Prop where
  env : Env tt w Mx ρ s.hp
  fr : RepL w (Mof Mx ρ) ρ s.fr a.tmps.toList
  defers : a.defers = []
  keeps : Keeps w0 w FP
  fresh : ∀ (i : Nat) (c : CObj) (b : Nat), ρ[i]? = some c → c.block? = some b → FP b ∨ w0.heap.size ≤ b
  hold : ∀ (i b : Nat), ρ0[i]? = some (.blk b) → ρ[i]? = some (.blk b)
  old : ρ0.length ≤ ρ.length
end Go.Proofs.YtcmhpngmjjcloaaGm
