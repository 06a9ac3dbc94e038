/- A part of a reader of loaded code that is proved sound; no condition. -/
import Derived.Test.YtcmhpngmjjcloaaGmF
import Derived.Laws.BytesString
namespace Go.Proofs.YtcmhpngmjjcloaaGm

section pays
variable {p q r : Pay AV}

theorem flatten_len {s : Nat} : ∀ {l : List (List AV)}, (∀ x ∈ l, x.length = s) → l.flatten.length = l.length * s
  | [], _ => by simp
  | a :: l, h => by
    have := flatten_len (l := l) fun x hx => h x (by simp [hx])
    simp [this, h a (by simp), Nat.add_mul]; omega

theorem flatten_drop {s : Nat} : ∀ {l : List (List AV)} (n : Nat), (∀ x ∈ l, x.length = s) → (l.drop n).flatten = l.flatten.drop (n * s)
  | l, 0, _ => by simp
  | [], n + 1, _ => by simp
  | a :: l, n + 1, h => by
    have := flatten_drop (l := l) n fun x hx => h x (by simp [hx])
    have ha := h a (by simp)
    simp only [List.drop_succ_cons, List.flatten_cons, this]
    rw [show (n + 1) * s = a.length + n * s by rw [ha, Nat.add_mul]; omega, List.drop_append]
    simp

theorem flatten_take {s : Nat} : ∀ {l : List (List AV)} (n : Nat), (∀ x ∈ l, x.length = s) → (l.take n).flatten = l.flatten.take (n * s)
  | l, 0, _ => by simp
  | [], n + 1, _ => by simp
  | a :: l, n + 1, h => by
    have := flatten_take (l := l) n fun x hx => h x (by simp [hx])
    have ha := h a (by simp)
    simp only [List.take_succ_cons, List.flatten_cons, this]
    rw [show (n + 1) * s = a.length + n * s by rw [ha, Nat.add_mul]; omega, List.take_append, List.take_of_length_le (l := a) (by omega)]
    simp

theorem Pay.sz_pos (h : p.wf) : 0 < p.sz := by cases p <;> simp [Pay.wf, Pay.sz] at *; exact h.1

theorem Pay.cells_length (h : p.wf) : p.cells.length = p.len * p.sz := by
  cases p with
  | bytes l => simp [Pay.cells, Pay.len, Pay.sz]
  | ints k l => simp [Pay.cells, Pay.len, Pay.sz]
  | rows s l => simp only [Pay.cells, Pay.len, Pay.sz]; exact flatten_len h.2

theorem Pay.cut_wf (h : p.wf) (a n : Nat) : (p.cut a n).wf := by
  cases p with
  | bytes l => trivial
  | ints k l => trivial
  | rows s l => exact ⟨h.1, fun x hx => h.2 x (List.mem_of_mem_drop (List.mem_of_mem_take hx))⟩

theorem Pay.from_wf (h : p.wf) (a : Nat) : (p.from a).wf := by
  cases p with
  | bytes l => trivial
  | ints k l => trivial
  | rows s l => exact ⟨h.1, fun x hx => h.2 x (List.mem_of_mem_drop hx)⟩

theorem Pay.cut_sz (a n : Nat) : (p.cut a n).sz = p.sz := by cases p <;> rfl
theorem Pay.from_sz (a : Nat) : (p.from a).sz = p.sz := by cases p <;> rfl
theorem Pay.cut_len (a n : Nat) (h : a + n ≤ p.len) : (p.cut a n).len = n := by
  cases p <;> simp [Pay.cut, Pay.len] at * <;> omega
theorem Pay.from_len (a : Nat) : (p.from a).len = p.len - a := by cases p <;> simp [Pay.from, Pay.len]

theorem Pay.cells_cut (h : p.wf) (a n : Nat) : (p.cut a n).cells = (p.cells.drop (a * p.sz)).take (n * p.sz) := by
  cases p with
  | bytes l => simp [Pay.cut, Pay.cells, Pay.sz, List.map_take, List.map_drop]
  | ints k l => simp [Pay.cut, Pay.cells, Pay.sz, List.map_take, List.map_drop]
  | rows s l =>
    simp only [Pay.cut, Pay.cells, Pay.sz]
    rw [flatten_take (s := s) n fun x hx => h.2 x (List.mem_of_mem_drop hx), flatten_drop (s := s) a h.2]

theorem Pay.cells_from (h : p.wf) (a : Nat) : (p.from a).cells = p.cells.drop (a * p.sz) := by
  cases p with
  | bytes l => simp [Pay.from, Pay.cells, Pay.sz, List.map_drop]
  | ints k l => simp [Pay.from, Pay.cells, Pay.sz, List.map_drop]
  | rows s l =>
    simp only [Pay.from, Pay.cells, Pay.sz]
    rw [flatten_drop (s := s) a h.2]

theorem take_one_drop {α : Type} (l : List α) (i : Nat) (d : α) (h : i < l.length) : (l.drop i).take 1 = [l.getD i d] := by
  induction l generalizing i with
  | nil => simp at h
  | cons a l ih => cases i with
    | zero => simp
    | succ i => simpa using ih i (by simpa using h)

theorem Pay.leaves_eq (h : p.wf) (i : Nat) (hi : i < p.len) : p.leaves i = (p.cells.drop (i * p.sz)).take p.sz := by
  cases p with
  | bytes l =>
    simp only [Pay.len] at hi
    simp only [Pay.leaves, Pay.cells, Pay.sz, Nat.mul_one]
    rw [← List.map_drop, ← List.map_take, take_one_drop l i 0 hi]; rfl
  | ints k l =>
    simp only [Pay.len] at hi
    simp only [Pay.leaves, Pay.cells, Pay.sz, Nat.mul_one]
    rw [← List.map_drop, ← List.map_take, take_one_drop l i 0 hi]; rfl
  | rows s l =>
    simp only [Pay.len] at hi
    simp only [Pay.leaves, Pay.cells, Pay.sz]
    have e := flatten_take (s := s) (l := l.drop i) 1 fun x hx => h.2 x (List.mem_of_mem_drop hx)
    rw [Nat.one_mul] at e
    rw [← flatten_drop (s := s) i h.2, ← e, take_one_drop l i [] hi]
    simp

theorem nth_eq_getElem? (l : List AV) (i : Nat) : nth l i = (l[i]?).getD .top := by
  induction l generalizing i with
  | nil => rfl
  | cons a l ih => cases i with
    | zero => rfl
    | succ i => simpa [nth] using ih i

theorem Pay.leaf_eq (h : p.wf) (i off : Nat) (hi : i < p.len) (ho : off < p.sz) : p.leaf i off = nth (p.leaves i) off := by
  cases p with
  | bytes l => simp only [Pay.sz] at ho; obtain rfl : off = 0 := by omega
               rfl
  | ints k l => simp only [Pay.sz] at ho; obtain rfl : off = 0 := by omega
                rfl
  | rows s l => rfl

theorem ikEq_refl (k : IntKind) : ikEq k k = true := by cases k <;> rfl

theorem Pay.app_forms {r : Pay AV} (h : p.app q = some r) :
    (∃ l m, p = .bytes l ∧ q = .bytes m ∧ r = .bytes (l ++ m)) ∨ (∃ k l m, p = .ints k l ∧ q = .ints k m ∧ r = .ints k (l ++ m)) ∨
    (∃ s l m, p = .rows s l ∧ q = .rows s m ∧ r = .rows s (l ++ m)) := by
  cases p <;> cases q <;> simp only [Pay.app] at h <;> try cases h
  · exact .inl ⟨_, _, rfl, rfl, rfl⟩
  · rename_i k l k' m
    cases hk : ikEq k k' <;> simp only [hk, cond_true, cond_false] at h <;> cases h
    have := ikEq_eq hk; subst this
    exact .inr (.inl ⟨_, _, _, rfl, rfl, rfl⟩)
  · rename_i k l k' m
    cases hk : Nat.beq k k' <;> simp only [hk, cond_true, cond_false] at h <;> cases h
    have := Nat.eq_of_beq_eq_true hk; subst this
    exact .inr (.inr ⟨_, _, _, rfl, rfl, rfl⟩)

theorem Pay.app_some {r : Pay AV} (h : p.app q = some r) : r.cells = p.cells ++ q.cells ∧ r.len = p.len + q.len ∧ r.sz = p.sz ∧ q.sz = p.sz := by
  rcases Pay.app_forms h with ⟨l, m, rfl, rfl, rfl⟩ | ⟨k, l, m, rfl, rfl, rfl⟩ | ⟨s, l, m, rfl, rfl, rfl⟩ <;> simp [Pay.cells, Pay.len, Pay.sz]

theorem Pay.app_wf {r : Pay AV} (h : p.app q = some r) (hp : p.wf) (hq : q.wf) : r.wf := by
  rcases Pay.app_forms h with ⟨l, m, rfl, rfl, rfl⟩ | ⟨k, l, m, rfl, rfl, rfl⟩ | ⟨s, l, m, rfl, rfl, rfl⟩
  · trivial
  · trivial
  · exact ⟨hp.1, fun x hx => (List.mem_append.1 hx).elim (hp.2 x) (hq.2 x)⟩

theorem Pay.app_kind {r e : Pay AV} (h : p.app q = some r) (hk : kindOfPay e p = true) : kindOfPay e r = true := by
  rcases Pay.app_forms h with ⟨l, m, rfl, rfl, rfl⟩ | ⟨k, l, m, rfl, rfl, rfl⟩ | ⟨s, l, m, rfl, rfl, rfl⟩ <;> cases e <;> simp only [kindOfPay] at * <;> exact hk
end pays

/-- A slice value that holds 'p', to be read. -/
def Holds (w : World) (M : Nat → Prop) (ρ : List CObj) (u : Value) (p : Pay AV) : Prop :=
  ∃ a cap us, u = .slice a p.len cap ∧ p.len ≤ cap ∧ cap ≤ maxLen ∧ (a = none → cap = 0) ∧
    (p.len = 0 ∨ ∃ b base, a = some ⟨b, base, none⟩ ∧ b < w.heap.size ∧ RepL w M ρ p.cells us ∧ CellsAt w b base us ∧ (∀ u ∈ us, u.oneCell' = true) ∧ (∀ a ∈ p.cells, pureLeaf a = true) ∧ p.wf)

theorem hget_some {hp : List AObj} {o : Nat} {x : AObj} (h : hget hp o = x) (hx : x ≠ .dead) : hp[o]? = some x := by
  induction hp generalizing o with
  | nil => exact absurd h.symm hx
  | cons a l ih => cases o with
    | zero => simp [hget] at h; simp [h]
    | succ o => simpa using ih (o := o) h

section
variable {tt : Tab} {w : World} {Mx : Nat → Prop} {ρ : List CObj} {hp : List AObj} {P : Program}

theorem Env.at (hE : Env tt w Mx ρ hp) {o : Nat} {x : AObj} (h : hp[o]? = some x) : ∃ c, ρ[o]? = some c ∧ RepO tt w (Mof Mx ρ) ρ x c := by
  have hlt : o < hp.length := by
    rcases Nat.lt_or_ge o hp.length with h' | h'
    · exact h'
    · simp [List.getElem?_eq_none h'] at h
  have : ∃ c, ρ[o]? = some c := ⟨ρ[o]'(by rw [hE.len]; exact hlt), by simp [hE.len, hlt]⟩
  obtain ⟨c, hc⟩ := this
  exact ⟨c, hc, hE.obj o x c h hc⟩

theorem emptyPay_len (tt : Tab) (E : Nat) : (emptyPay tt E).len = 0 := by unfold emptyPay; split <;> rfl

theorem ownsRow_cells {w : World} {E sz n : Nat} {v : Value} {us : List Value} (h : w.ownsRow 0 E sz v n us) :
    (v = .slice none 0 0 ∧ n = 0) ∨ ∃ g cap, v = .slice (some ⟨g, 0, none⟩) n cap ∧ n ≤ cap ∧ cap ≤ maxLen ∧ g < w.heap.size ∧ CellsAt w g 0 us := by
  rcases h.2 with h0 | ⟨g, cap, cur, rfl, _, hg, hn, hm, hcs, htake⟩
  · exact .inl h0
  · refine .inr ⟨g, cap, rfl, hn, hm, (Array.getElem?_eq_some_iff.1 hg).1, ?_⟩
    intro j u hu
    have := World.ownsRow.cells h (g := g) rfl j u hu
    have hadd : (⟨g, 0, none⟩ : Addr).add j = ⟨g, 0 + j, none⟩ := by unfold Addr.add; split <;> simp_all
    rw [hadd] at this
    exact this

theorem CellsAt.drop {w : World} {b base : Nat} {us : List Value} (h : CellsAt w b base us) (n : Nat) : CellsAt w b (base + n) (us.drop n) := by
  intro j u hu
  rw [List.getElem?_drop] at hu
  have := h _ u hu
  rw [show base + n + j = base + (n + j) by omega]; exact this

theorem CellsAt.take {w : World} {b base : Nat} {us : List Value} (h : CellsAt w b base us) (n : Nat) : CellsAt w b base (us.take n) := by
  intro j u hu
  rw [List.getElem?_take] at hu
  split at hu
  · exact h j u hu
  · cases hu

theorem payOf_holds (hE : Env tt w Mx ρ hp) {E : Nat} {x : AV} {u : Value} {p : Pay AV} (hx : RepV w (Mof Mx ρ) ρ x u) (h : payOf tt E hp x = some p) : Holds w (Mof Mx ρ) ρ u p := by
  unfold payOf at h
  split at h
  · cases h
    cases hx with | nil =>
    exact ⟨none, 0, [], by rw [emptyPay_len], by rw [emptyPay_len]; exact Nat.le_refl _, by decide, fun _ => rfl, .inl (emptyPay_len _ _)⟩
  · cases h
    cases hx with
    | roN h0 hm hn => exact ⟨_, _, [], by rw [h0], by omega, hm, hn, .inl h0⟩
    | ro hl hc hb hlt h1 hp hw hcap hm => exact ⟨_, _, _, rfl, hcap, hm, by simp, .inr ⟨_, _, rfl, hlt, hl, hc, h1, hp, hw⟩⟩
  · cases h
    cases hx with | rn hx =>
    cases hx with
    | roN h0 hm hn => exact ⟨_, _, [], by rw [h0], by omega, hm, hn, .inl h0⟩
    | ro hl hc hb hlt h1 hp hw hcap hm => exact ⟨_, _, _, rfl, hcap, hm, by simp, .inr ⟨_, _, rfl, hlt, hl, hc, h1, hp, hw⟩⟩
  · rename_i o
    split at h
    · rename_i E' p' ho
      cases h
      obtain ⟨c, hc, hr⟩ := hE.at (hget_some ho (by simp))
      cases hx with | own h' =>
      rw [hc] at h'; cases h'
      cases hr with | arr hro hl h1 hpl hw hs hE' =>
      rcases ownsRow_cells hro with ⟨rfl, h0⟩ | ⟨g, cap, rfl, hn, hm, hlt, hcl⟩
      · exact ⟨none, 0, [], by rw [h0], by omega, by decide, fun _ => rfl, .inl h0⟩
      · exact ⟨_, _, _, rfl, hn, hm, by simp, .inr ⟨_, _, rfl, hlt, hl, hcl, h1, hpl, hw⟩⟩
    · cases h
  · rename_i o a n
    split at h
    · rename_i E' p' ho
      cases h
      obtain ⟨c, hc, hr⟩ := hE.at (hget_some ho (by simp))
      cases hx with
      | subN h' =>
        rw [hc] at h'; cases h'
        cases hr with | arr hro hl h1 hpl hw hs hE' =>
        have : (p'.cut 0 0).len = 0 := by rw [Pay.cut_len]; omega
        exact ⟨none, 0, [], by rw [this], by omega, by decide, fun _ => rfl, .inl this⟩
      | @sub _ _ _ g m cap sz addr h' hle ha =>
        rw [hc] at h'; cases h'
        cases hr with | @arr _ _ _ _ us hro hl h1 hpl hw hs hE' =>
        rcases ownsRow_cells hro with ⟨h0, _⟩ | ⟨g', cap', he, hn, hm, hlt, hcl⟩
        · cases h0
        · cases he
          have hlen : (p'.cut a n).len = n := Pay.cut_len a n hle
          refine ⟨some addr, cap - a, (us.drop (a * p'.sz)).take (n * p'.sz), by rw [hlen], by omega, by omega, by simp, ?_⟩
          rw [hlen]
          rcases Nat.eq_zero_or_pos n with h0 | h0
          · exact .inl h0
          · refine .inr ⟨g, a * p'.sz, ?_, hlt, ?_, ?_, ?_, ?_, Pay.cut_wf hw a n⟩
            · rw [ha (by omega), hs]
            · rw [Pay.cells_cut hw]; exact (hl.drop _).take _
            · have := (hcl.drop (a * p'.sz)).take (n * p'.sz)
              rw [Nat.zero_add] at this; exact this
            · exact fun u hu => h1 u (List.mem_of_mem_drop (List.mem_of_mem_take hu))
            · rw [Pay.cells_cut hw]; exact fun u hu => hpl u (List.mem_of_mem_drop (List.mem_of_mem_take hu))
    · cases h
  · cases h
end
end Go.Proofs.YtcmhpngmjjcloaaGm
