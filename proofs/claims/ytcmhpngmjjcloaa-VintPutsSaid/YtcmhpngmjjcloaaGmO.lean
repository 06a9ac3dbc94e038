/- A part of a reader of loaded code that is proved sound; no condition. -/
import Derived.Test.YtcmhpngmjjcloaaGmN
namespace Go.Proofs.YtcmhpngmjjcloaaGm

section
variable {P : Program} {tt : Tab} {w w' w0 : World} {FP Mx M M' : Nat → Prop} {ρ ρ0 ρ' : List CObj} {hp : List AObj} {s : St} {a : Act}

theorem rowLeaves_length : ∀ (ts : List Nat) (vs : List AV), (rowLeaves tt hp ts vs).length = vs.length
  | [], vs => by cases vs <;> simp [rowLeaves]
  | _ :: _, [] => by simp [rowLeaves]
  | t :: ts, v :: vs => by simp [rowLeaves, rowLeaves_length ts vs]

/-- Leaves laid into a row. -/
theorem rowLeaves_rep (hE : Env tt w Mx ρ hp) (hL : Later w (Mof Mx ρ) w' M') : ∀ {ts : List Nat} {vs : List AV} {us : List Value}, RepL w (Mof Mx ρ) ρ vs us →
    (∀ i ∈ vs.flatMap (ownIn 0), ∀ E p c b, hget hp i = .arr E p → ρ[i]? = some c → c.block? = some b → ¬ M' b ∧ w'.heap[b]? = w.heap[b]?) →
    (∀ x ∈ rowLeaves tt hp ts vs, pureLeaf x = true) → RepL w' M' ρ' (rowLeaves tt hp ts vs) us
  | [], _, _, .nil, _, _ => .nil
  | [], _, _, .cons h t, _, hp' => by
    simp only [rowLeaves] at hp' ⊢
    exact (RepL.cons h t).pure hL hp'
  | _ :: _, _, _, .nil, _, _ => by simp only [rowLeaves]; exact .nil
  | t :: ts, _, _, .cons (a := v) (v := u) h tl, hM, hp' => by
    simp only [rowLeaves] at hp' ⊢
    refine .cons ?_ (rowLeaves_rep hE hL tl (fun i hi => hM i (by simp [hi])) fun x hx => hp' x (by simp [hx]))
    split
    · cases h with | nil =>
      split
      · exact .roN (emptyPay_len _ _) (by decide) (fun _ => rfl)
      · exact .top _
    · exact h.mapv _ hL (lend_rep hE hL (fun i hi E p c b hE' hc hb => hM i (by simp [hi]) E p c b hE' hc hb) ρ') 0

theorem range_mod {α : Type} (z : List α) (d : α) (hz : 0 < z.length) : ∀ n, (List.range (n * z.length)).map (fun i => z.getD (i % z.length) d) = (List.replicate n z).flatten
  | 0 => by simp
  | n + 1 => by
    rw [Nat.add_mul, Nat.one_mul, List.range_add, List.map_append, range_mod z d hz n, List.replicate_succ', List.flatten_append]
    congr 1
    simp only [List.flatten_cons, List.flatten_nil, List.append_nil, List.map_map]
    apply List.ext_getElem
    · simp
    · intro i h1 h2
      simp only [List.length_map, List.length_range] at h1
      simp [Nat.mod_eq_of_lt h1, h2]

theorem RepL.flatten_replicate {l : List AV} {us : List Value} (h : RepL w M ρ l us) : ∀ n, RepL w M ρ (List.replicate n l).flatten (List.replicate n us).flatten
  | 0 => .nil
  | n + 1 => by
    simp only [List.replicate_succ, List.flatten_cons]
    exact h.append (RepL.flatten_replicate h n)

theorem map_replicate {α β : Type} (f : α → β) (n : Nat) (x : α) : (List.replicate n x).map f = List.replicate n (f x) := by simp

theorem flatten_replicate_one {α : Type} (n : Nat) (x : α) : (List.replicate n [x]).flatten = List.replicate n x := by
  induction n with
  | zero => rfl
  | succ n ih => simp [List.replicate_succ, ih]

theorem zeros_rep (hT : TabOk P tt) {E : Nat} {e : TyE} (he : tget tt E = some e) (hz : zeroOk tt E = true) (n : Nat) :
    ∃ us : List Value, us = (List.replicate n e.zv.cells.toList).flatten ∧ RepL w M ρ (zerosOf tt E n).cells us ∧ (∀ u ∈ us, u.oneCell' = true) ∧ (∀ a ∈ (zerosOf tt E n).cells, pureLeaf a = true) ∧ (zerosOf tt E n).len = n ∧
      (zerosOf tt E n).sz = e.size ∧ (zerosOf tt E n).wf ∧ kindOfPay (emptyPay tt E) (zerosOf tt E n) = true ∧ 0 < e.size := by
  refine ⟨_, rfl, ?_⟩
  have hok := hT E e he
  unfold zeroOk at hz
  rw [he] at hz
  unfold zerosOf emptyPay
  rw [he]
  split at hz
  · rename_i k sz by' k' z lf heq
    cases heq
    simp only [Bool.and_eq_true, decide_eq_true_eq] at hz
    obtain ⟨⟨hk, rfl⟩, hs⟩ := hz
    have := ikEq_eq hk; subst this
    have := Nat.eq_of_beq_eq_true hs; subst this
    have hcells : (Value.int k 0).cells.toList = [.int k 0] := rfl
    have h0 : k.has 0 := ⟨min_le k, max_ge k⟩
    simp only [hcells, flatten_replicate_one]
    have one : ∀ u ∈ List.replicate n (Value.int k 0), u.oneCell' = true := fun u hu => by rw [List.eq_of_mem_replicate hu]; rfl
    have rep : RepL w M ρ (List.replicate n (AV.int k 0)) (List.replicate n (.int k 0)) := RepL.replicate (.int h0) n
    have pur : ∀ a ∈ List.replicate n (AV.int k 0), pureLeaf a = true := fun u hu => by rw [List.eq_of_mem_replicate hu]; rfl
    cases k <;> first
      | (refine ⟨?_, one, ?_, ?_, rfl, trivial, rfl, by decide⟩
         · simpa [Pay.cells] using rep
         · simpa [Pay.cells] using pur
         · simp [Pay.len])
  · cases hz
  · rename_i e' hne hne2 heq
    cases heq
    simp only [Bool.and_eq_true] at hz
    obtain ⟨⟨z1, z2⟩, z3⟩ := hz
    have hpos : 0 < e.size := by simp [Nat.blt] at z3; omega
    obtain ⟨l1, l2⟩ := zero_rep (w := w) (M := M) (ρ := ρ) z1
    have hpure : ∀ x ∈ rowLeaves tt [] e.leaf (leavesOf e.zero), pureLeaf x = true := fun x hx => List.all_eq_true.1 z2 x hx
    have hrow : RepL w M ρ (rowLeaves tt [] e.leaf (leavesOf e.zero)) e.zv.cells.toList := by
      -- no reference among them: laid in any world
      have nr : ∀ {ts : List Nat} {vs : List AV} {us : List Value}, RepL w M ρ vs us → (∀ x ∈ rowLeaves tt [] ts vs, pureLeaf x = true) → RepL w M ρ (rowLeaves tt [] ts vs) us := by
        intro ts
        induction ts with
        | nil => intro vs us h _; cases vs <;> (simp only [rowLeaves]; exact h)
        | cons t ts ih =>
          intro vs us h hp'
          cases h with
          | nil => simp only [rowLeaves]; exact .nil
          | @cons v u l vs' hv ht =>
            simp only [rowLeaves] at hp' ⊢
            refine .cons ?_ (ih ht fun x hx => hp' x (by simp [hx]))
            split
            · cases hv with | nil =>
              split
              · exact .roN (emptyPay_len _ _) (by decide) (fun _ => rfl)
              · exact .top _
            · have hpv := hp' (mapv (lendL (ownIn 0 v) []) 0 v) (by simp)
              cases v with
              | own o =>
                have : mapv (lendL (ownIn 0 (.own o)) []) 0 (.own o) = .top := by simp [mapv, lendL, ownIn, memN, hget]
                rw [this] at hpv; cases hpv
              | sub o i n =>
                have : mapv (lendL (ownIn 0 (.sub o i n)) []) 0 (.sub o i n) = .top := by simp [mapv, lendL, ownIn, memN, hget]
                rw [this] at hpv; cases hpv
              | bool => exact hv
              | int => exact hv
              | str => exact hv
              | ro => exact hv
              | _ => cases hpv
      exact nr l1 hpure
    have hlr : (rowLeaves tt [] e.leaf (leavesOf e.zero)).length = e.size := by
      rw [rowLeaves_length, l1.length]
      have := hok.zs; simpa using this
    have one : ∀ u ∈ (List.replicate n e.zv.cells.toList).flatten, u.oneCell' = true := by
      intro u hu
      obtain ⟨l, hl, hu⟩ := List.mem_flatten.1 hu
      rw [List.eq_of_mem_replicate hl] at hu
      exact l2 u hu
    have pur : ∀ x ∈ (List.replicate n (rowLeaves tt [] e.leaf (leavesOf e.zero))).flatten, pureLeaf x = true := by
      intro u hu
      obtain ⟨l, hl, hu⟩ := List.mem_flatten.1 hu
      rw [List.eq_of_mem_replicate hl] at hu
      exact hpure u hu
    have hrep := hrow.flatten_replicate n
    obtain ⟨d, sz, by', zv, lf⟩ := e
    cases d <;> first
      | (exact ⟨hrep, one, pur, by simp [Pay.len], rfl, ⟨hpos, fun r hr => by rw [List.eq_of_mem_replicate hr]; exact hlr⟩, by simp [kindOfPay], hpos⟩)
      | skip
    · exact (hne2 _ _ _ _ _ rfl).elim
  · cases hz
end
end Go.Proofs.YtcmhpngmjjcloaaGm
