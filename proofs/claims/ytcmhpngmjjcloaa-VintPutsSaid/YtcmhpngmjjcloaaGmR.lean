/- A part of a reader of loaded code that is proved sound; no condition. -/
import Derived.Test.YtcmhpngmjjcloaaGmQ
namespace Go.Proofs.YtcmhpngmjjcloaaGm

section
variable {P : Program} {tt : Tab} {w w' w0 : World} {FP Mx M M' : Nat → Prop} {ρ ρ0 ρ' : List CObj} {hp : List AObj} {s : St} {a : Act}

/-- What is appended, to be read in any later world. -/
def Src (P : Program) (w : World) (size : Nat) (x : Value) (n : Nat) (news : List Value) : Prop :=
  (∀ w1 : World, (Builtin.lenOf x).run P w1 = .ok n w1) ∧ ∀ w1, Grew w w1 → (Builtin.firstCells size n x).run P w1 = .ok news.toArray w1

theorem run_append_stay {t tx ty E size cap len n : Nat} {dx : TypeDesc} {base : Option Addr} {x : Value} {news : List Value} {e : TyE} (hok : TyOk P E e) (ht : P.underlying t = some (.slice E)) (htx : P.underlying tx = some dx)
    (hdx : (∃ E', dx = .slice E') ∨ dx = .string) (hsz : e.size = size) (hs : Src P w size x n news) (hfit : len + n ≤ cap) :
    (Builtin.append_ #[t, tx] ty #[.slice base len cap, x]).run P w = ((match base with | some a => storeCells (a.add (len * size)) news | none => pure ()).run P w).andThen fun _ w => .ok (.slice base (len + n) cap) w := by
  obtain ⟨i, hi, hz, h1, h2⟩ := hok.info'
  obtain ⟨s1, s2⟩ := hs
  have := s2 w (.refl w)
  simp only [Builtin.append_]
  simp only [Sem.run_bind, List.getElem?_toArray, List.getElem?_cons_zero, List.getElem?_cons_succ, run_underlying ht, run_underlying htx, Result.andThen_ok, Sem.run_pure]
  rcases hdx with ⟨E', rfl⟩ | rfl
  all_goals
    simp [sizeOf, typeInfo, hi, h1, hsz, s1, hfit, this]
    cases base <;> simp

theorem run_append_new {t tx ty E size cap len n : Nat} {dx : TypeDesc} {base : Option Addr} {x : Value} {olds news : List Value} {e : TyE} (hok : TyOk P E e) (ht : P.underlying t = some (.slice E)) (htx : P.underlying tx = some dx)
    (hdx : (∃ E', dx = .slice E') ∨ dx = .string) (hsz : e.size = size) (hs : Src P w size x n news) (ho : (Builtin.firstCells size len (.slice base len cap)).run P w.drew = .ok olds.toArray w.drew) (hgrow : cap < len + n)
    (hfit : (len + n) * e.bytes ≤ 140737488355328) (h63 : len + n ≤ maxLen) :
    (Builtin.append_ #[t, tx] ty #[.slice base len cap, x]).run P w = .ok (.slice (some ⟨w.heap.size, 0, none⟩) (len + n) (grownCap w (len + n) cap E))
      (w.drew.alloc (.cells (olds ++ news ++ (Builtin.zeroCells e.zv.cells (grownCap w (len + n) cap E - (len + n))).toList).toArray E)) := by
  obtain ⟨i, hi, hz, h1, h2⟩ := hok.info'
  obtain ⟨s1, s2⟩ := hs
  have hnw := s2 w.drew grew_drew
  have hn : ¬ (len + n ≤ cap) := by omega
  have h63' : ¬ (9223372036854775807 < ((len : Int) + (n : Int))) := by simp only [maxLen] at h63; omega
  have hg := growslice_fits hgrow hfit
  have h48' : ¬ (281474976710656 < Builtin.nextslicecap (len + n) cap * i.bytes) := by rw [h2]; omega
  simp only [Builtin.append_]
  simp only [Sem.run_bind, List.getElem?_toArray, List.getElem?_cons_zero, List.getElem?_cons_succ, run_underlying ht, run_underlying htx, Result.andThen_ok, Sem.run_pure]
  rcases hdx with ⟨E', rfl⟩ | rfl
  all_goals
    simp [sizeOf, typeInfo, zeroValue, hi, hz, h1, hsz, s1, hn, h63', h48', Question.forced, ho, hnw, newRow, grownCap]
    congr 2
    apply Array.ext'
    simp

theorem payOf_src (hE : Env tt w Mx ρ hp) {E : Nat} {x : AV} {u : Value} {q : Pay AV} (hx : RepV w (Mof Mx ρ) ρ x u) (h : payOf tt E hp x = some q) :
    ∃ us, Src P w q.sz u q.len us ∧ RepL w (Mof Mx ρ) ρ q.cells us ∧ (∀ u ∈ us, u.oneCell' = true) ∧ (q.len = 0 ∨ ((∀ a ∈ q.cells, pureLeaf a = true) ∧ q.wf)) := by
  obtain ⟨a, cap, us, rfl, hlc, hm, hn, hcs⟩ := payOf_holds hE hx h
  rcases hcs with h0 | ⟨b, base, rfl, hlt, hl, hc, h1, hp', hw⟩
  · have hq : q.cells = [] := by
      cases q <;> simp [Pay.len, Pay.cells] at * <;> simp [h0]
    refine ⟨[], ⟨fun w1 => rfl, fun w1 _ => ?_⟩, by rw [hq]; exact .nil, by simp, .inl h0⟩
    cases a with
    | none => rfl
    | some a => rw [h0]; simp [Builtin.firstCells, loadCells, loadCellsFrom]
  · refine ⟨us, ⟨fun w1 => rfl, fun w1 hg => ?_⟩, hl, h1, .inr ⟨hp', hw⟩⟩
    have hus : us.length = q.len * q.sz := by rw [← hl.length]; exact Pay.cells_length hw
    exact run_firstCells_some (P := P) w1 q.sz q.len ⟨b, base, none⟩ q.len cap us hus fun j v hv => by
      rw [addr_add]
      have := hc j v hv
      rw [← this]
      exact World.cell?_of_block (hg.block b hlt)

theorem str_src {z : ByteArray} : Src P w 1 (.string z) z.size (z.data.toList.map fun b => .int .u8 b.toNat) := by
  refine ⟨fun w1 => rfl, fun w1 _ => ?_⟩
  simp only [Builtin.firstCells, Sem.run_pure]
  congr 1
  apply Array.ext'
  simp

theorem zeroCells_length (z : Array Value) (n : Nat) : (Builtin.zeroCells z n).toList.length = n * z.size := by simp [Builtin.zeroCells]

theorem take_append_len {α : Type} (l m : List α) (n : Nat) (h : n = l.length) : (l ++ m).take n = l := by subst h; simp

/-- AN APPEND. -/
theorem append_core (hT : TabOk P tt) {t tx ty E : Nat} {dx : TypeDesc} {e : TyE} (he : tget tt E = some e) (ht : P.underlying t = some (.slice E)) (htx : P.underlying tx = some dx)
    (hdx : (∃ E', dx = .slice E') ∨ dx = .string) {p0 q p : Pay AV} {v x : Value} {us news : List Value} (hown : w.ownsRow 0 E e.size v p0.len us) (hl : RepL w M ρ p0.cells us)
    (hs0 : p0.sz = e.size) (hw0 : p0.wf) (hsrc : Src P w e.size x q.len news) (hq : RepL w M ρ q.cells news) (hq1 : ∀ u ∈ news, u.oneCell' = true) (hwq : q.len = 0 ∨ q.wf) (happ : p0.app q = some p)
    (hfit : p.len * e.bytes ≤ 140737488355328) (h63 : p.len ≤ maxLen) :
    ∃ v' w', (Builtin.append_ #[t, tx] ty #[v, x]).run P w = .ok v' w' ∧ w'.os = w.os ∧ w'.tape = w.tape ∧ w'.output = w.output ∧ w.heap.size ≤ w'.heap.size ∧
      (∀ b, b < w.heap.size → v.ownBlock ≠ some b → w'.heap[b]? = w.heap[b]?) ∧ (∀ b, v'.ownBlock = some b → (v.ownBlock = some b ∨ w.heap.size ≤ b) ∧ b < w'.heap.size) ∧
      w'.ownsRow 0 E e.size v' p.len (us ++ news) ∧ v'.oneCell' = true := by
  have hok := hT E e he
  obtain ⟨a1, a2, a3, a4⟩ := Pay.app_some happ
  have hus : us.length = p0.len * e.size := by rw [← hs0, ← hl.length]; exact Pay.cells_length hw0
  have hnews : news.length = q.len * e.size := by
    rcases hwq with h0 | hwq
    · have hq0 : q.cells = [] := by cases q <;> simp [Pay.len, Pay.cells] at * <;> simp [h0]
      rw [hq0] at hq
      cases hq
      rw [h0]; simp
    · rw [← hq.length, Pay.cells_length hwq, a4, hs0]
  have hcz := hok.zs
  rw [a2] at hfit h63
  have hcat : (us ++ news).length = (p0.len + q.len) * e.size := by rw [List.length_append, hus, hnews, Nat.add_mul]
  -- a new block
  have grown : ∀ (base : Option Addr) (cap : Nat), cap < p0.len + q.len → (Builtin.firstCells e.size p0.len (.slice base p0.len cap)).run P w.drew = .ok us.toArray w.drew → v = .slice base p0.len cap →
      ∃ v' w', (Builtin.append_ #[t, tx] ty #[v, x]).run P w = .ok v' w' ∧ w'.os = w.os ∧ w'.tape = w.tape ∧ w'.output = w.output ∧ w.heap.size ≤ w'.heap.size ∧
      (∀ b, b < w.heap.size → v.ownBlock ≠ some b → w'.heap[b]? = w.heap[b]?) ∧ (∀ b, v'.ownBlock = some b → (v.ownBlock = some b ∨ w.heap.size ≤ b) ∧ b < w'.heap.size) ∧
      w'.ownsRow 0 E e.size v' (p0.len + q.len) (us ++ news) ∧ v'.oneCell' = true := by
    rintro base cap hgrow hold rfl
    have hrun := run_append_new (ty := ty) hok ht htx hdx rfl hsrc hold hgrow hfit h63
    have hge := grownCap_ge w (p0.len + q.len) cap E
    have hcm := grownCap_le_maxLen w (p0.len + q.len) cap E h63
    refine ⟨_, _, hrun, rfl, rfl, rfl, by simp, fun b hb _ => Go.RowKit.Below.heap_alloc w.drew _ b hb, fun b hb => by cases hb; simp, ⟨hcat, .inr ⟨w.heap.size, _, _, rfl, Nat.zero_le _, heap_alloc_new w.drew _, hge, hcm, ?_, ?_⟩⟩, rfl⟩
    · simp only [List.size_toArray, List.length_append, hus, hnews, zeroCells_length, hcz, ← Nat.add_mul]
      congr 1; omega
    · rw [List.toList_toArray]
      exact take_append_len _ _ _ (by rw [hcat])
  rw [a2]
  rcases hown.2 with ⟨rfl, h0⟩ | ⟨g, cap, cur, rfl, _, hg, hn, hm, hcs, htake⟩
  · have hus0 : us = [] := List.eq_nil_of_length_eq_zero (by rw [hus, h0]; simp)
    rcases Nat.eq_zero_or_pos q.len with hq0 | hq0
    · have hn0 : news = [] := List.eq_nil_of_length_eq_zero (by rw [hnews, hq0]; simp)
      have hrun := run_append_stay (ty := ty) (cap := 0) (len := 0) (base := none) hok ht htx hdx rfl hsrc (by omega)
      refine ⟨.slice none 0 0, w, by rw [hrun]; simp [hq0], rfl, rfl, rfl, Nat.le_refl _, fun _ _ _ => rfl, (fun b hb => by cases hb), ?_, rfl⟩
      rw [hus0, hn0, h0, hq0]
      exact World.ownsRow_nil w 0 E e.size
    · have e1 := grown none 0 (by omega) (by rw [hus0]; rfl) (by rw [h0])
      exact e1
  · by_cases hroom : p0.len + q.len ≤ cap
    · have hrun := run_append_stay (ty := ty) (base := some ⟨g, 0, none⟩) hok ht htx hdx rfl hsrc hroom
      have hfit' : 0 + p0.len * e.size + 0 + news.length ≤ cur.size := by
        rw [hnews, hcs, Nat.zero_add, Nat.add_zero, ← Nat.add_mul]; exact Nat.mul_le_mul_right _ hroom
      have hst := run_storeCells_at P g (0 + p0.len * e.size) E news 0 cur w hg hfit' hq1
      simp only [Nat.add_zero, Nat.zero_add] at hst
      refine ⟨.slice (some ⟨g, 0, none⟩) (p0.len + q.len) cap, w.setRow g (cur.toList.take (p0.len * e.size) ++ news ++ cur.toList.drop (p0.len * e.size + news.length)).toArray, ?_, rfl, rfl, rfl, ?_, fun b _ hb => ?_, fun b hb => ?_, ⟨hcat, .inr ⟨g, cap, _, rfl, Nat.zero_le _, setRow_heap w g cur _ E _ hg, hroom, hm, ?_, ?_⟩⟩, rfl⟩
      rotate_left
      · simp
      · exact setRow_other w g b _ fun e => hb (by simp [Value.ownBlock, e])
      · refine ⟨.inl hb, ?_⟩
        simp [Value.ownBlock] at hb; subst hb
        have := (Array.getElem?_eq_some_iff.1 hg).1
        simpa using this
      · simp only [List.size_toArray, List.length_append, List.length_take, List.length_drop, Array.length_toList]
        omega
      · rw [List.toList_toArray, htake]
        exact take_append_len _ _ _ (by rw [hcat])
      · rw [hrun]
        simp only [addr_add, Nat.zero_add, hst, Result.andThen_ok]
    · have hcells : ∀ j u, us[j]? = some u → w.cell? ((⟨g, 0, none⟩ : Addr).add j) = some u := hown.cells (g := g) rfl
      exact grown (some ⟨g, 0, none⟩) cap (by omega) (run_firstCells_some (P := P) w.drew e.size p0.len ⟨g, 0, none⟩ p0.len cap us hus hcells) rfl

theorem isTy_src (hT : TabOk P tt) {tx : Nat} (h : isTy tt tx isSrcTy = true) : ∃ dx, P.underlying tx = some dx ∧ ((∃ E', dx = .slice E') ∨ dx = .string) := by
  obtain ⟨e, he, hd⟩ := isTy_some hT h
  cases hdd : e.d <;> simp [hdd, isSrcTy] at hd
  · exact ⟨_, he.str hdd, .inr rfl⟩
  · exact ⟨_, he.slice hdd, .inl ⟨_, rfl⟩⟩

theorem app_wf' {p0 q p : Pay AV} (happ : p0.app q = some p) (hw : p0.wf) (hq : q.len = 0 ∨ q.wf) : p.wf := by
  rcases hq with h0 | hq
  · rcases Pay.app_forms happ with ⟨l, m, rfl, rfl, rfl⟩ | ⟨k, l, m, rfl, rfl, rfl⟩ | ⟨s, l, m, rfl, rfl, rfl⟩
    · trivial
    · trivial
    · have : m = [] := List.eq_nil_of_length_eq_zero h0
      subst this; simpa using hw
  · exact Pay.app_wf happ hw hq

theorem emptyPay_cells (tt : Tab) (E : Nat) : (emptyPay tt E).cells = [] := by unfold emptyPay; split <;> rfl
theorem emptyPay_kind (tt : Tab) (E : Nat) : kindOfPay (emptyPay tt E) (emptyPay tt E) = true := by
  unfold emptyPay
  split <;> simp [kindOfPay, ikEq_refl]

theorem append_step (hT : TabOk P tt) (h : Rel tt w0 FP Mx ρ0 ρ s a w) {t tx ty : Nat} {b x : AV} {v u : Value} (hb : RepV w (Mof Mx ρ) ρ b v) (hx : RepV w (Mof Mx ρ) ρ x u) (htx : isTy tt tx isSrcTy = true)
    {d : Option Nat} {s' : St} (hs : aappend (R := Option St) none tt t d b x s some = some s') :
    ∃ v' w', (Builtin.append_ #[t, tx] ty #[v, u]).run P w = .ok v' w' ∧ Goes tt w0 FP Mx ρ0 s' (a.put d v') w' := by
  obtain ⟨dx, hdx, hdx'⟩ := isTy_src hT htx
  unfold aappend at hs
  split at hs
  case h_2 => cases hs
  rename_i E sz1 by1 zv1 lf1 ht
  have htt := (hT t _ ht).slice rfl
  split at hs
  case h_2 => cases hs
  rename_i e he
  split at hs
  case h_2 => cases hs
  rename_i q hq
  -- the source
  have hsrc : ∃ us, Src P w q.sz u q.len us ∧ RepL w (Mof Mx ρ) ρ q.cells us ∧ (∀ u ∈ us, u.oneCell' = true) ∧ (q.len = 0 ∨ ((∀ a ∈ q.cells, pureLeaf a = true) ∧ q.wf)) := by
    split at hq
    · rename_i m
      cases hq
      cases hx with | @str z hz =>
      refine ⟨_, ?_, bytes_repL _, fun u hu => ?_, .inr ⟨fun a ha => ?_, trivial⟩⟩
      · have := str_src (P := P) (w := w) (z := z)
        have e : (Pay.bytes (α := AV) z.data.toList).len = z.size := by simp [Pay.len]
        rw [e]; exact this
      · obtain ⟨b, _, rfl⟩ := List.mem_map.1 hu; rfl
      · obtain ⟨b, _, rfl⟩ := List.mem_map.1 ha; rfl
    · exact payOf_src h.env hx hq
  obtain ⟨news, g1, g2, g3, g4⟩ := hsrc
  have pureq : ∀ a ∈ q.cells, pureLeaf a = true := by
    rcases g4 with h0 | ⟨hp, _⟩
    · have hq0 : q.cells = [] := by cases q <;> simp [Pay.len, Pay.cells] at * <;> simp [h0]
      rw [hq0]; simp
    · exact hp
  have wq : q.len = 0 ∨ q.wf := g4.imp id (·.2)
  split at hs
  · -- onto nil
    cases hb with | nil =>
    split at hs
    case h_2 => cases hs
    rename_i p happ
    cases hc : (appOk e p && appFits e p) <;> simp only [hc, cond_true, cond_false] at hs <;> cases hs
    simp only [Bool.and_eq_true, appOk, appFits] at hc
    obtain ⟨⟨⟨c1, c2⟩, c3⟩, c4⟩ := hc
    have c1 := Nat.eq_of_beq_eq_true c1
    have c2 : 0 < e.size := by simp [Nat.blt] at c2; omega
    have c3 : 0 < e.bytes := by simp [Nat.blt] at c3; omega
    have c4 := Nat.le_of_ble_eq_true c4
    obtain ⟨a1, a2, a3, a4⟩ := Pay.app_some happ
    have hmax : p.len ≤ maxLen := by
      have : p.len ≤ p.len * e.bytes := Nat.le_mul_of_pos_right _ c3
      simp only [maxLen]; omega
    have hs0 : (emptyPay tt E).sz = e.size := by rw [← a3, c1]
    have hw0 : (emptyPay tt E).wf := by
      have hh := hs0
      unfold emptyPay at hh ⊢
      split <;> first | trivial | (refine ⟨?_, by simp⟩; simp_all [Pay.sz])
    have own0 : w.ownsRow 0 E e.size (.slice none 0 0) (emptyPay tt E).len [] := by rw [emptyPay_len]; exact World.ownsRow_nil w 0 E e.size
    have l0 : RepL w (Mof Mx ρ) ρ (emptyPay tt E).cells [] := by rw [emptyPay_cells]; exact .nil
    rw [a4, hs0] at g1
    obtain ⟨v', w', r1, r2, r3, r4, r5, r6, r7, r8, r9⟩ := append_core (ty := ty) hT he htt hdx hdx' own0 l0 hs0 hw0 g1 g2 g3 wq happ c4 hmax
    have hg : Grew w w' := ⟨r2, r3, r4, r5, fun b hb => r6 b hb (by simp [Value.ownBlock])⟩
    refine ⟨v', w', r1, ρ ++ [.row v' e.size], ?_⟩
    have hnb : ∀ b, v'.ownBlock = some b → w.heap.size ≤ b ∧ b < w'.heap.size := fun b hb => by
      rcases r7 b hb with ⟨h1 | h1, h2⟩
      · cases h1
      · exact ⟨h1, h2⟩
    have key := h.newObj (w' := w') hg (o := .arr E p) (c := .row v' e.size) hnb (.arr (us := [] ++ news) r8 (by
      rw [a1, emptyPay_cells]
      exact g2.pure ⟨r5, fun b hb _ => hg.block b hb, fun b hb hm => by
        rcases Mof_snoc.1 hm with hm | hm
        · exact hm
        · have := (hnb b hm).1; omega⟩ pureq) (by simpa using g3) (by rw [a1, emptyPay_cells]; simpa using pureq) (app_wf' happ hw0 wq) c1 (Pay.app_kind happ (emptyPay_kind tt E)))
    exact key.put d (newRow_own h.env r9)
  · -- onto an own row
    rename_i o
    split at hs
    case h_2 => cases hs
    rename_i E0 p0 ho
    split at hs
    case h_2 => cases hs
    rename_i p happ
    cases hc : (Nat.beq E0 E && appOk e p && !(memN (refsIn 0 x) o) && appFits e p) <;> simp only [hc, cond_true, cond_false] at hs <;> cases hs
    simp only [Bool.and_eq_true, appOk, appFits] at hc
    obtain ⟨⟨⟨c0, ⟨⟨c1, c2⟩, c3⟩⟩, _⟩, c4⟩ := hc
    have := Nat.eq_of_beq_eq_true c0; subst this
    have c1 := Nat.eq_of_beq_eq_true c1
    have c2 : 0 < e.size := by simp [Nat.blt] at c2; omega
    have c3 : 0 < e.bytes := by simp [Nat.blt] at c3; omega
    have c4 := Nat.le_of_ble_eq_true c4
    obtain ⟨a1, a2, a3, a4⟩ := Pay.app_some happ
    have hmax : p.len ≤ maxLen := by
      have : p.len ≤ p.len * e.bytes := Nat.le_mul_of_pos_right _ c3
      simp only [maxLen]; omega
    have hs0 : p0.sz = e.size := by rw [← a3, c1]
    obtain ⟨c, hc, hr⟩ := h.env.at (hget_some ho (by simp))
    cases hb with | @own _ szr _ hb' hb1 =>
    rw [hc] at hb'; cases hb'
    cases hr with | @arr _ _ _ _ us hown hl h1 hpl hw hsz hk =>
    have hszr : szr = e.size := by rw [← hsz, hs0]
    subst hszr
    rw [a4, hs0] at g1
    obtain ⟨v', w', r1, r2, r3, r4, r5, r6, r7, r8, r9⟩ := append_core (ty := ty) hT he htt hdx hdx' hown hl hs0 hw g1 g2 g3 wq happ c4 hmax
    refine ⟨v', w', r1, ρ.set o (.row v' e.size), ?_⟩
    have hlt : o < ρ.length := by
      rcases Nat.lt_or_ge o ρ.length with h' | h'
      · exact h'
      · rw [List.getElem?_eq_none h'] at hc; cases hc
    have hρ : ∀ (j : Nat) (dd : CObj), j ≠ o → ρ[j]? = some dd → (ρ.set o (.row v' e.size))[j]? = some dd := fun j dd hne hd => by
      rw [List.getElem?_set_ne (fun e => hne e.symm)]; exact hd
    have hL : Later w (Mof Mx ρ) w' (Mof Mx (ρ.set o (.row v' e.size))) := by
      refine ⟨r5, fun b hb hm => r6 b hb fun e => hm (.inr ⟨_, List.mem_of_getElem? hc, e⟩), fun b hb hm => ?_⟩
      rcases hm with hm | ⟨d', hd, hm⟩
      · exact .inl hm
      · rcases List.mem_or_eq_of_mem_set hd with hd | rfl
        · exact .inr ⟨d', hd, hm⟩
        · rcases (r7 b hm).1 with e | e
          · exact .inr ⟨_, List.mem_of_getElem? hc, e⟩
          · omega
    have key := h.change (w' := w') (c' := .row v' e.size) (o' := .arr E0 p) (f := lose o) hc r2 r3 r4 r5 r6 r7 (fun b e => by cases e) (lose_rep hL hρ)
      (.arr (us := us ++ news) r8 (by
        rw [a1]
        exact (hl.pure hL hpl).append (g2.pure hL pureq)) (by
        intro z hz
        rcases List.mem_append.1 hz with hz | hz
        · exact h1 z hz
        · exact g3 z hz) (by
        rw [a1]
        intro z hz
        rcases List.mem_append.1 hz with hz | hz
        · exact hpl z hz
        · exact pureq z hz) (app_wf' happ hw wq) c1 (Pay.app_kind happ hk))
    exact key.put d (.own (by rw [List.getElem?_set_self hlt]) r9)
  · cases hs
end
end Go.Proofs.YtcmhpngmjjcloaaGm
