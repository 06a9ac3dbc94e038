/- A part of the proof: plain laws, and what functions of the given program come to; no condition. -/
import Derived.Test.YtjdojmjkldpgnaaDoorGm3
import Derived.Test.YtjdojmjkldpgnaaDoorGmYval
namespace Go.Proofs.YtjdojmjkldpgnaaDoorGm
/-! What values fold to: the plain law. -/
abbrev Vl := Int × Int × List UInt8
abbrev Pt := Vl × Int
def valRow (v : Vl) : List AV := [.int .u8 v.1, .int .i64 v.2.1, .str v.2.2]
/-- Lengths that a machine has room for. -/
abbrev roomB : Nat := 140737488355328
def isValRow (r : List AV) : Bool := match r with | [.int .u8 _, .int .i64 _, .str s] => Nat.ble s.length roomB | _ => false
def decVal (r : List AV) : Vl := match r with | [.int .u8 p, .int .i64 n, .str s] => (p, n, s) | _ => (0, 0, [])
def allVal : List (List AV) → Bool
  | [] => true
  | r :: l => bif isValRow r then allVal l else false
def decVals : List (List AV) → List Vl
  | [] => []
  | r :: l => decVal r :: decVals l
theorem isValRow_row {v : Vl} (h : v.2.2.length ≤ roomB) : isValRow (valRow v) = true := ble_iff.2 h
theorem decVal_row (v : Vl) : decVal (valRow v) = v := rfl
theorem allVal_map : ∀ {vs : List Vl}, (∀ v ∈ vs, v.2.2.length ≤ roomB) → allVal (vs.map valRow) = true
  | [], _ => rfl
  | v :: vs, h => by
    show (bif isValRow (valRow v) then allVal (vs.map valRow) else false) = true
    rw [isValRow_row (h v (by simp)), cond_true]
    exact allVal_map fun v hv => h v (by simp [hv])
theorem decVals_map : ∀ vs : List Vl, decVals (vs.map valRow) = vs
  | [] => rfl
  | v :: vs => by show v :: decVals (vs.map valRow) = _; rw [decVals_map vs]
theorem isValRow_out {r : List AV} (h : isValRow r = true) : r = valRow (decVal r) ∧ (decVal r).2.2.length ≤ roomB := by
  unfold isValRow at h
  split at h
  · exact ⟨rfl, ble_iff.1 h⟩
  · cases h
theorem allVal_out : ∀ {l : List (List AV)}, allVal l = true → l = (decVals l).map valRow ∧ ∀ v ∈ decVals l, v.2.2.length ≤ roomB
  | [], _ => ⟨rfl, fun v h => by cases h⟩
  | r :: l, h => by
    unfold allVal at h
    cases hr : isValRow r with
    | false => rw [hr] at h; cases h
    | true =>
      rw [hr] at h
      obtain ⟨h1, h2⟩ := isValRow_out hr
      obtain ⟨h3, h4⟩ := allVal_out h
      refine ⟨?_, ?_⟩
      · show r :: l = valRow (decVal r) :: (decVals l).map valRow
        rw [← h1, ← h3]
      · intro v hv
        rcases List.mem_cons.1 hv with rfl | hv
        · exact h2
        · exact h4 v hv
theorem mapRow_getD (vs : List Vl) (i : Nat) (h : i < vs.length) : (vs.map valRow).getD i [] = valRow (vs.getD i (0, 0, [])) := by
  rw [List.getD_eq_getElem?_getD, List.getD_eq_getElem?_getD, List.getElem?_map, List.getElem?_eq_getElem h]; rfl

def vO (a b : Vl) : Int := vOrd a.1 a.2.1 a.2.2 b.1 b.2.1 b.2.2
theorem vO_self (a : Vl) : vO a a = 0 := vOrd_self ..
theorem vO_swap (a b : Vl) : vO b a = - vO a b := vOrd_swap ..
theorem vO_range (a b : Vl) : vO a b = -1 ∨ vO a b = 0 ∨ vO a b = 1 := vOrd_range ..
theorem vO_trans {a b c : Vl} (h1 : vO a b ≤ 0) (h2 : vO b c ≤ 0) : vO a c ≤ 0 := vOrd_trans h1 h2

def oneP (k : Int) (v : Vl) : Pt := if k = 3 then ((0, 1, []), 1) else if v.1 = 0 then ((0, v.2.1, []), 1) else ((1, 0, v.2.2), 1)
def accP (k : Int) (a b : Vl) : Vl × Int :=
  if k = 0 ∨ k = 3 then ((0, IntKind.i64.wrap (a.2.1 + b.2.1), []), 0)
  else if k = 1 then (if vO b a < 0 then b else a, 0)
  else if k = 2 then (if 0 < vO b a then b else a, 0)
  else if k = 4 then (if 65536 < a.2.2.length + b.2.2.length then ((0, 0, []), 5) else ((1, 0, a.2.2 ++ b.2.2), 0))
  else if k = 6 then (b, 0) else (a, 0)
def joinP (k : Int) (a b : Pt) : Pt × Int :=
  if a.2 < 1 then (b, 0) else if b.2 < 1 then (a, 0)
  else if (accP k a.1 b.1).2 = 0 then (((accP k a.1 b.1).1, IntKind.i64.wrap (a.2 + b.2)), 0) else (((0, 0, []), 0), (accP k a.1 b.1).2)
def allP (k : Int) : Pt → List Vl → Pt × Int
  | p, [] => (p, 0)
  | p, v :: l => if (joinP k p (oneP k v)).2 = 0 then allP k (joinP k p (oneP k v)).1 l else (((0, 0, []), 0), (joinP k p (oneP k v)).2)
def sameP (p q : Pt) : Bool := bif eqI p.2 q.2 then eqI (vO p.1 q.1) 0 else false
theorem sameP_self (p : Pt) : sameP p p = true := by
  unfold sameP; rw [bif_pos (eqI_iff.2 rfl), eqI_iff.2 (vO_self _)]
/-- more than is asked? -/
def longV : List Vl → Int → Int → Bool
  | [], i, _ => decide (100 < i)
  | v :: l, i, n => if 100 ≤ i then true else if 100000 < n + v.2.2.length then true else longV l (i + 1) (n + v.2.2.length)

theorem accP_range (k : Int) (a b : Vl) : (accP k a b).2 = 0 ∨ (accP k a b).2 = 5 := by
  unfold accP; (repeat' split) <;> simp
theorem accP_len {k : Int} {a b : Vl} (ha : a.2.2.length ≤ roomB) (hb : b.2.2.length ≤ roomB) : (accP k a b).1.2.2.length ≤ roomB := by
  unfold accP
  (repeat' split) <;> first | exact ha | exact hb | (simp; done) | (simp only [List.length_append]; unfold roomB; omega)
theorem oneP_len {k : Int} {v : Vl} (h : v.2.2.length ≤ roomB) : (oneP k v).1.2.2.length ≤ roomB := by
  unfold oneP
  (repeat' split) <;> first | exact h | (simp; done)
theorem joinP_len {k : Int} {a b : Pt} (ha : a.1.2.2.length ≤ roomB) (hb : b.1.2.2.length ≤ roomB) : (joinP k a b).1.1.2.2.length ≤ roomB := by
  unfold joinP
  (repeat' split) <;> first | exact ha | exact hb | exact accP_len ha hb | (simp; done)
/-- What is folded may be put together otherwise. -/
theorem wrap_add_l (a b : Int) : IntKind.i64.wrap (IntKind.i64.wrap a + b) = IntKind.i64.wrap (a + b) := by
  simp only [IntKind.wrap, IntKind.signed, IntKind.bits]; simp; (repeat' split) <;> omega
theorem wrap_add_r (a b : Int) : IntKind.i64.wrap (a + IntKind.i64.wrap b) = IntKind.i64.wrap (a + b) := by
  rw [Int.add_comm, wrap_add_l, Int.add_comm]
theorem vO_of_eq {a b : Vl} (h : a = b) : vO a b = 0 := by rw [h, vO_self]
theorem accP_assoc {k : Int} {a b c : Vl} (h1 : (accP k a b).2 = 0) (h2 : (accP k (accP k a b).1 c).2 = 0) (h3 : (accP k b c).2 = 0) (h4 : (accP k a (accP k b c).1).2 = 0) :
    vO (accP k (accP k a b).1 c).1 (accP k a (accP k b c).1).1 = 0 := by
  by_cases k0 : k = 0 ∨ k = 3
  · unfold accP; simp only [if_pos k0]
    apply vO_of_eq
    rw [wrap_add_l, wrap_add_r, Int.add_assoc]
  unfold accP; simp only [if_neg k0]
  unfold accP at h1 h2 h3 h4; simp only [if_neg k0] at h1 h2 h3 h4
  have ta := @vO_trans
  by_cases k1 : k = 1
  · simp only [if_pos k1]
    have r1 := vO_range b a
    have r2 := vO_range c b
    have r3 := vO_range c a
    have t1 := @vO_trans c b a
    have t2 := @vO_trans a b c
    have s1 := vO_swap b a
    have s2 := vO_swap c b
    have s3 := vO_swap c a
    have z1 := vO_self a
    have z2 := vO_self b
    have z3 := vO_self c
    by_cases p1 : vO b a < 0 <;> by_cases p2 : vO c b < 0 <;> by_cases p3 : vO c a < 0 <;> simp only [p1, p2, p3, if_true, if_false] <;> first | exact z1 | exact z2 | exact z3 | omega
  by_cases k2 : k = 2
  · simp only [if_neg k1, if_pos k2]
    have r1 := vO_range b a
    have r2 := vO_range c b
    have r3 := vO_range c a
    have t1 := @vO_trans c b a
    have t2 := @vO_trans a b c
    have s1 := vO_swap b a
    have s2 := vO_swap c b
    have s3 := vO_swap c a
    have z1 := vO_self a
    have z2 := vO_self b
    have z3 := vO_self c
    by_cases p1 : 0 < vO b a <;> by_cases p2 : 0 < vO c b <;> by_cases p3 : 0 < vO c a <;> simp only [p1, p2, p3, if_true, if_false] <;> first | exact z1 | exact z2 | exact z3 | omega
  by_cases k4 : k = 4
  · simp only [if_neg k1, if_neg k2, if_pos k4] at h1 h2 h3 h4 ⊢
    split at h1
    · cases h1
    split at h3
    · cases h3
    rename_i q1 q3
    simp only [if_neg q1, if_neg q3] at h2 h4 ⊢
    split at h2
    · cases h2
    split at h4
    · cases h4
    rename_i q2 q4
    simp only [if_neg q2, if_neg q4]
    apply vO_of_eq; rw [List.append_assoc]
  by_cases k6 : k = 6
  · simp only [if_neg k1, if_neg k2, if_neg k4, if_pos k6]; exact vO_self _
  · simp only [if_neg k1, if_neg k2, if_neg k4, if_neg k6]; exact vO_self _
theorem accP_comm {k : Int} {a b : Vl} (h0 : 0 ≤ k) (h3 : k ≤ 3) (_ha : a.1 = 0) (_hb : b.1 = 0) :
    (accP k a b).2 = 0 ∧ (accP k b a).2 = 0 ∧ vO (accP k b a).1 (accP k a b).1 = 0 := by
  by_cases k0 : k = 0 ∨ k = 3
  · unfold accP; simp only [if_pos k0]
    refine ⟨trivial, trivial, ?_⟩
    apply vO_of_eq
    rw [Int.add_comm]
  unfold accP; simp only [if_neg k0]
  have r1 := vO_range b a
  have s1 := vO_swap b a
  have z1 := vO_self a
  have z2 := vO_self b
  by_cases k1 : k = 1
  · simp only [if_pos k1]
    refine ⟨trivial, trivial, ?_⟩
    by_cases p1 : vO b a < 0 <;> by_cases p2 : vO a b < 0 <;> simp only [p1, p2, if_true, if_false] <;> first | exact z1 | exact z2 | omega
  by_cases k2 : k = 2
  · simp only [if_neg k1, if_pos k2]
    refine ⟨trivial, trivial, ?_⟩
    by_cases p1 : 0 < vO b a <;> by_cases p2 : 0 < vO a b <;> simp only [p1, p2, if_true, if_false] <;> first | exact z1 | exact z2 | omega
  · omega
theorem joinP_in {k : Int} {a b : Pt} (ha : 1 ≤ a.2) (hb : 1 ≤ b.2) : joinP k a b = if (accP k a.1 b.1).2 = 0 then (((accP k a.1 b.1).1, IntKind.i64.wrap (a.2 + b.2)), 0) else (((0, 0, []), 0), (accP k a.1 b.1).2) := by
  unfold joinP; rw [if_neg (by omega), if_neg (by omega)]
theorem joinP_assoc {k : Int} {a b c : Pt} (ha : 1 ≤ a.2) (hb : 1 ≤ b.2) (hc : 1 ≤ c.2) (ha' : a.2 ≤ 1099511627776) (hb' : b.2 ≤ 1099511627776) (hc' : c.2 ≤ 1099511627776)
    (h1 : (joinP k a b).2 = 0) (h2 : (joinP k (joinP k a b).1 c).2 = 0) (h3 : (joinP k b c).2 = 0) (h4 : (joinP k a (joinP k b c).1).2 = 0) :
    sameP (joinP k (joinP k a b).1 c).1 (joinP k a (joinP k b c).1).1 = true := by
  have w1 : IntKind.i64.wrap (a.2 + b.2) = a.2 + b.2 := wrap64 (by omega) (by omega)
  have w2 : IntKind.i64.wrap (b.2 + c.2) = b.2 + c.2 := wrap64 (by omega) (by omega)
  have e1 := joinP_in (k := k) ha hb
  have e3 := joinP_in (k := k) hb hc
  rw [e1] at h1
  rw [e3] at h3
  by_cases g1 : (accP k a.1 b.1).2 = 0
  · by_cases g3 : (accP k b.1 c.1).2 = 0
    · rw [if_pos g1, w1] at e1
      rw [if_pos g3, w2] at e3
      rw [e1] at h2 ⊢
      rw [e3] at h4 ⊢
      have e2 := joinP_in (k := k) (a := ((accP k a.1 b.1).1, a.2 + b.2)) (b := c) (by show 1 ≤ a.2 + b.2; omega) hc
      have e4 := joinP_in (k := k) (a := a) (b := ((accP k b.1 c.1).1, b.2 + c.2)) ha (by show 1 ≤ b.2 + c.2; omega)
      rw [e2] at h2 ⊢
      rw [e4] at h4 ⊢
      dsimp only at h2 h4 ⊢
      by_cases g2 : (accP k (accP k a.1 b.1).1 c.1).2 = 0
      · by_cases g4 : (accP k a.1 (accP k b.1 c.1).1).2 = 0
        · rw [if_pos g2, if_pos g4]
          have := accP_assoc g1 g2 g3 g4
          unfold sameP
          rw [bif_pos (eqI_iff.2 (by show IntKind.i64.wrap _ = IntKind.i64.wrap _; rw [Int.add_assoc])), eqI_iff.2 this]
        · rw [if_neg g4] at h4; exact absurd h4 g4
      · rw [if_neg g2] at h2; exact absurd h2 g2
    · rw [if_neg g3] at h3; exact absurd h3 g3
  · rw [if_neg g1] at h1; exact absurd h1 g1
theorem joinP_comm {k : Int} {a b : Pt} (ha : 1 ≤ a.2) (hb : 1 ≤ b.2) (h0 : 0 ≤ k) (h3 : k ≤ 3) (za : a.1.1 = 0) (zb : b.1.1 = 0) :
    (joinP k a b).2 = 0 ∧ (joinP k b a).2 = 0 ∧ sameP (joinP k b a).1 (joinP k a b).1 = true := by
  obtain ⟨p1, p2, p3⟩ := accP_comm (k := k) h0 h3 za zb
  rw [joinP_in ha hb, joinP_in hb ha, if_pos p1, if_pos p2]
  refine ⟨rfl, rfl, ?_⟩
  unfold sameP
  rw [bif_pos (eqI_iff.2 (by show IntKind.i64.wrap _ = IntKind.i64.wrap _; rw [Int.add_comm])), eqI_iff.2 p3]

/-! Values and parts as they are handed. -/
abbrev shVal : List Sh := [.int .u8, .int .i64, .str]
abbrev shPart : List Sh := [.struct shVal, .int .i64]
theorem reach_room {n : Nat} (h : n ≤ reachBytes) : n ≤ roomB := Nat.le_trans h (by decide)
theorem fits_row {r : List AV} (h : FitsAll shVal r) : ∃ v : Vl, r = valRow v ∧ v.2.2.length ≤ roomB := by
  simp only [FitsAll, Fits] at h
  obtain ⟨_, _, rfl, ⟨p, rfl⟩, _, _, rfl, ⟨n, rfl⟩, _, _, rfl, ⟨s, rfl, hs⟩, rfl⟩ := h
  exact ⟨(p, n, s), rfl, reach_room hs⟩
theorem fits_val {a : AV} (h : FitsV (.struct shVal) a) : ∃ v : Vl, a = .agg (valRow v) ∧ v.2.2.length ≤ roomB := by
  obtain ⟨r, rfl, h⟩ := h
  obtain ⟨v, rfl, hv⟩ := fits_row h
  exact ⟨v, rfl, hv⟩
theorem fits_part {a : AV} (h : FitsV (.struct shPart) a) : ∃ p : Pt, a = .agg (valRow p.1 ++ [.int .i64 p.2]) ∧ p.1.2.2.length ≤ roomB := by
  obtain ⟨r, rfl, h⟩ := h
  obtain ⟨a, b, rfl, h1, c, d, rfl, h2, h3⟩ := h
  have h1 : FitsAll shVal a := by simpa only [Fits] using h1
  obtain ⟨v, rfl, hv⟩ := fits_row h1
  have h2 : ∃ n, c = [AV.int .i64 n] := by simpa only [Fits] using h2
  obtain ⟨n, rfl⟩ := h2
  have h3 : d = [] := by simpa only [FitsAll] using h3
  subst h3
  exact ⟨(v, n), rfl, hv⟩
theorem rows_vals : ∀ {l : List (List AV)}, (∀ r ∈ l, FitsAll shVal r) → ∃ vs : List Vl, l = vs.map valRow ∧ ∀ v ∈ vs, v.2.2.length ≤ roomB
  | [], _ => ⟨[], rfl, fun v h => by cases h⟩
  | r :: l, h => by
    obtain ⟨v, rfl, hv⟩ := fits_row (h r (by simp))
    obtain ⟨vs, rfl, hvs⟩ := rows_vals (l := l) fun x hx => h x (by simp [hx])
    refine ⟨v :: vs, rfl, fun u hu => ?_⟩
    rcases List.mem_cons.1 hu with rfl | hu
    · exact hv
    · exact hvs u hu
theorem fits_vals {a : AV} (h : FitsV (.slice (.struct shVal)) a) : ∃ vs : List Vl, a = .ro (.rows 3 (vs.map valRow)) ∧ ∀ v ∈ vs, v.2.2.length ≤ roomB := by
  obtain ⟨p, hp, l, rfl, hl⟩ := h
  cases hp
  obtain ⟨vs, rfl, hv⟩ := rows_vals fun r hr => (by simpa only [Fits] using hl r hr : FitsAll shVal r)
  exact ⟨vs, rfl, hv⟩
end Go.Proofs.YtjdojmjkldpgnaaDoorGm
