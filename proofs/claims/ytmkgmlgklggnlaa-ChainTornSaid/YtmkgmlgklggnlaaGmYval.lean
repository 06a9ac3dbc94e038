/- A part of the proof: plain laws, and what functions of the given program come to; no condition. -/
import Derived.Test.YtmkgmlgklggnlaaGmYvinb
import Derived.Lib.Bytealg
namespace Go.Proofs.YtmkgmlgklggnlaaGm
/-! Texts and values in order: the plain law. -/
def cmpB (a b : List UInt8) : Int := Lib.compareBytes a b
def lessB (a b : List UInt8) : Bool := Op.bytesLess a b
def cmpI (a b : Int) : Int := if a < b then -1 else if b < a then 1 else 0

theorem cmpB_self : ∀ a, cmpB a a = 0
  | [] => rfl
  | x :: a => by
    show (if x < x then -1 else if x < x then 1 else Lib.compareBytes a a) = 0
    rw [if_neg (UInt8.lt_irrefl x), if_neg (UInt8.lt_irrefl x)]
    exact cmpB_self a
theorem cmpB_cons (x y : UInt8) (a b : List UInt8) : cmpB (x :: a) (y :: b) = if x < y then -1 else if y < x then 1 else cmpB a b := rfl
theorem cmpB_zero : ∀ {a b : List UInt8}, cmpB a b = 0 → a = b
  | [], [], _ => rfl
  | [], _ :: _, h => by simp [cmpB, Lib.compareBytes] at h
  | _ :: _, [], h => by simp [cmpB, Lib.compareBytes] at h
  | x :: a, y :: b, h => by
    rw [cmpB_cons] at h
    split at h
    · cases h
    split at h
    · cases h
    · rename_i h1 h2
      have e : x = y := UInt8.le_antisymm (UInt8.not_lt.1 h2) (UInt8.not_lt.1 h1)
      rw [e, cmpB_zero h]
theorem cmpB_range : ∀ (a b : List UInt8), cmpB a b = -1 ∨ cmpB a b = 0 ∨ cmpB a b = 1
  | [], [] => .inr (.inl rfl)
  | [], _ :: _ => .inl rfl
  | _ :: _, [] => .inr (.inr rfl)
  | x :: a, y :: b => by
    rw [cmpB_cons]
    split
    · exact .inl rfl
    split
    · exact .inr (.inr rfl)
    · exact cmpB_range a b
theorem cmpB_swap : ∀ (a b : List UInt8), cmpB b a = - cmpB a b
  | [], [] => rfl
  | [], _ :: _ => rfl
  | _ :: _, [] => rfl
  | x :: a, y :: b => by
    rw [cmpB_cons, cmpB_cons]
    have ih := cmpB_swap a b
    by_cases h1 : x < y
    · have h2 : ¬ y < x := fun h => UInt8.lt_irrefl x (UInt8.lt_trans h1 h)
      rw [if_neg h2, if_pos h1, if_pos h1]; rfl
    · rw [if_neg h1]
      by_cases h2 : y < x
      · rw [if_pos h2, if_neg h1, if_pos h2]
      · rw [if_neg h2, if_neg h1, if_neg h2, ih]
theorem lessB_iff : ∀ (a b : List UInt8), lessB a b = decide (cmpB a b = -1)
  | [], [] => rfl
  | [], _ :: _ => rfl
  | _ :: _, [] => rfl
  | x :: a, y :: b => by
    have ih := lessB_iff a b
    rw [cmpB_cons]
    show (decide (x < y) || (x == y && lessB a b)) = _
    rw [ih]
    by_cases h1 : x < y
    · simp [h1]
    · by_cases h2 : y < x
      · have : ¬ x = y := fun e => by subst e; exact UInt8.lt_irrefl x h2
        simp [h1, h2, this]
      · have e : x = y := UInt8.le_antisymm (UInt8.not_lt.1 h2) (UInt8.not_lt.1 h1)
        simp [h1, h2, e]
theorem cmpB_trans : ∀ {a b c : List UInt8}, cmpB a b ≤ 0 → cmpB b c ≤ 0 → cmpB a c ≤ 0
  | [], [], _, _, h => h
  | [], _ :: _, [], _, h => by simp [cmpB, Lib.compareBytes] at h
  | [], _ :: _, _ :: _, _, _ => by show (-1 : Int) ≤ 0; decide
  | _ :: _, [], _, h, _ => by simp [cmpB, Lib.compareBytes] at h
  | _ :: _, _ :: _, [], _, h => by simp [cmpB, Lib.compareBytes] at h
  | x :: a, y :: b, z :: c, h1, h2 => by
    rw [cmpB_cons] at h1 h2 ⊢
    by_cases p1 : x < y
    · by_cases p2 : y < z
      · rw [if_pos (UInt8.lt_trans p1 p2)]; decide
      · rw [if_neg p2] at h2
        by_cases p3 : z < y
        · rw [if_pos p3] at h2; exact absurd h2 (by decide)
        · have e : y = z := UInt8.le_antisymm (UInt8.not_lt.1 p3) (UInt8.not_lt.1 p2)
          subst e
          rw [if_pos p1]; decide
    · rw [if_neg p1] at h1
      by_cases p2 : y < x
      · rw [if_pos p2] at h1; exact absurd h1 (by decide)
      · have e : x = y := UInt8.le_antisymm (UInt8.not_lt.1 p2) (UInt8.not_lt.1 p1)
        subst e
        rw [if_neg p2] at h1
        by_cases p3 : x < z
        · rw [if_pos p3]; decide
        · rw [if_neg p3] at h2 ⊢
          by_cases p4 : z < x
          · rw [if_pos p4] at h2; exact absurd h2 (by decide)
          · rw [if_neg p4] at h2 ⊢
            exact cmpB_trans h1 h2

/-- The order of two values: kind, number, text. -/
def vOrd (k : Int) (n : Int) (s : List UInt8) (k' : Int) (n' : Int) (s' : List UInt8) : Int :=
  if k = 0 then (if k' = 0 then cmpI n n' else -1) else if k' = 0 then 1 else cmpB s s'
theorem vOrd_range (k n : Int) (s : List UInt8) (k' n' : Int) (s' : List UInt8) : vOrd k n s k' n' s' = -1 ∨ vOrd k n s k' n' s' = 0 ∨ vOrd k n s k' n' s' = 1 := by
  unfold vOrd cmpI
  have := cmpB_range s s'
  split
  · split
    · split
      · exact .inl rfl
      split
      · exact .inr (.inr rfl)
      · exact .inr (.inl rfl)
    · exact .inl rfl
  · split
    · exact .inr (.inr rfl)
    · exact this
theorem vOrd_swap (k n : Int) (s : List UInt8) (k' n' : Int) (s' : List UInt8) : vOrd k' n' s' k n s = - vOrd k n s k' n' s' := by
  unfold vOrd cmpI
  have := cmpB_swap s s'
  by_cases h1 : k = 0 <;> by_cases h2 : k' = 0 <;> simp [h1, h2, this]
  split <;> split <;> omega
theorem vOrd_self (k n : Int) (s : List UInt8) : vOrd k n s k n s = 0 := by
  unfold vOrd cmpI
  have := cmpB_self s
  by_cases h1 : k = 0 <;> simp [h1, this]
theorem vOrd_trans {k n : Int} {s : List UInt8} {k' n' : Int} {s' : List UInt8} {k'' n'' : Int} {s'' : List UInt8} (h1 : vOrd k n s k' n' s' ≤ 0) (h2 : vOrd k' n' s' k'' n'' s'' ≤ 0) : vOrd k n s k'' n'' s'' ≤ 0 := by
  unfold vOrd cmpI at *
  have := @cmpB_trans s s' s''
  by_cases a1 : k = 0 <;> by_cases a2 : k' = 0 <;> by_cases a3 : k'' = 0 <;> simp [a1, a2, a3] at h1 h2 ⊢
  · (repeat' split at h1) <;> (repeat' split at h2) <;> (repeat' split) <;> omega
  · exact this h1 h2
end Go.Proofs.YtmkgmlgklggnlaaGm
