/- A part of the proof: plain laws, and what functions of the given program come to; no condition. -/
import Derived.Test.YtmkgmlgklggnlaaGmYchain
import Derived.Test.YtmkgmlgklggnlaaGm3
/-! # What an entry of the log is as an argument. -/
namespace Go.Proofs.YtmkgmlgklggnlaaGm
def okEnt (r : List AV) : Bool := isInt .i64 (nth r 0) && (isInt .i64 (nth r 1) && (isInt .i64 (nth r 2) && (isInt .i64 (nth r 3) && (isRo (.rows 32 []) (nth r 4) && okS (rowsOf (nth r 4))))))
theorem flat_sum : ∀ {rs : List (List AV)}, (∀ x ∈ rs, Fits (.int .u8) x) → rs.flatten.length = rs.length ∧ rs.flatten.all (isInt .u8) = true
  | [], _ => ⟨rfl, rfl⟩
  | x :: rs, h => by
    obtain ⟨n, rfl⟩ := h x (by simp)
    obtain ⟨h1, h2⟩ := flat_sum (rs := rs) fun y hy => h y (by simp [hy])
    rw [List.flatten_cons, List.length_append, h1, List.all_append, h2]
    exact ⟨by simp; omega, rfl⟩
theorem fits_entry {a : AV} (h : FitsV (.struct [.int .i64, .int .i64, .int .i64, .int .i64, .slice (.array 32 (.int .u8))]) a) : ∃ e : EntT, a = entV e ∧ okS e.2.2.2.2 = true := by
  obtain ⟨r, rfl, h⟩ := h
  obtain ⟨_, _, rfl, ⟨k, rfl⟩, h⟩ := h
  obtain ⟨_, _, rfl, ⟨a, rfl⟩, h⟩ := h
  obtain ⟨_, _, rfl, ⟨b, rfl⟩, h⟩ := h
  obtain ⟨_, _, rfl, ⟨c, rfl⟩, h⟩ := h
  obtain ⟨_, _, rfl, ⟨p, rfl, R, rfl, hR⟩, h⟩ := h
  cases h
  refine ⟨(k, a, b, c, R), rfl, ?_⟩
  show okS R = true
  unfold okS
  rw [List.all_eq_true]
  intro r hr
  obtain ⟨rs, h1, rfl, h2⟩ := hR r hr
  obtain ⟨h3, h4⟩ := flat_sum h2
  unfold sumOk
  rw [h3, h1, h4]; rfl
theorem rep_get {w : World} {M : Nat → Prop} : ∀ {l : List AV} {us : List Value}, RepL w M [] l us → ∀ a ∈ l, ∃ u, RepV w M [] a u
  | _, _, .nil, _, h => by cases h
  | _, _, .cons h t, a, ha => by
    rcases List.mem_cons.1 ha with rfl | ha
    · exact ⟨_, h⟩
    · exact rep_get t a ha
theorem sums_in {R : List (List AV)} {l : List AV} (hr : Real (.ro (.rows 32 R) :: l)) (h : okS R = true) : ∀ r ∈ R, ∀ x ∈ r, ∃ n : Int, x = .int .u8 n ∧ 0 ≤ n ∧ n ≤ 255 := by
  intro r hrR x hx
  obtain ⟨w, M, us, hc⟩ := hr.cells (by intro h0; have : R.length = 0 := h0; rw [List.eq_nil_of_length_eq_zero this] at hrR; cases hrR)
  have hm : x ∈ (Pay.rows 32 R : Pay AV).cells := List.mem_flatten.2 ⟨r, hrR, hx⟩
  obtain ⟨u, hu⟩ := rep_get hc x hm
  unfold okS at h
  rw [List.all_eq_true] at h
  have h2 := (sumOk_out (h r hrR)).2
  rw [List.all_eq_true] at h2
  have h3 := h2 x hx
  cases x with
  | int k n =>
    cases k <;> first | (simp [isInt, ikEq] at h3; done) | skip
    cases hu with | int hk =>
    have hk : 0 ≤ n ∧ n ≤ 255 := by simpa [IntKind.has, IntKind.min, IntKind.max, IntKind.signed, IntKind.bits] using hk
    exact ⟨n, rfl, hk.1, hk.2⟩
  | _ => simp [isInt] at h3
theorem fits_entries {a : AV} (h : FitsV (.slice (.struct [.int .i64, .int .i64, .int .i64, .int .i64, .slice (.array 32 (.int .u8))])) a) : ∃ x : List (List AV), a = .ro (.rows 5 x) ∧ x.all okEnt = true := by
  obtain ⟨p, hp, l, rfl, hl⟩ := h
  cases hp
  refine ⟨l, rfl, ?_⟩
  rw [List.all_eq_true]
  intro r hr
  have h := hl r hr
  obtain ⟨_, _, rfl, ⟨k, rfl⟩, h⟩ := h
  obtain ⟨_, _, rfl, ⟨a, rfl⟩, h⟩ := h
  obtain ⟨_, _, rfl, ⟨b, rfl⟩, h⟩ := h
  obtain ⟨_, _, rfl, ⟨c, rfl⟩, h⟩ := h
  obtain ⟨_, _, rfl, ⟨p, rfl, R, rfl, hR⟩, h⟩ := h
  cases h
  have hs : okS R = true := by
    unfold okS
    rw [List.all_eq_true]
    intro r hr
    obtain ⟨rs, h1, rfl, h2⟩ := hR r hr
    obtain ⟨h3, h4⟩ := flat_sum h2
    unfold sumOk
    rw [h3, h1, h4]; rfl
  show (isInt .i64 (.int .i64 k) && (isInt .i64 (.int .i64 a) && (isInt .i64 (.int .i64 b) && (isInt .i64 (.int .i64 c) && (isRo (.rows 32 []) (.ro (.rows 32 R)) && okS R))))) = true
  rw [hs]; rfl
end Go.Proofs.YtmkgmlgklggnlaaGm
