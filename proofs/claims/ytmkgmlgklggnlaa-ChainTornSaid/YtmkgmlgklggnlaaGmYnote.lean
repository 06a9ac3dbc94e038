/- A part of the proof: plain laws, and what functions of the given program come to; no condition. -/
import Derived.Test.YtmkgmlgklggnlaaGmYrec
/-! # Notes: what they are as values, and as bytes. Plain law: no program. -/
namespace Go.Proofs.YtmkgmlgklggnlaaGm
structure NoteV where
  k : Int
  t : Int
  y : Int
  p : Int
  w : List Int
  a : Txt
  b : Txt
deriving DecidableEq
def NoteV.av (n : NoteV) : AV := .agg [.int .i64 n.k, .int .i64 n.t, .int .i64 n.y, .int .i64 n.p, .ro (.ints .i64 n.w), .ro (.bytes n.a), .ro (.bytes n.b)]
def noteZ : NoteV := ⟨0, 0, 0, 0, [], [], []⟩
def inM (n : Int) : Bool := leI 0 n && leI n 1073741824
theorem inM_iff {n : Int} : inM n = true ↔ 0 ≤ n ∧ n ≤ 1073741824 := by unfold inM; rw [Bool.and_eq_true, leI_iff, leI_iff]
def NoteV.Right (n : NoteV) : Prop := (0 ≤ n.k ∧ n.k ≤ 10) ∧ (0 ≤ n.t ∧ n.t ≤ 1073741824) ∧ (0 ≤ n.y ∧ n.y ≤ 1073741824) ∧ (0 ≤ n.p ∧ n.p ≤ 1073741824) ∧ (∀ x ∈ n.w, 0 ≤ x ∧ x ≤ 1073741824) ∧
  (n.w.length ≤ 65536 ∧ (0 < n.w.length → n.k = 3)) ∧ (n.a.length ≤ 1048576 ∧ (0 < n.a.length → n.k = 5 ∨ n.k = 8)) ∧ (n.b.length ≤ 1048576 ∧ (0 < n.b.length → n.k = 8))
instance (n : NoteV) : Decidable n.Right := inferInstanceAs (Decidable (_ ∧ _))
def encs (l : List Int) : Txt := l.flatMap fun n => enc (IntKind.u64.wrap n)
theorem encs_app (a b : List Int) : encs (a ++ b) = encs a ++ encs b := by simp [encs]
theorem encs_one (n : Int) : encs [n] = enc (IntKind.u64.wrap n) := by simp [encs]
theorem wrapu_has (n : Int) : 0 ≤ IntKind.u64.wrap n ∧ IntKind.u64.wrap n < 18446744073709551616 := by
  simp [IntKind.wrap, IntKind.signed, IntKind.bits]; omega
theorem enc_short (n : Int) (h : 0 ≤ n) : (enc n).length ≤ 9 := by rw [enc_length _ h]; have := len9_range n; omega
theorem encs_len : ∀ l : List Int, (encs l).length ≤ 9 * l.length
  | [] => by simp [encs]
  | n :: l => by
    have := encs_len l
    have h := enc_short _ (wrapu_has n).1
    rw [show n :: l = [n] ++ l from rfl, encs_app, encs_one, List.length_append, List.length_append]
    simp only [List.length_singleton]
    omega
def encNote (n : NoteV) : Txt := encs [n.k, n.t, n.y, n.p, n.w.length] ++ encs n.w ++ encT n.a ++ encT n.b
def longN (n : NoteV) : Bool := ltI 200 n.w.length || ltI 1000 n.a.length || ltI 1000 n.b.length
def nameTs : List Txt := [[98, 101, 97, 116], [109, 97, 112], [109, 97, 112, 112, 101, 100], [114, 101, 100, 117, 99, 101], [102, 101, 116, 99, 104], [100, 97, 116, 97], [108, 111, 115, 116], [103, 111, 110, 101], [99, 111, 109, 109, 105, 116], [116, 97, 107, 101, 110], [102, 97, 105, 108]]
def nameOf (n : Int) : Txt := if 0 ≤ n ∧ n < 11 then nameTs.getD n.toNat [] else [63]
/-! ### A reader of numbers and texts, until something is wrong -/
abbrev RdS := Int × Int
def rdN (b : Txt) (s : RdS) : Int × RdS := if s.2 = 0 then (min (getV b s.1).1 1073741825, (getV b s.1).2.1, (getV b s.1).2.2) else (0, s)
def rdT (b : Txt) (s : RdS) : Txt × RdS := if s.2 = 0 then ((getT b s.1 1048576).1, (getT b s.1 1048576).2.1, (getT b s.1 1048576).2.2) else ([], s)
/-! ### Trees of tests -/
theorem ltI_f {a b : Int} : ltI a b = false ↔ ¬ a < b := by rw [← Bool.not_eq_true, ltI_iff]
theorem leI_f {a b : Int} : leI a b = false ↔ ¬ a ≤ b := by rw [← Bool.not_eq_true, leI_iff]
theorem eqI_f {a b : Int} : eqI a b = false ↔ ¬ a = b := by rw [← Bool.not_eq_true, eqI_iff]
theorem eqS_f {a b : List UInt8} : eqS a b = false ↔ ¬ a = b := by rw [← Bool.not_eq_true, eqS_iff]
theorem inM_f {n : Int} : inM n = false ↔ ¬ (0 ≤ n ∧ n ≤ 1073741824) := by rw [← Bool.not_eq_true, inM_iff]
theorem allM_iff {l : List Int} : l.all inM = true ↔ ∀ x ∈ l, 0 ≤ x ∧ x ≤ 1073741824 := by
  rw [List.all_eq_true]
  exact ⟨fun h x hx => inM_iff.1 (h x hx), fun h x hx => inM_iff.2 (h x hx)⟩
theorem allM_f {l : List Int} : l.all inM = false ↔ ¬ ∀ x ∈ l, 0 ≤ x ∧ x ≤ 1073741824 := by rw [← Bool.not_eq_true, allM_iff]
theorem all3 (a b c : Int) : [a, b, c].all inM = (inM a && (inM b && inM c)) := by simp
theorem leafR {P : Prop} [Decidable P] {b : Bool} {objs : List AObj} (h : b = true ↔ P) : outR (.ret (.bool b) objs) = some (.bool (decide P), []) := by
  have : b = decide P := by rw [Bool.eq_iff_iff, decide_eq_true_iff]; exact h
  rw [this]; rfl
theorem dec_leaf {P : Prop} [Decidable P] {b : Bool} (h : b = true ↔ P) : b = decide P := by rw [Bool.eq_iff_iff, decide_eq_true_iff]; exact h
/-! ### Got -/
def rdL (b : Txt) : Nat → RdS → List Int × RdS
  | 0, s => ([], s)
  | n + 1, s => if s.2 = 0 then ((rdN b s).1 :: (rdL b n (rdN b s).2).1, (rdL b n (rdN b s).2).2) else ([], s)
def finN (b : Txt) (k t y p : Int) (w : List Int) (s : RdS) : NoteV × Int :=
  if (rdT b (rdT b s).2).2.2 = 0 then
    if (rdT b (rdT b s).2).2.1 < b.length then (noteZ, 3)
    else if (⟨k, t, y, p, w, (rdT b s).1, (rdT b (rdT b s).2).1⟩ : NoteV).Right then (⟨k, t, y, p, w, (rdT b s).1, (rdT b (rdT b s).2).1⟩, 0)
    else (noteZ, 3)
  else (noteZ, (rdT b (rdT b s).2).2.2)
def manyS (m : Int × RdS) : RdS := if 65536 < m.1 ∧ m.2.2 = 0 then (m.2.1, 3) else m.2
def gN4 (b : Txt) (k t y p : Int) (m : Int × RdS) : NoteV × Int := finN b k t y p (rdL b m.1.toNat (manyS m)).1 (rdL b m.1.toNat (manyS m)).2
def gN3 (b : Txt) (k t y : Int) (p : Int × RdS) : NoteV × Int := gN4 b k t y p.1 (rdN b p.2)
def gN2 (b : Txt) (k t : Int) (y : Int × RdS) : NoteV × Int := gN3 b k t y.1 (rdN b y.2)
def gN1 (b : Txt) (k : Int) (t : Int × RdS) : NoteV × Int := gN2 b k t.1 (rdN b t.2)
def gN0 (b : Txt) (k : Int × RdS) : NoteV × Int := gN1 b k.1 (rdN b k.2)
def getNote (b : Txt) : NoteV × Int := gN0 b (rdN b (0, 0))
theorem rdN_err (b : Txt) {s : RdS} (h : s.2 ≠ 0) : rdN b s = (0, s) := if_neg h
theorem rdT_err (b : Txt) {s : RdS} (h : s.2 ≠ 0) : rdT b s = ([], s) := if_neg h
theorem rdL_err (b : Txt) (n : Nat) {s : RdS} (h : s.2 ≠ 0) : rdL b n s = ([], s) := by
  cases n with
  | zero => rfl
  | succ n => unfold rdL; rw [if_neg h]
theorem finN_err (b : Txt) (k t y p : Int) (w : List Int) {s : RdS} (h : s.2 ≠ 0) : finN b k t y p w s = (noteZ, s.2) := by
  unfold finN
  rw [rdT_err b h, rdT_err b h, if_neg h]
theorem manyS_err {m : Int × RdS} (h : m.2.2 ≠ 0) : manyS m = m.2 := if_neg fun x => h x.2
theorem gN4_err (b : Txt) (k t y p : Int) {m : Int × RdS} (h : m.2.2 ≠ 0) : gN4 b k t y p m = (noteZ, m.2.2) := by
  unfold gN4
  rw [manyS_err h, rdL_err b _ h, finN_err _ _ _ _ _ _ h]
theorem gN3_err (b : Txt) (k t y : Int) {p : Int × RdS} (h : p.2.2 ≠ 0) : gN3 b k t y p = (noteZ, p.2.2) := by
  unfold gN3
  rw [rdN_err b h]; exact gN4_err b k t y p.1 h
theorem gN2_err (b : Txt) (k t : Int) {y : Int × RdS} (h : y.2.2 ≠ 0) : gN2 b k t y = (noteZ, y.2.2) := by
  unfold gN2
  rw [rdN_err b h]; exact gN3_err b k t y.1 h
theorem gN1_err (b : Txt) (k : Int) {t : Int × RdS} (h : t.2.2 ≠ 0) : gN1 b k t = (noteZ, t.2.2) := by
  unfold gN1
  rw [rdN_err b h]; exact gN2_err b k t.1 h
theorem gN0_err (b : Txt) {k : Int × RdS} (h : k.2.2 ≠ 0) : gN0 b k = (noteZ, k.2.2) := by
  unfold gN0
  rw [rdN_err b h]; exact gN1_err b k.1 h
/-! ### What is got is its own bytes -/
theorem wrapu_small {n : Int} (h : 0 ≤ n ∧ n ≤ 1073741824) : IntKind.u64.wrap n = n := wrapu64 h.1 (by omega)
theorem rdN_seg {b : Txt} {s : RdS} (h0 : s.2 = 0) (h : (rdN b s).2.2 = 0) : 0 ≤ s.1 ∧ s.1 < (rdN b s).2.1 ∧ (rdN b s).2.1 ≤ b.length ∧ 0 ≤ (rdN b s).1 ∧ (rdN b s).1 ≤ 1073741825 ∧ ((rdN b s).1 ≤ 1073741824 → encs [(rdN b s).1] = seg b s.1 (rdN b s).2.1) := by
  unfold rdN at h ⊢
  rw [if_pos h0] at h ⊢
  dsimp only at h ⊢
  obtain ⟨h1, h2, h3, h4⟩ := getV_seg h
  have hf := getV_fits b s.1
  refine ⟨h1, h2, h3, by omega, by omega, fun h5 => ?_⟩
  rw [encs_one, wrapu_small (by omega), show min (getV b s.1).1 1073741825 = (getV b s.1).1 by omega, h4]
theorem rdL_seg (b : Txt) : ∀ (n : Nat) (s : RdS), s.2 = 0 → 0 ≤ s.1 → s.1 ≤ b.length → (rdL b n s).2.2 = 0 → s.1 ≤ (rdL b n s).2.1 ∧ (rdL b n s).2.1 ≤ b.length ∧ (rdL b n s).1.length = n ∧ ((∀ x ∈ (rdL b n s).1, 0 ≤ x ∧ x ≤ 1073741824) → encs (rdL b n s).1 = seg b s.1 (rdL b n s).2.1)
  | 0, s, h0, h1, h2, h => ⟨by unfold rdL; exact Int.le_refl _, by unfold rdL; exact h2, rfl, fun _ => by simp [rdL, encs, seg]⟩
  | n + 1, s, h0, h1, h2, h => by
    unfold rdL at h ⊢
    rw [if_pos h0] at h ⊢
    dsimp only at h ⊢
    by_cases he : (rdN b s).2.2 = 0
    · obtain ⟨g1, g2, g3, g4, g5, g6⟩ := rdN_seg h0 he
      obtain ⟨i1, i2, i3, i4⟩ := rdL_seg b n (rdN b s).2 he (by omega) g3 h
      refine ⟨by omega, i2, by rw [List.length_cons, i3], fun hx => ?_⟩
      have hx0 := hx _ (List.mem_cons_self ..)
      rw [show (rdN b s).1 :: (rdL b n (rdN b s).2).1 = [(rdN b s).1] ++ (rdL b n (rdN b s).2).1 from rfl, encs_app, g6 hx0.2, i4 fun x hx' => hx x (List.mem_cons_of_mem _ hx'), seg_app g1 (by omega) i1]
    · rw [rdL_err b n he] at h; exact absurd h he
theorem rdT_seg {b : Txt} {s : RdS} (h0 : s.2 = 0) (h : (rdT b s).2.2 = 0) : 0 ≤ s.1 ∧ s.1 < (rdT b s).2.1 ∧ (rdT b s).2.1 ≤ b.length ∧ encT (rdT b s).1 = seg b s.1 (rdT b s).2.1 := by
  unfold rdT at h ⊢
  rw [if_pos h0] at h ⊢
  dsimp only at h ⊢
  obtain ⟨h1, h2, h3, _, h4⟩ := getT_seg h
  exact ⟨h1, h2, h3, h4⟩
theorem seg_all (l : Txt) : seg l 0 l.length = l := by unfold seg; simp
theorem finN_ok {b : Txt} {k t y p : Int} {w : List Int} {s : RdS} (h : (finN b k t y p w s).2 = 0) : (finN b k t y p w s).1.Right ∧ s.2 = 0 ∧ ∃ a c : Txt, (finN b k t y p w s).1 = ⟨k, t, y, p, w, a, c⟩ ∧ 0 ≤ s.1 ∧ s.1 ≤ b.length ∧ encT a ++ encT c = seg b s.1 b.length := by
  have h0 : s.2 = 0 := Decidable.byContradiction fun e => by rw [finN_err _ _ _ _ _ _ e] at h; exact e h
  unfold finN at h ⊢
  split at h
  · rename_i h1
    split at h
    · simp at h
    · rename_i h2
      split at h
      · rename_i h3
        rw [if_pos h1, if_neg h2, if_pos h3]
        refine ⟨h3, h0, _, _, rfl, ?_⟩
        have h4 : (rdT b s).2.2 = 0 := Decidable.byContradiction fun e => by rw [rdT_err b e] at h1; exact e h1
        obtain ⟨a1, a2, a3, a4⟩ := rdT_seg h0 h4
        obtain ⟨b1, b2, b3, b4⟩ := rdT_seg h4 h1
        refine ⟨a1, by omega, ?_⟩
        rw [a4, b4, seg_app a1 (by omega) (by omega), show (rdT b (rdT b s).2).2.1 = b.length by omega]
      · simp at h
  · rename_i h1; exact absurd h h1
theorem getNote_ok {b : Txt} (h : (getNote b).2 = 0) : (getNote b).1.Right ∧ encNote (getNote b).1 = b := by
  unfold getNote at h ⊢
  have e0 : (rdN b (0, 0)).2.2 = 0 := Decidable.byContradiction fun e => by rw [gN0_err b e] at h; exact e h
  obtain ⟨k1, k2, k3, k4, k5, k6⟩ := rdN_seg rfl e0
  generalize rdN b (0, 0) = k at *
  unfold gN0 at h ⊢
  have e1 : (rdN b k.2).2.2 = 0 := Decidable.byContradiction fun e => by rw [gN1_err b _ e] at h; exact e h
  obtain ⟨t1, t2, t3, t4, t5, t6⟩ := rdN_seg e0 e1
  generalize rdN b k.2 = t at *
  unfold gN1 at h ⊢
  have e2 : (rdN b t.2).2.2 = 0 := Decidable.byContradiction fun e => by rw [gN2_err b _ _ e] at h; exact e h
  obtain ⟨y1, y2, y3, y4, y5, y6⟩ := rdN_seg e1 e2
  generalize rdN b t.2 = y at *
  unfold gN2 at h ⊢
  have e3 : (rdN b y.2).2.2 = 0 := Decidable.byContradiction fun e => by rw [gN3_err b _ _ _ e] at h; exact e h
  obtain ⟨p1, p2, p3, p4, p5, p6⟩ := rdN_seg e2 e3
  generalize rdN b y.2 = p at *
  unfold gN3 at h ⊢
  have e4 : (rdN b p.2).2.2 = 0 := Decidable.byContradiction fun e => by rw [gN4_err b _ _ _ _ e] at h; exact e h
  obtain ⟨m1, m2, m3, m4, m5, m6⟩ := rdN_seg e3 e4
  generalize rdN b p.2 = m at *
  unfold gN4 at h ⊢
  obtain ⟨f1, f2, a, c, f3, f4, f5, f6⟩ := finN_ok h
  have e5 : (manyS m).2 = 0 := Decidable.byContradiction fun e => by rw [rdL_err b _ e] at f2; exact e f2
  have e6 : m.1 ≤ 65536 := Decidable.byContradiction fun e => by
    unfold manyS at e5
    rw [if_pos ⟨by omega, e4⟩] at e5
    exact absurd (show (3 : Int) = 0 from e5) (by decide)
  have e7 : manyS m = m.2 := if_neg fun x => by omega
  rw [e7] at f1 f2 f3 f4 f5 f6 ⊢
  obtain ⟨l1, l2, l3, l4⟩ := rdL_seg b m.1.toNat m.2 e4 (by omega) m3 f2
  refine ⟨f1, ?_⟩
  rw [f3] at f1 ⊢
  obtain ⟨r1, r2, r3, r4, r5, _⟩ := f1
  dsimp only at r1 r2 r3 r4 r5
  have l4 := l4 r5
  unfold encNote
  dsimp only
  rw [l3, show ((m.1.toNat : Nat) : Int) = m.1 by omega, show [k.1, t.1, y.1, p.1, m.1] = [k.1] ++ ([t.1] ++ ([y.1] ++ ([p.1] ++ [m.1]))) from rfl, encs_app, encs_app, encs_app, encs_app, k6 (by omega), t6 (by omega), y6 (by omega), p6 (by omega), m6 (by omega), l4,
    List.append_assoc, f6, seg_app p1 (by omega) (by omega), seg_app y1 (by omega) (by omega), seg_app t1 (by omega) (by omega), seg_app (by omega) (by omega) (by omega), seg_app (by omega) (by omega) (by omega), seg_app (by omega) (by omega) (by omega)]
  exact seg_all b
/-! ### What is put is got -/
theorem rdN_enc (p r : Txt) {n : Int} (h : 0 ≤ n ∧ n ≤ 1073741824) : rdN (p ++ encs [n] ++ r) (p.length, 0) = (n, (((p ++ encs [n]).length : Int), 0)) := by
  unfold rdN
  rw [if_pos rfl, encs_one, wrapu_small h, getV_enc p r n h.1 (by omega), show min n 1073741825 = n by omega, List.length_append, Int.natCast_add, enc_length _ h.1]
  have := len9_range n
  rw [show ((len9 n).toNat : Int) = len9 n by omega]
theorem rdL_enc (r : Txt) : ∀ (w : List Int) (p : Txt), (∀ x ∈ w, 0 ≤ x ∧ x ≤ 1073741824) → rdL (p ++ encs w ++ r) w.length (p.length, 0) = (w, (((p ++ encs w).length : Int), 0))
  | [], p, _ => by simp [rdL, encs]
  | n :: w, p, h => by
    have e0 : p ++ encs (n :: w) ++ r = p ++ encs [n] ++ (encs w ++ r) := by rw [show n :: w = [n] ++ w from rfl, encs_app]; simp
    have e1 := rdN_enc p (encs w ++ r) (h n (by simp))
    have ih := rdL_enc r w (p ++ encs [n]) fun x hx => h x (by simp [hx])
    rw [show p ++ encs [n] ++ encs w ++ r = p ++ encs [n] ++ (encs w ++ r) by simp] at ih
    rw [e0, List.length_cons]
    unfold rdL
    rw [if_pos rfl, e1]
    dsimp only
    rw [ih]
    rw [show n :: w = [n] ++ w from rfl, encs_app, List.append_assoc]
theorem rdT_enc (p r s : Txt) (h : s.length ≤ 1048576) : rdT (p ++ encT s ++ r) (p.length, 0) = (s, (((p ++ encT s).length : Int), 0)) := by
  unfold rdT
  rw [if_pos rfl, getT_enc p s r 1048576 (by omega) (by omega), List.length_append]
theorem getNote_enc (n : NoteV) (h : n.Right) : getNote (encNote n) = (n, 0) := by
  obtain ⟨k, t, y, p, w, a, c⟩ := n
  obtain ⟨r1, r2, r3, r4, r5, r6, r7, r8⟩ := h
  dsimp only at r1 r2 r3 r4 r5 r6 r7 r8
  have hR : (⟨k, t, y, p, w, a, c⟩ : NoteV).Right := ⟨r1, r2, r3, r4, r5, r6, r7, r8⟩
  unfold encNote
  dsimp only
  have e0 : encs [k, t, y, p, (w.length : Int)] ++ encs w ++ encT a ++ encT c = encs [k] ++ (encs [t] ++ (encs [y] ++ (encs [p] ++ (encs [(w.length : Int)] ++ (encs w ++ (encT a ++ encT c)))))) := by
    rw [show [k, t, y, p, (w.length : Int)] = [k] ++ ([t] ++ ([y] ++ ([p] ++ [(w.length : Int)]))) from rfl, encs_app, encs_app, encs_app, encs_app]
    simp
  rw [e0]
  generalize hb : encs [k] ++ (encs [t] ++ (encs [y] ++ (encs [p] ++ (encs [(w.length : Int)] ++ (encs w ++ (encT a ++ encT c)))))) = b
  have s1 := rdN_enc [] (encs [t] ++ (encs [y] ++ (encs [p] ++ (encs [(w.length : Int)] ++ (encs w ++ (encT a ++ encT c)))))) (n := k) (by omega)
  have s2 := rdN_enc (encs [k]) (encs [y] ++ (encs [p] ++ (encs [(w.length : Int)] ++ (encs w ++ (encT a ++ encT c))))) (n := t) (by omega)
  have s3 := rdN_enc (encs [k] ++ encs [t]) (encs [p] ++ (encs [(w.length : Int)] ++ (encs w ++ (encT a ++ encT c)))) (n := y) (by omega)
  have s4 := rdN_enc (encs [k] ++ encs [t] ++ encs [y]) (encs [(w.length : Int)] ++ (encs w ++ (encT a ++ encT c))) (n := p) (by omega)
  have s5 := rdN_enc (encs [k] ++ encs [t] ++ encs [y] ++ encs [p]) (encs w ++ (encT a ++ encT c)) (n := (w.length : Int)) (by omega)
  have s6 := rdL_enc (encT a ++ encT c) w (encs [k] ++ encs [t] ++ encs [y] ++ encs [p] ++ encs [(w.length : Int)]) r5
  have s7 := rdT_enc (encs [k] ++ encs [t] ++ encs [y] ++ encs [p] ++ encs [(w.length : Int)] ++ encs w) (encT c) a r7.1
  have s8 := rdT_enc (encs [k] ++ encs [t] ++ encs [y] ++ encs [p] ++ encs [(w.length : Int)] ++ encs w ++ encT a) [] c r8.1
  have hl : (encs [k] ++ encs [t] ++ encs [y] ++ encs [p] ++ encs [(w.length : Int)] ++ encs w ++ encT a ++ encT c) = b := by rw [← hb]; simp only [List.append_assoc]
  simp only [List.append_assoc, List.nil_append, List.append_nil] at s1 s2 s3 s4 s5 s6 s7 s8 hl
  rw [hb] at s1 s2 s3 s4 s5 s6 s7 s8
  unfold getNote
  rw [show ((0 : Int), (0 : Int)) = ((([] : Txt).length : Int), (0 : Int)) from rfl, s1]
  unfold gN0
  dsimp only
  rw [s2]
  unfold gN1
  dsimp only
  rw [s3]
  unfold gN2
  dsimp only
  rw [s4]
  unfold gN3
  dsimp only
  rw [s5]
  unfold gN4
  rw [show manyS ((w.length : Int), _) = _ from if_neg fun x => by have := x.1; dsimp only at this; omega]
  dsimp only
  rw [Int.toNat_natCast, s6]
  unfold finN
  dsimp only
  rw [s7]
  dsimp only
  rw [s8, if_pos rfl, if_neg (by simp), if_pos hR]
end Go.Proofs.YtmkgmlgklggnlaaGm
