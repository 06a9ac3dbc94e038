/- A part of a reader of loaded code that is proved sound; no condition. -/
import Derived.Test.YtcmhpngmjjcloaaGmE
namespace Go.Proofs.YtcmhpngmjjcloaaGm

theorem toListBytes (s : ByteArray) : s.toList = s.data.toList := ByteArray.toList_eq s

section
variable {P : Program} {tt : Tab} {w : World} {M : Nat → Prop} {ρ : List CObj}

theorem eqlIs_some {op : BinOp} {b : Bool} {r : AV} (h : eqlIs (R := Option AV) none op b some = some r) : (op = .eql ∧ r = .bool b) ∨ (op = .neq ∧ r = .bool (!b)) := by
  cases op <;> simp [eqlIs] at h <;> simp [h]

theorem isTy_some {t : Nat} {f : AT → Bool} (hT : TabOk P tt) (h : isTy tt t f = true) : ∃ e, TyOk P t e ∧ f e.d = true := by
  unfold isTy at h
  cases he : tget tt t with
  | none => simp [he] at h
  | some e => simp only [he] at h; exact ⟨e, hT t e he, h⟩

theorem run_eqGuard_int (op : BinOp) (t : TypeId) (x y : Operand) (a b : Value) (ha : ∀ l, a ≠ .agg l) (hn : a ≠ .nilIface) : (eqGuard op t x y a b).run P w = .ok () w := by
  cases op <;> first | rfl | (cases a <;> first | rfl | exact absurd rfl (ha _) | exact absurd rfl hn)

theorem run_str (t : TypeId) (a b : ByteArray) :
    (binOp .eql t (.string a) (.string b)).run P w = .ok (.bool (eqS a.data.toList b.data.toList)) w ∧
    (binOp .neq t (.string a) (.string b)).run P w = .ok (.bool (!eqS a.data.toList b.data.toList)) w ∧
    (binOp .lss t (.string a) (.string b)).run P w = .ok (.bool (ltS a.data.toList b.data.toList)) w ∧
    (binOp .leq t (.string a) (.string b)).run P w = .ok (.bool (ltS a.data.toList b.data.toList || eqS a.data.toList b.data.toList)) w ∧
    (binOp .gtr t (.string a) (.string b)).run P w = .ok (.bool (!(ltS a.data.toList b.data.toList || eqS a.data.toList b.data.toList))) w ∧
    (binOp .geq t (.string a) (.string b)).run P w = .ok (.bool (!ltS a.data.toList b.data.toList)) w := by
  simp only [eqS, ltS, ← toListBytes]
  exact ⟨rfl, rfl, rfl, rfl, rfl, rfl⟩

theorem run_eql_of {t : Nat} {x y : Value} {b : Bool} (he : (Op.equal t x y).run P w = .ok b w) (hb : ∀ op, binOp op t x y = (match op with | .eql => do pure (.bool (← Op.equal t x y)) | .neq => do pure (.bool (!(← Op.equal t x y))) | op => binOp op t x y))
    {op : BinOp} {r : AV} (h : (op = .eql ∧ r = .bool b) ∨ (op = .neq ∧ r = .bool (!b))) : ∃ u, (binOp op t x y).run P w = .ok u w ∧ RepV w M ρ r u := by
  rcases h with ⟨rfl, rfl⟩ | ⟨rfl, rfl⟩
  · rw [hb]; exact ⟨_, by simp [he], .bool _⟩
  · rw [hb]; exact ⟨_, by simp [he], .bool _⟩

set_option maxHeartbeats 1000000 in
theorem abin_sound (hT : TabOk P tt) {t : Nat} {op : BinOp} {x y : AV} {r : AV} {u v : Value} (X Y : Operand)
    (hx : RepV w M ρ x u) (hy : RepV w M ρ y v) (h : abin (R := Option AV) none tt t op x y some = some r) :
    Gives P w M ρ (do eqGuard op t X Y u v; binOp op t u v) r := by
  suffices hs : (∀ l, u ≠ .agg l) ∧ u ≠ .nilIface ∧ ∃ z, (binOp op t u v).run P w = .ok z w ∧ RepV w M ρ r z by
    obtain ⟨h1, h2, z, hz, hr⟩ := hs
    exact .same (u := z) (by simp [run_eqGuard_int (P := P) (w := w) op t X Y u v h1 h2, hz]) hr
  unfold abin at h
  split at h
  case h_1 kx a ky b =>
    cases hx with | int ha => cases hy with | int hb =>
    refine ⟨fun _ => by simp, by simp, ?_⟩
    split at h
    · cases hc : ltI b 0 <;> simp [hc] at h
      subst h
      have hb0 : ¬ b < 0 := by simpa [ltI] using hc
      exact ⟨_, by simp [binOp, Op.shift, hb0, ishl], .int (wrap_has _ _)⟩
    · cases hc : ltI b 0 <;> simp [hc] at h
      subst h
      have hb0 : ¬ b < 0 := by simpa [ltI] using hc
      exact ⟨_, by simp [binOp, Op.shift, hb0, ishr], .int (fdiv_has ha _)⟩
    · cases hk : ikEq kx ky <;> simp [hk] at h
      have := ikEq_eq hk; subst this
      split at h
      · simp at h; subst h; exact ⟨_, by simp [binOp, Op.intArith], .int (wrap_has _ _)⟩
      · simp at h; subst h; exact ⟨_, by simp [binOp, Op.intArith], .int (wrap_has _ _)⟩
      · simp at h; subst h; exact ⟨_, by simp [binOp, Op.intArith], .int (wrap_has _ _)⟩
      · cases hc : eqI b 0 <;> simp [hc] at h
        subst h
        have hb0 : ¬ b = 0 := by simpa [eqI] using hc
        exact ⟨_, by simp [binOp, Op.intDiv, hb0, iquo], .int (wrap_has _ _)⟩
      · cases hc : eqI b 0 <;> simp [hc] at h
        subst h
        have hb0 : ¬ b = 0 := by simpa [eqI] using hc
        exact ⟨_, by simp [binOp, Op.intDiv, hb0, irem], .int (tmod_has ha hb0)⟩
      · simp at h; subst h; exact ⟨_, by simp [binOp, Op.intBits, iand], .int (wrap_has _ _)⟩
      · simp at h; subst h; exact ⟨_, by simp [binOp, Op.intBits, ior], .int (wrap_has _ _)⟩
      · simp at h; subst h; exact ⟨_, by simp [binOp, Op.intBits, ixor], .int (wrap_has _ _)⟩
      · simp at h; subst h; exact ⟨_, by simp [binOp, Op.intBits, iandn], .int (wrap_has _ _)⟩
      · simp at h; subst h; exact ⟨_, by simp [binOp, Op.intCmp]; rfl, .bool _⟩
      · simp at h; subst h; exact ⟨_, by simp [binOp, Op.intCmp]; rfl, .bool _⟩
      · simp at h; subst h; exact ⟨_, by simp [binOp, Op.intCmp]; rfl, .bool _⟩
      · simp at h; subst h; exact ⟨_, by simp [binOp, Op.intCmp]; rfl, .bool _⟩
      · simp at h; subst h; exact ⟨_, by simp [binOp, Op.intCmp]; rfl, .bool _⟩
      · simp at h; subst h; exact ⟨_, by simp [binOp, Op.intCmp]; rfl, .bool _⟩
      · simp at h
  case h_2 a b =>
    cases hx with | str ha => cases hy with | str hb =>
    rename_i sa sb
    refine ⟨fun _ => by simp, by simp, ?_⟩
    split at h
    · cases hc : Nat.ble (sa.data.toList.length + sb.data.toList.length) maxLen <;> simp only [hc, cond_true, cond_false] at h <;> simp at h
      subst h
      have hle := Nat.le_of_ble_eq_true hc
      have hsz : sa.size + sb.size ≤ maxLen := by simpa using hle
      have hn : ¬ (IntKind.i64.max < ((sa.size + sb.size : Nat) : Int)) := by
        simp only [maxLen] at hsz
        have : IntKind.i64.max = 9223372036854775807 := by decide
        omega
      refine ⟨.string (sa ++ sb), ?_, ?_⟩
      · simp only [binOp, Op.stringOp, gt_iff_lt]
        rw [if_neg hn]; rfl
      · have := RepV.str (w := w) (M := M) (ρ := ρ) (s := sa ++ sb) (by simpa using hsz)
        simpa using this
    · cases h; exact ⟨_, (run_str t sa sb).1, .bool _⟩
    · cases h; exact ⟨_, (run_str t sa sb).2.1, .bool _⟩
    · cases h; exact ⟨_, (run_str t sa sb).2.2.1, .bool _⟩
    · cases h; exact ⟨_, (run_str t sa sb).2.2.2.1, .bool _⟩
    · cases h; exact ⟨_, (run_str t sa sb).2.2.2.2.1, .bool _⟩
    · cases h; exact ⟨_, (run_str t sa sb).2.2.2.2.2, .bool _⟩
    · simp at h
  case h_3 a b =>
    cases hx with | bool => cases hy with | bool =>
    refine ⟨fun _ => by simp, by simp, ?_⟩
    cases hc : isTy tt t isBoolTy <;> simp [hc] at h
    obtain ⟨e, he, hd⟩ := isTy_some hT hc
    have hd' : e.d = .bool := by cases hdd : e.d <;> simp [hdd, isBoolTy] at hd; rfl
    exact run_eql_of (run_equal_bool w t a b (he.bool hd')) (fun op => by cases op <;> rfl) (eqlIs_some h)
  case h_4 =>
    cases hx with | nil => cases hy with | nil =>
    refine ⟨fun _ => by simp, by simp, ?_⟩
    cases hc : isTy tt t isSliceTy <;> simp [hc] at h
    obtain ⟨e, he, hd⟩ := isTy_some hT hc
    obtain ⟨E, hd'⟩ : ∃ E, e.d = .slice E := by cases hdd : e.d <;> simp [hdd, isSliceTy] at hd; exact ⟨_, rfl⟩
    exact run_eql_of (b := true) (by show (Op.equalIn (9999 + 1) t _ _).run P w = _; unfold Op.equalIn; simp [run_underlying (he.slice hd')]) (fun op => by cases op <;> rfl) (eqlIs_some h)
  case h_5 =>
    cases hx with | nilp => cases hy with | nilp =>
    refine ⟨fun _ => by simp, by simp, ?_⟩
    cases hc : isTy tt t isPtrTy <;> simp [hc] at h
    obtain ⟨e, he, hd⟩ := isTy_some hT hc
    obtain ⟨E, hd'⟩ : ∃ E, e.d = .ptr E := by cases hdd : e.d <;> simp [hdd, isPtrTy] at hd; exact ⟨_, rfl⟩
    exact run_eql_of (b := true) (by show (Op.equalIn (9999 + 1) t _ _).run P w = _; unfold Op.equalIn; simp [run_underlying (he.ptr hd')]) (fun op => by cases op <;> rfl) (eqlIs_some h)
  case h_6 =>
    cases hx with | nilm => cases hy with | nilm =>
    refine ⟨fun _ => by simp, by simp, ?_⟩
    cases hc : isTy tt t isMapTy <;> simp [hc] at h
    obtain ⟨e, he, hd⟩ := isTy_some hT hc
    obtain ⟨E, F, hd'⟩ : ∃ E F, e.d = .map E F := by cases hdd : e.d <;> simp [hdd, isMapTy] at hd; exact ⟨_, _, rfl⟩
    exact run_eql_of (b := true) (by show (Op.equalIn (9999 + 1) t _ _).run P w = _; unfold Op.equalIn; simp [run_underlying (he.map hd')]) (fun op => by cases op <;> rfl) (eqlIs_some h)
  case h_7 =>
    cases hx with | nilf => cases hy with | nilf =>
    refine ⟨fun _ => by simp, by simp, ?_⟩
    cases hc : isTy tt t isFuncTy <;> simp [hc] at h
    obtain ⟨e, he, hd⟩ := isTy_some hT hc
    have hd' : e.d = .func := by cases hdd : e.d <;> simp [hdd, isFuncTy] at hd; rfl
    obtain ⟨_, _, _, hu⟩ := he.func hd'
    exact run_eql_of (b := true) (by show (Op.equalIn (9999 + 1) t _ _).run P w = _; unfold Op.equalIn; simp [run_underlying hu]) (fun op => by cases op <;> rfl) (eqlIs_some h)
  case h_8 =>
    cases hx with | ptr => cases hy with | nilp =>
    refine ⟨fun _ => by simp, by simp, ?_⟩
    cases hc : isTy tt t isPtrTy <;> simp [hc] at h
    obtain ⟨e, he, hd⟩ := isTy_some hT hc
    obtain ⟨E, hd'⟩ : ∃ E, e.d = .ptr E := by cases hdd : e.d <;> simp [hdd, isPtrTy] at hd; exact ⟨_, rfl⟩
    exact run_eql_of (b := false) (by show (Op.equalIn (9999 + 1) t _ _).run P w = _; unfold Op.equalIn; simp [run_underlying (he.ptr hd')]) (fun op => by cases op <;> rfl) (eqlIs_some h)
  case h_9 =>
    cases hx with | nilp => cases hy with | ptr =>
    refine ⟨fun _ => by simp, by simp, ?_⟩
    cases hc : isTy tt t isPtrTy <;> simp [hc] at h
    obtain ⟨e, he, hd⟩ := isTy_some hT hc
    obtain ⟨E, hd'⟩ : ∃ E, e.d = .ptr E := by cases hdd : e.d <;> simp [hdd, isPtrTy] at hd; exact ⟨_, rfl⟩
    exact run_eql_of (b := false) (by show (Op.equalIn (9999 + 1) t _ _).run P w = _; unfold Op.equalIn; simp [run_underlying (he.ptr hd')]) (fun op => by cases op <;> rfl) (eqlIs_some h)
  case h_10 =>
    cases hx with | fn => cases hy with | nilf =>
    refine ⟨fun _ => by simp, by simp, ?_⟩
    cases hc : isTy tt t isFuncTy <;> simp [hc] at h
    obtain ⟨e, he, hd⟩ := isTy_some hT hc
    have hd' : e.d = .func := by cases hdd : e.d <;> simp [hdd, isFuncTy] at hd; rfl
    obtain ⟨_, _, _, hu⟩ := he.func hd'
    exact run_eql_of (b := false) (by show (Op.equalIn (9999 + 1) t _ _).run P w = _; unfold Op.equalIn; simp [run_underlying hu]) (fun op => by cases op <;> rfl) (eqlIs_some h)
  case h_11 =>
    cases hx with | mapo => cases hy with | nilm =>
    refine ⟨fun _ => by simp, by simp, ?_⟩
    cases hc : isTy tt t isMapTy <;> simp [hc] at h
    obtain ⟨e, he, hd⟩ := isTy_some hT hc
    obtain ⟨E, F, hd'⟩ : ∃ E F, e.d = .map E F := by cases hdd : e.d <;> simp [hdd, isMapTy] at hd; exact ⟨_, _, rfl⟩
    exact run_eql_of (b := false) (by show (Op.equalIn (9999 + 1) t _ _).run P w = _; unfold Op.equalIn; simp [run_underlying (he.map hd')]) (fun op => by cases op <;> rfl) (eqlIs_some h)
  case h_12 p =>
    cases hc : isTy tt t isSliceTy <;> simp [hc] at h
    cases hl : Nat.blt 0 p.len <;> simp [hl] at h
    have hl' : 0 < p.len := by simp [Nat.blt] at hl; omega
    cases hy with | nil =>
    obtain ⟨e, he, hd⟩ := isTy_some hT hc
    obtain ⟨E, hd'⟩ : ∃ E, e.d = .slice E := by cases hdd : e.d <;> simp [hdd, isSliceTy] at hd; exact ⟨_, rfl⟩
    cases hx with
    | roN h0 => omega
    | ro =>
      refine ⟨fun _ => by simp, by simp, ?_⟩
      exact run_eql_of (b := false) (by show (Op.equalIn (9999 + 1) t _ _).run P w = _; unfold Op.equalIn; simp [run_underlying (he.slice hd')]) (fun op => by cases op <;> rfl) (eqlIs_some h)
  case h_13 p =>
    cases hc : isTy tt t isSliceTy <;> simp [hc] at h
    cases hy with | nil =>
    obtain ⟨e, he, hd⟩ := isTy_some hT hc
    obtain ⟨E, hd'⟩ : ∃ E, e.d = .slice E := by cases hdd : e.d <;> simp [hdd, isSliceTy] at hd; exact ⟨_, rfl⟩
    cases hx with
    | rn hr =>
      refine ⟨fun _ => by simp, by simp, ?_⟩
      exact run_eql_of (b := false) (by show (Op.equalIn (9999 + 1) t _ _).run P w = _; unfold Op.equalIn; simp [run_underlying (he.slice hd')]) (fun op => by cases op <;> rfl) (eqlIs_some h)
  case h_14 => simp at h

theorem aun_sound {op : UnOp} {x r : AV} {u : Value} (hx : RepV w M ρ x u) (h : aun (R := Option AV) none op x some = some r) : Gives P w M ρ (Op.unary op u) r := by
  unfold aun at h
  split at h
  · cases hx with | int ha => cases h; exact .same (u := .int _ (IntKind.wrap _ (0 - _))) (by rfl) (.int (wrap_has _ _))
  · cases hx with | int ha => cases h; exact .same (u := .int _ (ixor _ (iones _) _)) (by rfl) (.int (wrap_has _ _))
  · cases hx with | bool => cases h; exact .same (u := _) (by rfl) (.bool _)
  · simp at h
end
end Go.Proofs.YtcmhpngmjjcloaaGm
