/- A part of the proof: plain laws, and what functions of the given program come to; no condition. -/
import Derived.Test.YtmkgmlgklggnlaaGd
namespace Go.Proofs.YtmkgmlgklggnlaaG
open Go Go.Proofs.YtmkgmlgklggnlaaGm
set_option maxRecDepth 100000

theorem f19n_eq (F : Nat) (a1 : Int) : afun (c81 F) Try.f81 [AV.nil, AV.int .u64 a1] [] =
 bif ltI (IntKind.i64.wrap (9 - len9 a1)) 0 then
 .stuck
 else
 bif eqI (len9 a1) 9 then
 f81_0 F F a1 8 0 8 0 ([] ++ (List.replicate 1 0).set (0, Operand.const (Value.int IntKind.u8 255)).fst (UInt8.ofNat (Int.toNat 255)))
 else
 f81_0 F F a1 (len9 a1) (ishl IntKind.u8 255 (IntKind.i64.wrap (9 - len9 a1))) (len9 a1) 0 [] := by kernel_rfl
theorem putnil (F : Nat) (n : Int) : afun (c81 F) Try.f81 [.nil, .int .u64 n] [] = afun (c81 F) Try.f81 [.ro (.bytes []), .int .u64 n] [] := by
  rw [f19n_eq, f81_eq, bif_pos (c := appFits ty5 (Pay.bytes [])) (by rw [fits5]; decide), bif_pos (c := appFits ty5 _) (by rw [fits5, one_set _ _ rfl]; decide)]

theorem ok81 : PureOk Try.prog 81 go81 := by
  refine pureOk_of (c81 rounds) tt81_ok (.cons ok78 (.cons ok83 .nil)) follows rfl Try.func81 (by kernel_rfl) (by kernel_rfl) ?_ ?_
  · intro R stk args k
    unfold go81
    split
    · rename_i l n
      cases Nat.ble (l.length + 9) 140737488355328 <;> rfl
    · rfl
    · rfl
  · intro args r objs h hr
    unfold go81 at h
    split at h
    · rename_i l n
      have hn := hasu64 hr.tail.int
      cases hf : Nat.ble (l.length + 9) 140737488355328 with
      | false => rw [hf] at h; cases h
      | true =>
        rw [hf] at h
        cases h
        refine ⟨_, ?_, .same⟩
        unfold apure
        rw [put l n hn.1 hn.2 (Nat.le_of_ble_eq_true hf)]
        rfl
    · rename_i n
      have hn := hasu64 hr.tail.int
      cases h
      refine ⟨_, ?_, .same⟩
      unfold apure
      rw [putnil, put [] n hn.1 hn.2 (by decide)]
      rfl
    · cases h

theorem f64_run (F r : Nat) (x3 x5 : Int) : ∀ (m : Nat) (n : Int) (out : List UInt8), 0 ≤ n → n < 18446744073709551616 → m ≤ out.length → out.length ≤ 1000 → ∃ n', f64_0 F (m + 1 + r) n x3 x5 ((m : Int) - 1) out = f64_0 F (1 + r) n' x3 x5 (-1) (be m n ++ out.drop m)
  | 0, n, out, h0, h1, h2, h3 => ⟨n, by simp [be]⟩
  | m + 1, n, out, h0, h1, h2, h3 => by
    have e1 : ((m + 1 : Nat) : Int) - 1 = m := by omega
    have e2 : iquo .u64 n 256 = n / 256 := by
      unfold iquo
      rw [Int.tdiv_eq_ediv_of_nonneg h0, wrapu64 (by omega) (by omega)]
    have e3 : irem n 256 = n % 256 := by
      unfold irem; rw [Int.tmod_eq_emod_of_nonneg h0]
    obtain ⟨n', h⟩ := f64_run F r x3 x5 m (n / 256) (out.set m (UInt8.ofNat (n % 256).toNat)) (by omega) (by omega) (by simp; omega) (by simpa using h3)
    refine ⟨n', ?_⟩
    have hlen : (Pay.bytes out : Pay AV).len = out.length := rfl
    rw [show m + 1 + 1 + r = (m + 1 + r) + 1 by omega, f64_0_eq, e1, bif_pos (by rw [leI_iff]; omega), bif_pos (by unfold inB; rw [hlen]; simp; omega),
      bif_pos (by rw [hlen]; simp [Nat.blt]; omega), e2, e3, wrapu8, show n % 256 % 256 = n % 256 by omega, wrap64 (by omega) (by omega), Int.toNat_natCast, h]
    congr 1
    rw [be_snoc, List.append_assoc]
    congr 1
    rw [List.drop_eq_getElem_cons (by simp; omega)]
    simp [List.drop_set]








end Go.Proofs.YtmkgmlgklggnlaaG
