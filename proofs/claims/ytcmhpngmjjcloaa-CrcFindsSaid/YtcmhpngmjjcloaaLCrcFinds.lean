/- CrcFinds: for every input the law returns true, and the input reads as it did; no condition beyond the row. -/
import Derived.Test.YtcmhpngmjjcloaaRows
import Derived.WalkKit
import Derived.ProofKit
import Derived.OpenShut
import Derived.ShutString
import Derived.ChangeOld
import Derived.Below
import Derived.SizedLaws
import Derived.Carry
import Derived.Test.YtcmhpngmjjcloaaGp
import Derived.Test.YtcmhpngmjjcloaaGq
namespace Go.Proofs.YtcmhpngmjjcloaaG
open Go Go.Proofs.YtcmhpngmjjcloaaGm
set_option maxRecDepth 100000
def tt6 : Tab := [(0, ty0), (3, ty3), (4, ty4), (5, ty5), (22, ty22), (23, ty23), (34, ty34), (35, ty35), (42, ty42)]
theorem tt6_ok : TabOk Try.prog tt6 := tabOk_of_all ⟨ty0_ok, ty3_ok, ty4_ok, ty5_ok, ty22_ok, ty23_ok, ty34_ok, ty35_ok, ty42_ok, trivial⟩
def c6 (F : Nat) : Cfg := ⟨tt6, [(12, .pure go12), (25, .pure go25), (23, .pure go23), (27, .pure go27)], F, [(0, ⟨[2, 7, 8, 9], []⟩)], [], 0⟩
noncomputable def f6_0 (F k : Nat) (x2 : Int) (x8 : Int) (x9 : Int) (xh0 : List UInt8) : Res := aloop (c6 F) Try.f6 0 [] k (St.mk [AV.top, AV.top, AV.int IntKind.u32 x2, AV.top, AV.top, AV.top, AV.top, AV.own 0, AV.int IntKind.i64 x8, AV.int IntKind.i64 x9, AV.top, AV.top, AV.top, AV.top, AV.top, AV.top, AV.top, AV.top, AV.top, AV.top, AV.top, AV.top, AV.top, AV.top, AV.top, AV.top, AV.top, AV.top, AV.top, AV.top, AV.top, AV.top, AV.top, AV.top, AV.top, AV.top, AV.top, AV.top, AV.top, AV.top, AV.top, AV.top, AV.top, AV.top, AV.top, AV.top, AV.top, AV.top, AV.top, AV.top, AV.top, AV.top, AV.top, AV.top, AV.top, AV.top, AV.top, AV.top, AV.top, AV.top, AV.top, AV.top, AV.top, AV.top, AV.top, AV.top, AV.top, AV.top, AV.top, AV.top] [AObj.arr 5 (Pay.bytes xh0)])
theorem f6_eq (F : Nat) (a0 : List UInt8) (a1 : Int) (a2 : Int) : afun (c6 F) Try.f6 [AV.ro (Pay.bytes a0), AV.int IntKind.u16 a1, AV.int IntKind.u32 a2] [] =
  bif ltI 2000 ↑a0.length then
    .ret (AV.bool true) []
  else
    bif eqI a2 0 then
      .ret (AV.bool true) []
    else
      bif (a0.length + 4).ble 140737488355328 then
        bif !eqI (↑(crcPut a0).length) (IntKind.i64.wrap (↑a0.length + 4)) then
          .ret (AV.bool false) [AObj.arr 5 (Pay.bytes (crcPut a0))]
        else
          bif eqI (IntKind.i64.wrap (↑(crcPut a0).length - 3)) 0 then
            .stuck
          else
            f6_0 F F a2 (irem (IntKind.i64.wrap a1) (IntKind.i64.wrap (↑(crcPut a0).length - 3))) 0 (crcPut a0)
      else
        .stuck := by kernel_rfl
theorem f6_0_eq (F k : Nat) (x2 : Int) (x8 : Int) (x9 : Int) (xh0 : List UInt8) : f6_0 F (k + 1) x2 x8 x9 xh0 =
  bif ltI x9 4 then
    bif inB (IntKind.i64.wrap (x8 + x9)) xh0.length then
      bif inB (IntKind.i64.wrap (x8 + x9)) xh0.length then
        bif (IntKind.i64.wrap (x8 + x9)).toNat.blt xh0.length && true && true && true then
          f6_0 F k (iquo IntKind.u32 x2 256) x8 (IntKind.i64.wrap (x9 + 1)) (xh0.set (IntKind.i64.wrap (x8 + x9)).toNat (UInt8.ofNat (ixor IntKind.u8 (↑(xh0.getD (IntKind.i64.wrap (x8 + x9)).toNat 0).toNat) (IntKind.u8.wrap x2)).toNat))
        else
          .stuck
      else
        .stuck
    else
      .stuck
  else
    bif (xh0.length + 4).ble 140737488355328 then
      bif eqI (crcTake xh0) 4 then
        bif eqI (↑(crcGot xh0).length) 0 then
          .ret (AV.bool true) [AObj.dead]
        else
          .ret (AV.bool false) [AObj.dead]
      else
        .ret (AV.bool false) [AObj.dead]
    else
      .stuck := by kernel_rfl


theorem xor8 (c : UInt8) (x : Int) (hx : 0 ≤ x) : UInt8.ofNat (ixor .u8 (c.toNat : Int) (IntKind.u8.wrap x)).toNat = c ^^^ UInt8.ofNat (x % 256).toNat := by
  have hc : c.toNat < 256 := c.toNat_lt
  have h2 : c.toNat ^^^ (x % 256).toNat < 2 ^ 8 := Nat.xor_lt_two_pow hc (by omega)
  apply UInt8.toNat_inj.1
  rw [UInt8.toNat_xor, UInt8.toNat_ofNat', UInt8.toNat_ofNat', wrapu8]
  unfold ixor
  have b1 : (BitVec.ofInt IntKind.u8.bits (c.toNat : Int)).toNat = c.toNat := by
    rw [BitVec.toNat_ofInt]; show ((c.toNat : Int) % ((2 ^ 8 : Nat) : Int)).toNat = _; omega
  have b2 : (BitVec.ofInt IntKind.u8.bits (x % 256)).toNat = (x % 256).toNat := by
    rw [BitVec.toNat_ofInt]; show (x % 256 % ((2 ^ 8 : Nat) : Int)).toNat = _; omega
  rw [BitVec.toNat_xor, b1, b2, wrapu8, Nat.mod_eq_of_lt (show (x % 256).toNat < 2 ^ 8 by omega)]
  omega
theorem bxor_zero : ∀ (p r m : List UInt8), bxor (p ++ r) (List.replicate p.length 0 ++ m) = p ++ bxor r m
  | [], r, m => by simp
  | a :: p, r, m => by simp [bxor, List.replicate_succ, bxor_zero p r m]
theorem set_at (p q : List UInt8) (c x : UInt8) (n : Nat) (h : n = p.length) : (p ++ c :: q).set n x = p ++ x :: q := by subst h; simp
theorem get_at (p q : List UInt8) (c : UInt8) (n : Nat) (h : n = p.length) : (p ++ c :: q).getD n 0 = c := by subst h; simp [List.getD]
theorem f6_step (F r : Nat) (by' k i : Int) (p q : List UInt8) (c : UInt8) (h0 : 0 ≤ by') (h1 : by' < 4294967296) (hi : 0 ≤ i) (hi4 : i < 4) (hk : 0 ≤ k) (hp : k + i = p.length) (hl : p.length ≤ 100000) :
    f6_0 F (r + 1) by' k i (p ++ c :: q) = f6_0 F r (by' / 256) k (i + 1) (p ++ (c ^^^ UInt8.ofNat (by' % 256).toNat) :: q) := by
  have hlen : (p ++ c :: q).length = p.length + (q.length + 1) := by simp
  rw [f6_0_eq, bif_pos (by rw [ltI_iff]; omega), wrap64 (n := k + i) (by omega) (by omega), bif_pos (by rw [inB_iff, hlen]; omega), bif_pos (by rw [inB_iff, hlen]; omega), bif_pos (by simp only [Bool.and_true, blt_iff, hlen]; omega),
    iquo_u32 h0 h1 (by decide), wrap64 (by omega) (by omega), get_at p q c _ (by omega), xor8 _ _ h0, set_at p q c _ _ (by omega)]
theorem f6_run (F r : Nat) (by' : Int) (p q : List UInt8) (c0 c1 c2 c3 : UInt8) (h0 : 0 ≤ by') (h1 : by' < 4294967296) (hl : p.length ≤ 10000) :
    f6_0 F (r + 4) by' p.length 0 (p ++ c0 :: c1 :: c2 :: c3 :: q) = f6_0 F r (by' / 256 / 256 / 256 / 256) p.length 4
      (bxor (p ++ c0 :: c1 :: c2 :: c3 :: q) (List.replicate p.length 0 ++ [UInt8.ofNat (by' % 256).toNat, UInt8.ofNat (by' / 256 % 256).toNat, UInt8.ofNat (by' / 256 / 256 % 256).toNat, UInt8.ofNat (by' / 256 / 256 / 256 % 256).toNat])) := by
  have e1 := f6_step F (r + 3) by' p.length 0 p (c1 :: c2 :: c3 :: q) c0 h0 h1 (by omega) (by omega) (by omega) (by omega) (by omega)
  have e2 := f6_step F (r + 2) (by' / 256) p.length 1 (p ++ [c0 ^^^ UInt8.ofNat (by' % 256).toNat]) (c2 :: c3 :: q) c1 (by omega) (by omega) (by omega) (by omega) (by omega) (by simp) (by simp; omega)
  have e3 := f6_step F (r + 1) (by' / 256 / 256) p.length 2 (p ++ [c0 ^^^ UInt8.ofNat (by' % 256).toNat] ++ [c1 ^^^ UInt8.ofNat (by' / 256 % 256).toNat]) (c3 :: q) c2 (by omega) (by omega) (by omega) (by omega) (by omega) (by simp) (by simp; omega)
  have e4 := f6_step F r (by' / 256 / 256 / 256) p.length 3 (p ++ [c0 ^^^ UInt8.ofNat (by' % 256).toNat] ++ [c1 ^^^ UInt8.ofNat (by' / 256 % 256).toNat] ++ [c2 ^^^ UInt8.ofNat (by' / 256 / 256 % 256).toNat]) q c3 (by omega) (by omega) (by omega) (by omega) (by omega) (by simp) (by simp; omega)
  simp only [List.append_assoc, List.singleton_append, List.cons_append, List.nil_append, show (0 : Int) + 1 = 1 from rfl, show (1 : Int) + 1 = 2 from rfl, show (2 : Int) + 1 = 3 from rfl, show (3 : Int) + 1 = 4 from rfl] at e1 e2 e3 e4
  rw [show r + 4 = r + 3 + 1 from rfl, e1, show r + 3 = r + 2 + 1 from rfl, e2, show r + 2 = r + 1 + 1 from rfl, e3, e4, bxor_zero]
  cases q <;> simp [bxor]
theorem parts4 (l : List UInt8) (k : Nat) (h : k + 4 ≤ l.length) : ∃ p c0 c1 c2 c3 q, l = p ++ c0 :: c1 :: c2 :: c3 :: q ∧ p.length = k := by
  refine ⟨l.take k, l.getD k 0, l.getD (k + 1) 0, l.getD (k + 2) 0, l.getD (k + 3) 0, l.drop (k + 4), ?_, by simp; omega⟩
  rw [← getD_cons_drop l (k + 3) (by omega), ← getD_cons_drop l (k + 2) (by omega), ← getD_cons_drop l (k + 1) (by omega), ← getD_cons_drop l k (by omega), List.take_append_drop]
theorem law6 (l : List UInt8) (at' by' : Int) (hr : Real [.ro (.bytes l), .int .u16 at', .int .u32 by']) : apure (c6 rounds) Try.f6 [.ro (.bytes l), .int .u16 at', .int .u32 by'] = some (.bool true, []) := by
  have hb := hasu32 hr.tail.tail.int
  have ha : 0 ≤ at' ∧ at' ≤ 65535 := by simpa [IntKind.has, IntKind.min, IntKind.max, IntKind.signed, IntKind.bits] using hr.tail.int
  refine apure_yes ?_
  rw [f6_eq, bif_ltI]
  split
  · exact .ret
  rw [bif_eqI]
  split
  · exact .ret
  rename_i h2 h3
  have h := crcPut_length l
  rw [bif_pos (by rw [ble_iff]; omega), bif_neI, wrap64 (by omega) (by omega), if_pos (by omega), wrap64 (n := _ - 3) (by omega) (by omega), bif_neg (by rw [eqI_iff]; omega), wrap64 (n := at') (by omega) (by omega), irem_eq ha.1]
  have hk0 := Int.emod_nonneg at' (b := ((crcPut l).length : Int) - 3) (by omega)
  have hk1 := Int.emod_lt_of_pos at' (b := ((crcPut l).length : Int) - 3) (by omega)
  generalize at' % (((crcPut l).length : Int) - 3) = k at hk0 hk1
  obtain ⟨p, c0, c1, c2, c3, q, e, hp⟩ := parts4 (crcPut l) k.toNat (by omega)
  have hpk : k = p.length := by omega
  have hpq : p.length + (q.length + 4) = l.length + 4 := by rw [← h, e]; simp
  have hf := found l p.length (UInt8.ofNat (by' % 256).toNat) (UInt8.ofNat (by' / 256 % 256).toNat) (UInt8.ofNat (by' / 256 / 256 % 256).toNat) (UInt8.ofNat (by' / 256 / 256 / 256 % 256).toNat)
    (by show _ ≤ (crcPut l).length; omega) (by simp only [UInt8.toNat_ofNat']; omega)
  have hx : (bxor (crcPut l) (List.replicate p.length 0 ++ [UInt8.ofNat (by' % 256).toNat, UInt8.ofNat (by' / 256 % 256).toNat, UInt8.ofNat (by' / 256 / 256 % 256).toNat, UInt8.ofNat (by' / 256 / 256 / 256 % 256).toNat])).length = l.length + 4 := by rw [bxor_length, h]
  have run := f6_run rounds (rounds - 5 + 1) by' p q c0 c1 c2 c3 hb.1 hb.2 (by omega)
  rw [← e] at run
  rw [hpk, show f6_0 rounds rounds by' (↑p.length) 0 (crcPut l) = f6_0 rounds (rounds - 5 + 1 + 4) by' (↑p.length) 0 (crcPut l) from rfl, run]
  have hf' : cmore (~~~ 0#32) (bxor (crcPut l) (List.replicate p.length 0 ++ [UInt8.ofNat (by' % 256).toNat, UInt8.ofNat (by' / 256 % 256).toNat, UInt8.ofNat (by' / 256 / 256 % 256).toNat, UInt8.ofNat (by' / 256 / 256 / 256 % 256).toNat])) ≠ csteps 32 (~~~ 0#32) := hf
  generalize bxor (crcPut l) (List.replicate p.length 0 ++ [UInt8.ofNat (by' % 256).toNat, UInt8.ofNat (by' / 256 % 256).toNat, UInt8.ofNat (by' / 256 / 256 % 256).toNat, UInt8.ofNat (by' / 256 / 256 / 256 % 256).toNat]) = X at hx hf'
  have ht := take_bad (l := X) (by omega) (fun e => hf' (by rw [← e]; exact cput_reg _))
  rw [f6_0_eq, bif_neg (by decide), bif_pos (by rw [ble_iff]; omega), ht.1, ht.2, bif_pos (by decide), bif_pos (by decide)]
  exact .ret
end Go.Proofs.YtcmhpngmjjcloaaG

namespace Go.Proofs.Ytcmhpngmjjcloaa.crcFinds
open Go.ChangeShapes Go.WideShapes Go.ChangeAt Go.RowKit Go.Proofs.YtcmhpngmjjcloaaGm Go.Proofs.YtcmhpngmjjcloaaG
open Go.ChangeMaps (open_string shut_string)
set_option linter.unusedVariables false
theorem own : ownKnob Try.prog.godebug = none := by kernel_rfl
theorem laidOut : laidOutB Try.prog = true := by kernel_rfl
set_option maxRecDepth 100000 in
theorem lifted (os : Os) (started : os.Started) (H : Type) (enc : TypeId × Value → H) :
    ReturnsInHanded {} Try.checked os 6 .any (Rows.crcFindsSpec.pre6 enc Try.prog Try.f6 Rows.crcFindsRow.domain false) (Rows.crcFindsSpec.post enc Try.prog Try.f6 false true false false) := by
  refine returnsInHanded_of_change_sized (C := Try.checked) own started (by kernel_rfl) Try.func6
    (ChangeSpec.witness6 (enc := enc) (C := Try.checked) false ⟨#[], #[.slice none 0 0, .int .u16 0, .int .u32 0], []⟩ 8 (by kernel_rfl) (by kernel_rfl) (by kernel_rfl) (by kernel_rfl)) ?_
  intro W base args ds gs before hval0 hW hcnd hsz0 _
  have hval : ∀ (j : Nat) t v, Try.f6.params[j]? = some t → args[j]? = some v → Value.okWide Try.prog W .any base t v := hval0
  have hW' := hW
  obtain ⟨p, q, hA0, hV, rfl, hfz, hnd⟩ := hW
  have hA : DataW.TrodAll enc Try.prog W 0 (fun _ => true) true Try.f6.params.toList args.toList ds p := hA0
  rw [Try.params6] at hA hval
  obtain ⟨v0, vs0, d0, ds0, p0, q0, hargs, rfl, rfl, h0, r0⟩ := trodAll_cons hA
  obtain ⟨v1, vs1, d1, ds1, p1, q1, rfl, rfl, rfl, h1, r1⟩ := trodAll_cons r0
  obtain ⟨v2, vs2, d2, ds2, p2, q2, rfl, rfl, rfl, h2, r2⟩ := trodAll_cons r1
  obtain ⟨rfl, rfl, rfl⟩ := trodAll_nil r2
  obtain rfl : args = #[v0, v1, v2] := by cases args; simp_all
  obtain ⟨rfl, rfl⟩ := trodVars_none hV
  obtain ⟨a0, len0, cap0, rfl⟩ := okWide_slice Try.underlying22 (hval 0 22 v0 rfl rfl)
  have k0 := h0
  have lt0 : ∀ x ∈ p0, x.block < W.heap.size := by obtain ⟨m, hm⟩ := k0; exact DataW.trod_lt m _ _ _ hm
  obtain ⟨z0, w0⟩ : ∃ zs, IsRow .u8 W a0 len0 cap0 zs := by
    obtain ⟨fuel, hf⟩ := h0
    rcases open_ints Try.underlying22 Try.underlying5 (by kernel_rfl) hf with ⟨hcs, _⟩ | ⟨x, l, c, zs, hcs, _, hl, hm, hz, _, hcell, hwz⟩
    · simp [Value.cells] at hcs
      obtain ⟨rfl, rfl, rfl⟩ := hcs
      exact ⟨[], .inl ⟨rfl, rfl, rfl, rfl⟩⟩
    · simp [Value.cells] at hcs
      obtain ⟨rfl, rfl, rfl⟩ := hcs
      exact ⟨zs, .inr ⟨_, rfl, hl, hm, by simpa using hz, hcell, hwz⟩⟩
  obtain ⟨l0, _, R0⟩ := row_bytes w0
  obtain ⟨a1, rfl, rfl, rfl, w1⟩ := open_int Try.underlying42 (hval 1 42 v1 rfl rfl) h1
  have R1 : RepV W (fun _ => False) [] (.int .u16 a1) (.int .u16 a1) := .int (by simpa [Lit.wf, IntKind.has] using w1)
  obtain ⟨a2, rfl, rfl, rfl, w2⟩ := open_int Try.underlying23 (hval 2 23 v2 rfl rfl) h2
  have R2 : RepV W (fun _ => False) [] (.int .u32 a2) (.int .u32 a2) := .int (by simpa [Lit.wf, IntKind.has] using w2)
  clear hA0 hval0 hsz0
  have hreal : RepL W (fun _ => False) [] _ _ := (.cons R0 (.cons R1 (.cons R2 .nil)))
  refine (law_calls (c6 rounds) tt6_ok (.cons ok12 (.cons ok25 (.cons ok23 (.cons ok27 .nil)))) follows rfl Try.func6 (law6 l0 a1 a2 ⟨_, _, _, hreal⟩) hreal).mono fun e W' ⟨he, bel⟩ => ?_
  subst he
  exact ⟨_, rfl, _, _, _, [], _, [], hW', trodAll_mk1 (shut_bool Try.underlying4 _), (trodAll_cons_mk (Below.trod laidOut (by kernel_rfl) (of_decide_eq_true (by kernel_rfl)) k0 bel lt0) (trodAll_cons_mk (shut_int Try.underlying42 w1) (trodAll_cons_mk (shut_int Try.underlying23 w2) trodAll_mk0))), rfl, bel.frame _, fun h => by cases h⟩
theorem over : Rows.crcFindsRow.holds Try.pinned (OpenSpec.ofChange Rows.crcFindsSpec) :=
  OpenClaim.holds_of_wide 6 Try.f6 rfl rfl rfl rfl rfl rfl rfl ⟨rfl, rfl, rfl, rfl, rfl⟩ rfl rfl rfl rfl rfl (by kernel_rfl) Try.func6 (by kernel_rfl)
    (of_decide_eq_true (by kernel_rfl)) (by unfold Func.isWrapper; first | (rw [if_pos (by decide +kernel)]; kernel_rfl) | (rw [if_neg (by decide +kernel)]; exact ⟨rfl, rfl⟩))
    (fun os started H enc _ => lifted os started H enc)
theorem proved : Rows.CrcFindsSaid := over
end Go.Proofs.Ytcmhpngmjjcloaa.crcFinds
namespace Go.Proofs.Ytcmhpngmjjcloaa
/-- The row, under a short name, for the claim. -/
theorem crcFinds_holds : Rows.CrcFindsSaid := crcFinds.proved
#print axioms crcFinds_holds
end Go.Proofs.Ytcmhpngmjjcloaa
