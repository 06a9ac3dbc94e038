/- VintBack: for every input the law returns true, and the input reads as it did; no condition beyond the row. -/
import Derived.Test.YtcmhpngmjjcloaaRows
import Derived.WalkKit
import Derived.ProofKit
import Derived.OpenShut
import Derived.ShutString
import Derived.ChangeOld
import Derived.Below
import Derived.SizedLaws
import Derived.Carry
import Derived.Test.YtcmhpngmjjcloaaGl
namespace Go.Proofs.YtcmhpngmjjcloaaG
open Go Go.Proofs.YtcmhpngmjjcloaaGm
set_option maxRecDepth 100000
def tt11 : Tab := [(0, ty0), (3, ty3), (4, ty4), (5, ty5), (9, ty9), (22, ty22), (29, ty29), (34, ty34), (44, ty44), (50, ty50), (57, ty57)]
theorem tt11_ok : TabOk Try.prog tt11 := tabOk_of_all ⟨ty0_ok, ty3_ok, ty4_ok, ty5_ok, ty9_ok, ty22_ok, ty29_ok, ty34_ok, ty44_ok, ty50_ok, ty57_ok, trivial⟩
def c11 (F : Nat) : Cfg := ⟨tt11, [(18, .pure go18), (28, .pure go28), (30, .pure go30), (19, .pure go19), (31, .pure go31), (33, .pure go33), (35, .pure go35), (37, .pure go37)], F, [], [], 0⟩
theorem f11_eq (F : Nat) (a0 : Int) (a1 : Int) (a2 : List UInt8) (a3 : List UInt8) : afun (c11 F) Try.f11 [AV.int IntKind.u64 a0, AV.int IntKind.i64 a1, AV.str a2, AV.ro (Pay.bytes a3)] [] =
  bif ltI 1000 ↑a2.length then
    .ret (AV.bool true) []
  else
    bif ltI 1000 ↑a3.length then
      .ret (AV.bool true) []
    else
      bif ((enc a0).length + 9).ble 140737488355328 then
        bif ((enc a0 ++ enc (zig a1)).length + a2.length + 9).ble 140737488355328 then
          bif appFits ty5 (Pay.bytes (enc a0 ++ enc (zig a1) ++ encT a2 ++ a3)) then
            bif eqI (getV (enc a0 ++ enc (zig a1) ++ encT a2 ++ a3) 0).fst a0 then
              bif eqI (getI (enc a0 ++ enc (zig a1) ++ encT a2 ++ a3) (getV (enc a0 ++ enc (zig a1) ++ encT a2 ++ a3) 0).snd.fst).fst a1 then
                bif eqS (getT (enc a0 ++ enc (zig a1) ++ encT a2 ++ a3) (getI (enc a0 ++ enc (zig a1) ++ encT a2 ++ a3) (getV (enc a0 ++ enc (zig a1) ++ encT a2 ++ a3) 0).snd.fst).snd.fst 2000).fst a2 then
                  bif eqI (IntKind.i64.wrap ((getT (enc a0 ++ enc (zig a1) ++ encT a2 ++ a3) (getI (enc a0 ++ enc (zig a1) ++ encT a2 ++ a3) (getV (enc a0 ++ enc (zig a1) ++ encT a2 ++ a3) 0).snd.fst).snd.fst 2000).snd.fst + ↑a3.length)) ↑(enc a0 ++ enc (zig a1) ++ encT a2 ++ a3).length then
                    bif eqI (IntKind.i64.wrap (IntKind.i64.wrap ((getV (enc a0 ++ enc (zig a1) ++ encT a2 ++ a3) 0).snd.snd + (getI (enc a0 ++ enc (zig a1) ++ encT a2 ++ a3) (getV (enc a0 ++ enc (zig a1) ++ encT a2 ++ a3) 0).snd.fst).snd.snd) + (getT (enc a0 ++ enc (zig a1) ++ encT a2 ++ a3) (getI (enc a0 ++ enc (zig a1) ++ encT a2 ++ a3) (getV (enc a0 ++ enc (zig a1) ++ encT a2 ++ a3) 0).snd.fst).snd.fst 2000).snd.snd)) 0 then
                      .ret (AV.bool true) [AObj.arr 5 (Pay.bytes (enc a0)), AObj.arr 5 (Pay.bytes (enc a0 ++ enc (zig a1))), AObj.arr 5 (Pay.bytes (enc a0 ++ enc (zig a1) ++ encT a2 ++ a3))]
                    else
                      .ret (AV.bool false) [AObj.arr 5 (Pay.bytes (enc a0)), AObj.arr 5 (Pay.bytes (enc a0 ++ enc (zig a1))), AObj.arr 5 (Pay.bytes (enc a0 ++ enc (zig a1) ++ encT a2 ++ a3))]
                  else
                    .ret (AV.bool false) [AObj.arr 5 (Pay.bytes (enc a0)), AObj.arr 5 (Pay.bytes (enc a0 ++ enc (zig a1))), AObj.arr 5 (Pay.bytes (enc a0 ++ enc (zig a1) ++ encT a2 ++ a3))]
                else
                  .ret (AV.bool false) [AObj.arr 5 (Pay.bytes (enc a0)), AObj.arr 5 (Pay.bytes (enc a0 ++ enc (zig a1))), AObj.arr 5 (Pay.bytes (enc a0 ++ enc (zig a1) ++ encT a2 ++ a3))]
              else
                .ret (AV.bool false) [AObj.arr 5 (Pay.bytes (enc a0)), AObj.arr 5 (Pay.bytes (enc a0 ++ enc (zig a1))), AObj.arr 5 (Pay.bytes (enc a0 ++ enc (zig a1) ++ encT a2 ++ a3))]
            else
              .ret (AV.bool false) [AObj.arr 5 (Pay.bytes (enc a0)), AObj.arr 5 (Pay.bytes (enc a0 ++ enc (zig a1))), AObj.arr 5 (Pay.bytes (enc a0 ++ enc (zig a1) ++ encT a2 ++ a3))]
          else
            .stuck
        else
          .stuck
      else
        .stuck := by kernel_rfl


theorem law11 (n m : Int) (s r : List UInt8) (hr : Real [.int .u64 n, .int .i64 m, .str s, .ro (.bytes r)]) : apure (c11 rounds) Try.f11 [.int .u64 n, .int .i64 m, .str s, .ro (.bytes r)] = some (.bool true, []) := by
  have hn := hasu64 hr.int
  have hm := has64 hr.tail.int
  have hz := zig_has hm
  refine apure_yes ?_
  rw [f11_eq, bif_ltI]
  split
  · exact .ret
  rw [bif_ltI]
  split
  · exact .ret
  have b1 := be_len n
  have b2 := be_len (zig m)
  have b3 := be_len (s.length : Int)
  have l1 := enc_length n hn.1
  have l2 := enc_length (zig m) hz.1
  have e1 : getV (enc n ++ enc (zig m) ++ encT s ++ r) 0 = (n, ((enc n).length : Int), 0) := by
    have := getV_enc [] (enc (zig m) ++ (encT s ++ r)) n hn.1 hn.2
    simp only [List.nil_append, List.length_nil] at this
    have hr9 := len9_range n
    rw [show enc n ++ enc (zig m) ++ encT s ++ r = enc n ++ (enc (zig m) ++ (encT s ++ r)) by simp, show (0 : Int) = ((0 : Nat) : Int) from rfl, this, l1]
    congr 2
    omega
  have e2 : getI (enc n ++ enc (zig m) ++ encT s ++ r) ((enc n).length : Int) = (m, ((enc n ++ enc (zig m)).length : Int), 0) := by
    have := getV_enc (enc n) (encT s ++ r) (zig m) hz.1 hz.2
    have hr9 := len9_range (zig m)
    unfold getI
    rw [show enc n ++ enc (zig m) ++ encT s ++ r = enc n ++ enc (zig m) ++ (encT s ++ r) by simp, this]
    dsimp only
    rw [zag_zig, List.length_append, l2]
    congr 2
    omega
  have e3 : getT (enc n ++ enc (zig m) ++ encT s ++ r) ((enc n ++ enc (zig m)).length : Int) 2000 = (s, (((enc n ++ enc (zig m)).length + (encT s).length : Nat) : Int), 0) :=
    getT_enc (enc n ++ enc (zig m)) s r 2000 (by omega) (by omega)
  have lt : (encT s).length = (enc (s.length : Int)).length + s.length := by simp [encT]
  have la : (enc n ++ enc (zig m) ++ encT s ++ r).length = (enc n).length + (enc (zig m)).length + (encT s).length + r.length := by simp only [List.length_append]
  have lb : (enc n ++ enc (zig m)).length = (enc n).length + (enc (zig m)).length := by simp
  rw [bif_pos (by rw [ble_iff]; omega), bif_pos (by rw [ble_iff]; omega), bif_pos (by rw [fits5]; omega)]
  simp only [e1, e2, e3]
  rw [bif_pos (eqI_iff.2 rfl), bif_pos (eqI_iff.2 rfl), bif_pos (eqS_iff.2 rfl), wrap64 (by omega) (by omega), bif_pos (by rw [eqI_iff]; omega), bif_pos (by decide)]
  exact .ret
end Go.Proofs.YtcmhpngmjjcloaaG

namespace Go.Proofs.Ytcmhpngmjjcloaa.vintBack
open Go.ChangeShapes Go.WideShapes Go.ChangeAt Go.RowKit Go.Proofs.YtcmhpngmjjcloaaGm Go.Proofs.YtcmhpngmjjcloaaG
open Go.ChangeMaps (open_string shut_string)
set_option linter.unusedVariables false
theorem own : ownKnob Try.prog.godebug = none := by kernel_rfl
theorem laidOut : laidOutB Try.prog = true := by kernel_rfl
set_option maxRecDepth 100000 in
theorem lifted (os : Os) (started : os.Started) (H : Type) (enc : TypeId × Value → H) :
    ReturnsInHanded {} Try.checked os 11 .any (Rows.vintBackSpec.pre6 enc Try.prog Try.f11 Rows.vintBackRow.domain false) (Rows.vintBackSpec.post enc Try.prog Try.f11 false true false false) := by
  refine returnsInHanded_of_change_sized (C := Try.checked) own started (by kernel_rfl) Try.func11
    (ChangeSpec.witness6 (enc := enc) (C := Try.checked) false ⟨#[], #[.int .u64 0, .int .i64 0, .string ByteArray.empty, .slice none 0 0], []⟩ 8 (by kernel_rfl) (by kernel_rfl) (by kernel_rfl) (by kernel_rfl)) ?_
  intro W base args ds gs before hval0 hW hcnd hsz0 _
  have hval : ∀ (j : Nat) t v, Try.f11.params[j]? = some t → args[j]? = some v → Value.okWide Try.prog W .any base t v := hval0
  have hW' := hW
  obtain ⟨p, q, hA0, hV, rfl, hfz, hnd⟩ := hW
  have hA : DataW.TrodAll enc Try.prog W 0 (fun _ => true) true Try.f11.params.toList args.toList ds p := hA0
  rw [Try.params11] at hA hval
  obtain ⟨v0, vs0, d0, ds0, p0, q0, hargs, rfl, rfl, h0, r0⟩ := trodAll_cons hA
  obtain ⟨v1, vs1, d1, ds1, p1, q1, rfl, rfl, rfl, h1, r1⟩ := trodAll_cons r0
  obtain ⟨v2, vs2, d2, ds2, p2, q2, rfl, rfl, rfl, h2, r2⟩ := trodAll_cons r1
  obtain ⟨v3, vs3, d3, ds3, p3, q3, rfl, rfl, rfl, h3, r3⟩ := trodAll_cons r2
  obtain ⟨rfl, rfl, rfl⟩ := trodAll_nil r3
  obtain rfl : args = #[v0, v1, v2, v3] := by cases args; simp_all
  obtain ⟨rfl, rfl⟩ := trodVars_none hV
  obtain ⟨a0, rfl, rfl, rfl, w0⟩ := open_int Try.underlying29 (hval 0 29 v0 rfl rfl) h0
  have R0 : RepV W (fun _ => False) [] (.int .u64 a0) (.int .u64 a0) := .int (by simpa [Lit.wf, IntKind.has] using w0)
  obtain ⟨a1, rfl, rfl, rfl, w1⟩ := open_int Try.underlying3 (hval 1 3 v1 rfl rfl) h1
  have R1 : RepV W (fun _ => False) [] (.int .i64 a1) (.int .i64 a1) := .int (by simpa [Lit.wf, IntKind.has] using w1)
  obtain ⟨a2, rfl, rfl, rfl, y2⟩ := open_string Try.underlying9 (hval 2 9 v2 rfl rfl) h2
  have R2 : RepV W (fun _ => False) [] (.str a2.data.toList) (.string a2) := .str y2
  obtain ⟨a3, len3, cap3, rfl⟩ := okWide_slice Try.underlying22 (hval 3 22 v3 rfl rfl)
  have k3 := h3
  have lt3 : ∀ x ∈ p3, x.block < W.heap.size := by obtain ⟨m, hm⟩ := k3; exact DataW.trod_lt m _ _ _ hm
  obtain ⟨z3, w3⟩ : ∃ zs, IsRow .u8 W a3 len3 cap3 zs := by
    obtain ⟨fuel, hf⟩ := h3
    rcases open_ints Try.underlying22 Try.underlying5 (by kernel_rfl) hf with ⟨hcs, _⟩ | ⟨x, l, c, zs, hcs, _, hl, hm, hz, _, hcell, hwz⟩
    · simp [Value.cells] at hcs
      obtain ⟨rfl, rfl, rfl⟩ := hcs
      exact ⟨[], .inl ⟨rfl, rfl, rfl, rfl⟩⟩
    · simp [Value.cells] at hcs
      obtain ⟨rfl, rfl, rfl⟩ := hcs
      exact ⟨zs, .inr ⟨_, rfl, hl, hm, by simpa using hz, hcell, hwz⟩⟩
  obtain ⟨l3, _, R3⟩ := row_bytes w3
  clear hA0 hval0 hsz0
  have hreal : RepL W (fun _ => False) [] _ _ := (.cons R0 (.cons R1 (.cons R2 (.cons R3 .nil))))
  refine (law_calls (c11 rounds) tt11_ok (.cons ok18 (.cons ok28 (.cons ok30 (.cons ok19 (.cons ok31 (.cons ok33 (.cons ok35 (.cons ok37 .nil)))))))) follows rfl Try.func11 (law11 a0 a1 a2.data.toList l3 ⟨_, _, _, hreal⟩) hreal).mono fun e W' ⟨he, bel⟩ => ?_
  subst he
  exact ⟨_, rfl, _, _, _, [], _, [], hW', trodAll_mk1 (shut_bool Try.underlying4 _), (trodAll_cons_mk (shut_int Try.underlying29 w0) (trodAll_cons_mk (shut_int Try.underlying3 w1) (trodAll_cons_mk (shut_string Try.underlying9 y2) (trodAll_cons_mk (Below.trod laidOut (by kernel_rfl) (of_decide_eq_true (by kernel_rfl)) k3 bel lt3) trodAll_mk0)))), rfl, bel.frame _, fun h => by cases h⟩
theorem over : Rows.vintBackRow.holds Try.pinned (OpenSpec.ofChange Rows.vintBackSpec) :=
  OpenClaim.holds_of_wide 11 Try.f11 rfl rfl rfl rfl rfl rfl rfl ⟨rfl, rfl, rfl, rfl, rfl⟩ rfl rfl rfl rfl rfl (by kernel_rfl) Try.func11 (by kernel_rfl)
    (of_decide_eq_true (by kernel_rfl)) (by unfold Func.isWrapper; first | (rw [if_pos (by decide +kernel)]; kernel_rfl) | (rw [if_neg (by decide +kernel)]; exact ⟨rfl, rfl⟩))
    (fun os started H enc _ => lifted os started H enc)
theorem proved : Rows.VintBackSaid := over
end Go.Proofs.Ytcmhpngmjjcloaa.vintBack
namespace Go.Proofs.Ytcmhpngmjjcloaa
/-- The row, under a short name, for the claim. -/
theorem vintBack_holds : Rows.VintBackSaid := vintBack.proved
#print axioms vintBack_holds
end Go.Proofs.Ytcmhpngmjjcloaa
