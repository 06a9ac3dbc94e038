/- ChainHeads: for every input the law returns true, and the input reads as it did; no condition beyond the row. -/
import Derived.Test.YtmkgmlgklggnlaaRows
import Derived.WalkKit
import Derived.ProofKit
import Derived.OpenShut
import Derived.ShutString
import Derived.ChangeOld
import Derived.Below
import Derived.SizedLaws
import Derived.Carry
import Derived.Test.YtmkgmlgklggnlaaTh
import Derived.Test.YtmkgmlgklggnlaaGmYshd
import Derived.Test.YtmkgmlgklggnlaaGmYopl
namespace Go.Proofs.YtmkgmlgklggnlaaG
open Go Go.Proofs.YtmkgmlgklggnlaaGm
set_option maxRecDepth 100000
def tt12 : Tab := [(0, ty0), (3, ty3), (4, ty4), (5, ty5), (22, ty22), (52, ty52), (52, ty52)]
theorem tt12_ok : TabOk Try.prog tt12 := tabOk_of_all ⟨ty0_ok, ty3_ok, ty4_ok, ty5_ok, ty22_ok, ty52_ok, ty52_ok, trivial⟩
def c12 (F : Nat) : Cfg := ⟨tt12, [(15, .pure go15), (50, .pure go50), (51, .pure go51), (52, .pure go52), (53, .pure go53)], F, [], [], 0⟩
theorem f12_eq (F : Nat) (a : List UInt8) (b : List UInt8) (r : List AV) (x : List UInt8) : afun (c12 F) Try.f12 [AV.ro (Pay.bytes a), AV.ro (Pay.bytes b), AV.arr r, AV.ro (Pay.bytes x)] [] =
  bif r.length.beq 32 then
    bif r.all (isInt IntKind.u8) then
      bif ltI 400 (IntKind.i64.wrap (↑a.length + ↑b.length)) then
        .ret (AV.bool true) [AObj.vara 52 IntKind.u8 (List.map intOf r)]
      else
        bif ltI 400 ↑x.length then
          .ret (AV.bool true) [AObj.vara 52 IntKind.u8 (List.map intOf r)]
        else
          bif a.length.ble 1000000 && b.length.ble 1000000 then
            bif a.length.ble 1000000 && b.length.ble 1000000 then
              bif eqAs (intsA IntKind.u8 (List.map (shaF (encT a ++ encT b)) (List.range 32))) (intsA IntKind.u8 (List.map (shaF (encT a ++ encT b)) (List.range 32))) then
                bif Nat.beq 32 (List.map intOf r).length then
                  bif (List.map (AV.int IntKind.u8) (List.map intOf r)).length.beq 32 && (List.map (AV.int IntKind.u8) (List.map intOf r)).all (isInt IntKind.u8) && x.length.ble 1000000000000 then
                    bif Nat.beq 32 (List.map intOf r).length then
                      bif (List.map (AV.int IntKind.u8) (List.map intOf r)).length.beq 32 && (List.map (AV.int IntKind.u8) (List.map intOf r)).all (isInt IntKind.u8) && x.length.ble 1000000000000 then
                        bif eqAs (intsA IntKind.u8 (List.map (shaF (u8of (List.map (AV.int IntKind.u8) (List.map intOf r)) ++ x)) (List.range 32))) (intsA IntKind.u8 (List.map (shaF (u8of (List.map (AV.int IntKind.u8) (List.map intOf r)) ++ x)) (List.range 32))) then
                          .ret (AV.bool true) [AObj.vara 52 IntKind.u8 (List.map intOf r)]
                        else
                          .ret (AV.bool false) [AObj.vara 52 IntKind.u8 (List.map intOf r)]
                      else
                        .stuck
                    else
                      .stuck
                  else
                    .stuck
                else
                  .stuck
              else
                .ret (AV.bool false) [AObj.vara 52 IntKind.u8 (List.map intOf r)]
            else
              .stuck
          else
            .stuck
    else
      .stuck
  else
    .stuck := by kernel_rfl


theorem yes_pos {c : Bool} {x y : Res} (h : c = true) (hx : Yes x) : Yes (bif c then x else y) := by rw [h]; exact hx
theorem yes_neg {c : Bool} {x y : Res} (h : c = false) (hy : Yes y) : Yes (bif c then x else y) := by rw [h]; exact hy
theorem yes_bif {c : Bool} {x y : Res} (h1 : c = true → Yes x) (h2 : c = false → Yes y) : Yes (bif c then x else y) := by
  cases c with
  | true => exact h1 rfl
  | false => exact h2 rfl

theorem law12 (a b : List UInt8) (r : List AV) (x : List UInt8) (ba : a.length ≤ reachBytes) (bb : b.length ≤ reachBytes) (hf : r.length = 32 ∧ r.all (isInt .u8) = true) (_ : x.length ≤ reachBytes) (hr : Real [.ro (.bytes a), .ro (.bytes b), .arr r, .ro (.bytes x)]) : apure (c12 rounds) Try.f12 [.ro (.bytes a), .ro (.bytes b), .arr r, .ro (.bytes x)] = some (.bool true, []) := by
  have hM : reachBytes ≤ 4611686018427387903 := by decide
  obtain ⟨hl, ha⟩ := hf
  have l1 : r.length.beq 32 = true := by rw [hl]; rfl
  have l2 : Nat.beq 32 (List.map intOf r).length = true := by rw [List.length_map, hl]; rfl
  refine apure_yes ?_
  rw [f12_eq, ints_back ha, wrap64 (by omega) (by omega)]
  refine yes_pos l1 (yes_pos ha (yes_bif (fun _ => .ret) fun g1 => yes_bif (fun _ => .ret) fun g2 => ?_))
  have g1 := ltI_f.1 g1
  have g2 := ltI_f.1 g2
  have la : (a.length.ble 1000000 && b.length.ble 1000000) = true := by rw [Bool.and_eq_true, ble_iff, ble_iff]; omega
  have lx : (r.length.beq 32 && r.all (isInt .u8) && x.length.ble 1000000000000) = true := by rw [l1, ha, ble_iff.2 (by omega)]; rfl
  exact yes_pos la (yes_pos la (yes_pos (eqAs_refl _) (yes_pos l2 (yes_pos lx (yes_pos l2 (yes_pos lx (yes_pos (eqAs_refl _) .ret)))))))
end Go.Proofs.YtmkgmlgklggnlaaG

namespace Go.Proofs.Ytmkgmlgklggnlaa.chainHeads
open Go.ChangeShapes Go.WideShapes Go.ChangeAt Go.RowKit Go.Proofs.YtmkgmlgklggnlaaGm Go.Proofs.YtmkgmlgklggnlaaG
open Go.ChangeMaps (open_string shut_string)
set_option linter.unusedVariables false
theorem own : ownKnob Try.prog.godebug = none := by kernel_rfl
theorem laidOut : laidOutB Try.prog = true := by kernel_rfl
set_option maxRecDepth 100000 in
theorem lifted (os : Os) (started : os.Started) (H : Type) (enc : TypeId × Value → H) :
    ReturnsInHanded {} Try.checked os 12 .any (Rows.chainHeadsSpec.pre6 enc Try.prog Try.f12 Rows.chainHeadsRow.domain false) (Rows.chainHeadsSpec.post enc Try.prog Try.f12 false true false false) := by
  refine returnsInHanded_of_change_sized (C := Try.checked) own started (by kernel_rfl) Try.func12
    (ChangeSpec.witness6 (enc := enc) (C := Try.checked) false ⟨#[], #[.slice none 0 0, .slice none 0 0, .agg #[.int .u8 0, .int .u8 0, .int .u8 0, .int .u8 0, .int .u8 0, .int .u8 0, .int .u8 0, .int .u8 0, .int .u8 0, .int .u8 0, .int .u8 0, .int .u8 0, .int .u8 0, .int .u8 0, .int .u8 0, .int .u8 0, .int .u8 0, .int .u8 0, .int .u8 0, .int .u8 0, .int .u8 0, .int .u8 0, .int .u8 0, .int .u8 0, .int .u8 0, .int .u8 0, .int .u8 0, .int .u8 0, .int .u8 0, .int .u8 0, .int .u8 0, .int .u8 0], .slice none 0 0], []⟩ 8 (by kernel_rfl) (by kernel_rfl) (by kernel_rfl) (by kernel_rfl)) ?_
  intro W base args ds gs before hval0 hW hcnd hsz0 _
  have hval : ∀ (j : Nat) t v, Try.f12.params[j]? = some t → args[j]? = some v → Value.okWide Try.prog W .any base t v := hval0
  have hW' := hW
  obtain ⟨p, q, hA0, hV, rfl, hfz, hnd⟩ := hW
  have hA : DataW.TrodAll enc Try.prog W 0 (fun _ => true) true Try.f12.params.toList args.toList ds p := hA0
  rw [Try.params12] at hA hval
  obtain ⟨v0, vs0, d0, ds0, p0, q0, hargs, rfl, rfl, h0, r0⟩ := trodAll_cons hA
  obtain ⟨v1, vs1, d1, ds1, p1, q1, rfl, rfl, rfl, h1, r1⟩ := trodAll_cons r0
  obtain ⟨v2, vs2, d2, ds2, p2, q2, rfl, rfl, rfl, h2, r2⟩ := trodAll_cons r1
  obtain ⟨v3, vs3, d3, ds3, p3, q3, rfl, rfl, rfl, h3, r3⟩ := trodAll_cons r2
  obtain ⟨rfl, rfl, rfl⟩ := trodAll_nil r3
  obtain rfl : args = #[v0, v1, v2, v3] := by cases args; simp_all
  obtain ⟨rfl, rfl⟩ := trodVars_none hV
  obtain ⟨a0, len0, cap0, rfl⟩ := okWide_slice Try.underlying22 (hval 0 22 v0 rfl rfl)
  have k0 := h0
  have lt0 : ∀ x ∈ p0, x.block < W.heap.size := by obtain ⟨m, hm⟩ := k0; exact DataW.trod_lt m _ _ _ hm
  obtain ⟨y0, w0⟩ : ∃ zs, IsRow .u8 W a0 len0 cap0 zs := by
    obtain ⟨fuel, hf⟩ := h0
    rcases open_ints Try.underlying22 Try.underlying5 (by kernel_rfl) hf with ⟨hcs, _⟩ | ⟨x, l, c, zs, hcs, _, hl, hm, hz, _, hcell, hwz⟩
    · simp [Value.cells] at hcs
      obtain ⟨rfl, rfl, rfl⟩ := hcs
      exact ⟨[], .inl ⟨rfl, rfl, rfl, rfl⟩⟩
    · simp [Value.cells] at hcs
      obtain ⟨rfl, rfl, rfl⟩ := hcs
      exact ⟨zs, .inr ⟨_, rfl, hl, hm, by simpa using hz, hcell, hwz⟩⟩
  obtain ⟨l0, e0, R0⟩ := row_bytes w0
  have z0 : Sized Try.prog 22 d0 := fun n hn => by simpa using List.all_eq_true.1 hsz0 _ (DataW.weights_mem_each (j := 0) (t := 22) (by kernel_rfl) rfl n hn)
  have b0 : l0.length ≤ reachBytes := by rw [e0]; exact row_len Try.underlying22 (by kernel_rfl) h0 z0
  obtain ⟨a1, len1, cap1, rfl⟩ := okWide_slice Try.underlying22 (hval 1 22 v1 rfl rfl)
  have k1 := h1
  have lt1 : ∀ x ∈ p1, x.block < W.heap.size := by obtain ⟨m, hm⟩ := k1; exact DataW.trod_lt m _ _ _ hm
  obtain ⟨y1, w1⟩ : ∃ zs, IsRow .u8 W a1 len1 cap1 zs := by
    obtain ⟨fuel, hf⟩ := h1
    rcases open_ints Try.underlying22 Try.underlying5 (by kernel_rfl) hf with ⟨hcs, _⟩ | ⟨x, l, c, zs, hcs, _, hl, hm, hz, _, hcell, hwz⟩
    · simp [Value.cells] at hcs
      obtain ⟨rfl, rfl, rfl⟩ := hcs
      exact ⟨[], .inl ⟨rfl, rfl, rfl, rfl⟩⟩
    · simp [Value.cells] at hcs
      obtain ⟨rfl, rfl, rfl⟩ := hcs
      exact ⟨zs, .inr ⟨_, rfl, hl, hm, by simpa using hz, hcell, hwz⟩⟩
  obtain ⟨l1, e1, R1⟩ := row_bytes w1
  have z1 : Sized Try.prog 22 d1 := fun n hn => by simpa using List.all_eq_true.1 hsz0 _ (DataW.weights_mem_each (j := 1) (t := 22) (by kernel_rfl) rfl n hn)
  have b1 : l1.length ≤ reachBytes := by rw [e1]; exact row_len Try.underlying22 (by kernel_rfl) h1 z1
  have k2 := h2
  have lt2 : ∀ x ∈ p2, x.block < W.heap.size := by obtain ⟨m, hm⟩ := k2; exact DataW.trod_lt m _ _ _ hm
  have z2 : Sized Try.prog 52 d2 := fun n hn => by simpa using List.all_eq_true.1 hsz0 _ (DataW.weights_mem_each (j := 2) (t := 52) (by kernel_rfl) rfl n hn)
  obtain ⟨V2, R2, f2⟩ := open_arg (sh := (.array 32 (.int .u8))) (.array Try.underlying52 (by kernel_rfl) (by kernel_rfl) (.int Try.underlying5)) (hval 2 52 v2 rfl rfl) h2 z2 (harr_ints .u8)
  obtain ⟨l2, rfl, b2⟩ := fits_sum f2
  obtain ⟨a3, len3, cap3, rfl⟩ := okWide_slice Try.underlying22 (hval 3 22 v3 rfl rfl)
  have k3 := h3
  have lt3 : ∀ x ∈ p3, x.block < W.heap.size := by obtain ⟨m, hm⟩ := k3; exact DataW.trod_lt m _ _ _ hm
  obtain ⟨y3, w3⟩ : ∃ zs, IsRow .u8 W a3 len3 cap3 zs := by
    obtain ⟨fuel, hf⟩ := h3
    rcases open_ints Try.underlying22 Try.underlying5 (by kernel_rfl) hf with ⟨hcs, _⟩ | ⟨x, l, c, zs, hcs, _, hl, hm, hz, _, hcell, hwz⟩
    · simp [Value.cells] at hcs
      obtain ⟨rfl, rfl, rfl⟩ := hcs
      exact ⟨[], .inl ⟨rfl, rfl, rfl, rfl⟩⟩
    · simp [Value.cells] at hcs
      obtain ⟨rfl, rfl, rfl⟩ := hcs
      exact ⟨zs, .inr ⟨_, rfl, hl, hm, by simpa using hz, hcell, hwz⟩⟩
  obtain ⟨l3, e3, R3⟩ := row_bytes w3
  have z3 : Sized Try.prog 22 d3 := fun n hn => by simpa using List.all_eq_true.1 hsz0 _ (DataW.weights_mem_each (j := 3) (t := 22) (by kernel_rfl) rfl n hn)
  have b3 : l3.length ≤ reachBytes := by rw [e3]; exact row_len Try.underlying22 (by kernel_rfl) h3 z3
  clear hA0 hval0 hsz0
  have hreal : RepL W (fun _ => False) [] _ _ := (.cons R0 (.cons R1 (.cons R2 (.cons R3 .nil))))
  refine (law_calls (c12 rounds) tt12_ok (.cons ok15 (.cons ok50 (.cons ok51 (.cons ok52 (.cons ok53 .nil))))) follows rfl Try.func12 (law12 l0 l1 l2 l3 b0 b1 b2 b3 ⟨_, _, _, hreal⟩) hreal).mono fun e W' ⟨he, bel⟩ => ?_
  subst he
  exact ⟨_, rfl, _, _, _, [], _, [], hW', trodAll_mk1 (shut_bool Try.underlying4 _), (trodAll_cons_mk (Below.trod laidOut (by kernel_rfl) (of_decide_eq_true (by kernel_rfl)) k0 bel lt0) (trodAll_cons_mk (Below.trod laidOut (by kernel_rfl) (of_decide_eq_true (by kernel_rfl)) k1 bel lt1) (trodAll_cons_mk (Below.trod laidOut (by kernel_rfl) (of_decide_eq_true (by kernel_rfl)) k2 bel lt2) (trodAll_cons_mk (Below.trod laidOut (by kernel_rfl) (of_decide_eq_true (by kernel_rfl)) k3 bel lt3) trodAll_mk0)))), rfl, bel.frame _, fun h => by cases h⟩
theorem over : Rows.chainHeadsRow.holds Try.pinned (OpenSpec.ofChange Rows.chainHeadsSpec) :=
  OpenClaim.holds_of_wide 12 Try.f12 rfl rfl rfl rfl rfl rfl rfl ⟨rfl, rfl, rfl, rfl, rfl⟩ rfl rfl rfl rfl rfl (by kernel_rfl) Try.func12 (by kernel_rfl)
    (of_decide_eq_true (by kernel_rfl)) (by unfold Func.isWrapper; first | (rw [if_pos (by decide +kernel)]; kernel_rfl) | (rw [if_neg (by decide +kernel)]; exact ⟨rfl, rfl⟩))
    (fun os started H enc _ => lifted os started H enc)
theorem proved : Rows.ChainHeadsSaid := over
end Go.Proofs.Ytmkgmlgklggnlaa.chainHeads
namespace Go.Proofs.Ytmkgmlgklggnlaa
/-- The row, under a short name, for the claim. -/
theorem chainHeads_holds : Rows.ChainHeadsSaid := chainHeads.proved
#print axioms chainHeads_holds
end Go.Proofs.Ytmkgmlgklggnlaa
