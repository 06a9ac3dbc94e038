/- ChainReads: for every input the law returns true, and the input reads as it did; no condition beyond the row. -/
import Derived.Test.YtmkgmlgklggnlaaRows
import Derived.WalkKit
import Derived.ProofKit
import Derived.OpenShut
import Derived.ShutString
import Derived.ChangeOld
import Derived.Below
import Derived.SizedLaws
import Derived.Carry
import Derived.Test.YtmkgmlgklggnlaaRd
import Derived.Test.YtmkgmlgklggnlaaGmYshd
namespace Go.Proofs.YtmkgmlgklggnlaaG
open Go Go.Proofs.YtmkgmlgklggnlaaGm
set_option maxRecDepth 100000
def tt13 : Tab := [(0, ty0), (3, ty3), (4, ty4), (5, ty5), (22, ty22), (24, ty24), (26, ty26), (27, ty27), (52, ty52), (86, ty86), (87, ty87), (89, ty89)]
theorem tt13_ok : TabOk Try.prog tt13 := tabOk_of_all ⟨ty0_ok, ty3_ok, ty4_ok, ty5_ok, ty22_ok, ty24_ok, ty26_ok, ty27_ok, ty52_ok, ty86_ok, ty87_ok, ty89_ok, trivial⟩
def c13 (F : Nat) : Cfg := ⟨tt13, [(15, .pure go15), (54, .pure go54), (55, .pure go54), (56, .pure go56), (19, .pure go19)], F, [(0, ⟨[6, 10, 13], []⟩)], [], 0⟩
noncomputable def f13_0 (F k : Nat) (x6 : List (List AV)) (x10 : List (List AV)) (x13 : Int) : Res := aloop (c13 F) Try.f13 0 [] k (St.mk [AV.top, AV.top, AV.top, AV.top, AV.top, AV.top, AV.ro (Pay.rows 32 x6), AV.top, AV.top, AV.top, AV.ro (Pay.rows 32 x10), AV.top, AV.top, AV.int IntKind.i64 x13, AV.top, AV.top, AV.top, AV.top, AV.top, AV.top, AV.top, AV.top, AV.top, AV.top, AV.top, AV.top, AV.top, AV.top, AV.top, AV.top, AV.top, AV.top, AV.top, AV.top, AV.top, AV.top, AV.top, AV.top, AV.top, AV.top, AV.top, AV.top, AV.top, AV.top, AV.top, AV.top, AV.top, AV.top, AV.top, AV.top, AV.top, AV.top, AV.top, AV.top, AV.top, AV.top, AV.top, AV.top, AV.top, AV.top, AV.top, AV.top, AV.top, AV.top, AV.top, AV.top, AV.top, AV.top, AV.top, AV.top, AV.top, AV.top] [])
theorem f13_eq (F : Nat) (a0 : List UInt8) (f : Nat → Int) : afun (c13 F) Try.f13 [AV.ro (Pay.bytes a0), AV.arr (cells32 f)] [] =
  bif ltI 600 ↑a0.length then
    .ret (AV.bool true) [AObj.var 52 (cells32 f)]
  else
    bif a0.length.ble 100000 && okH (List.take 32 (List.drop 0 (cells32 f))) then
      bif a0.length.ble 100000 && okH (List.take 32 (List.drop 0 (cells32 f))) then
        bif okEs (readC a0 (a0.length + 1) 0 (hdF (List.take 32 (List.drop 0 (cells32 f))))).fst && okEs (readC a0 (a0.length + 1) 0 (hdF (List.take 32 (List.drop 0 (cells32 f))))).fst && sameRows (readC a0 (a0.length + 1) 0 (hdF (List.take 32 (List.drop 0 (cells32 f))))).fst (readC a0 (a0.length + 1) 0 (hdF (List.take 32 (List.drop 0 (cells32 f))))).fst && (readC a0 (a0.length + 1) 0 (hdF (List.take 32 (List.drop 0 (cells32 f))))).fst.length.ble 1000000 then
          bif !eqI ↑(readC a0 (a0.length + 1) 0 (hdF (List.take 32 (List.drop 0 (cells32 f))))).snd.fst.length ↑(readC a0 (a0.length + 1) 0 (hdF (List.take 32 (List.drop 0 (cells32 f))))).snd.fst.length then
            .ret (AV.bool false) [AObj.var 52 (cells32 f)]
          else
            bif !eqI (readC a0 (a0.length + 1) 0 (hdF (List.take 32 (List.drop 0 (cells32 f))))).snd.snd.fst (readC a0 (a0.length + 1) 0 (hdF (List.take 32 (List.drop 0 (cells32 f))))).snd.snd.fst then
              .ret (AV.bool false) [AObj.var 52 (cells32 f)]
            else
              bif !eqI (readC a0 (a0.length + 1) 0 (hdF (List.take 32 (List.drop 0 (cells32 f))))).snd.snd.snd (readC a0 (a0.length + 1) 0 (hdF (List.take 32 (List.drop 0 (cells32 f))))).snd.snd.snd then
                .ret (AV.bool false) [AObj.var 52 (cells32 f)]
              else
                f13_0 F F ((readC a0 (a0.length + 1) 0 (hdF (List.take 32 (List.drop 0 (cells32 f))))).snd.fst) ((readC a0 (a0.length + 1) 0 (hdF (List.take 32 (List.drop 0 (cells32 f))))).snd.fst) 0
        else
          .stuck
      else
        .stuck
    else
      .stuck := by kernel_rfl
theorem f13_0_eq (F k : Nat) (x6 : List (List AV)) (x10 : List (List AV)) (x13 : Int) : f13_0 F (k + 1) x6 x10 x13 =
  bif ltI x13 ↑x6.length then
    bif inB x13 x6.length then
      bif (List.take 32 (List.drop 0 (x6.getD x13.toNat []))).length.beq 32 && (List.take 32 (List.drop 0 (x6.getD x13.toNat []))).all (isInt IntKind.u8) then
        bif inB x13 x10.length then
          bif (List.take 32 (List.drop 0 (x10.getD x13.toNat []))).length.beq 32 && (List.take 32 (List.drop 0 (x10.getD x13.toNat []))).all (isInt IntKind.u8) then
            bif !eqAs (spanA IntKind.u8 (List.take 32 (List.drop 0 (x6.getD x13.toNat []))) 32) (spanA IntKind.u8 (List.take 32 (List.drop 0 (x10.getD x13.toNat []))) 32) then
              .ret (AV.bool false) []
            else
              f13_0 F k x6 x10 (IntKind.i64.wrap (x13 + 1))
          else
            .stuck
        else
          .stuck
      else
        .stuck
    else
      .stuck
  else
    .ret (AV.bool true) [] := by kernel_rfl


theorem yes_pos {c : Bool} {x y : Res} (h : c = true) (hx : Yes x) : Yes (bif c then x else y) := by rw [h]; exact hx
theorem yes_neg {c : Bool} {x y : Res} (h : c = false) (hy : Yes y) : Yes (bif c then x else y) := by rw [h]; exact hy
theorem yes_bif {c : Bool} {x y : Res} (h1 : c = true → Yes x) (h2 : c = false → Yes y) : Yes (bif c then x else y) := by
  cases c with
  | true => exact h1 rfl
  | false => exact h2 rfl

theorem eqAs_refl' {X : List AV} (h : X.all (isInt .u8) = true) : eqAs X X = true := by
  rw [← ints_back h]
  exact (eqAs_iff (intsA_is .u8 _) (intsA_is .u8 _) rfl).2 rfl
theorem f13_run (F : Nat) (X : List (List AV)) (hX : X.all okH = true) (hm : X.length ≤ 1000000) : ∀ (l : List (List AV)) (i k : Nat), i + l.length = X.length → X.drop i = l → l.length < k → Yes (f13_0 F k X X i)
  | l, i, 0, hi, hl, hk => by omega
  | [], i, k + 1, hi, hl, hk => by
    rw [f13_0_eq, bif_neg (by rw [ltI_iff]; simp at hi; omega)]
    exact .ret
  | r :: l, i, k + 1, hi, hl, hk => by
    obtain ⟨h1, h2, h3, h4⟩ := dropC_at [] hl
    have hr := List.all_eq_true.1 hX r h4
    obtain ⟨f, rfl⟩ : ∃ f, r = cells32 f := ⟨hdF r, (hd_cells hr).symm⟩
    have hc : ((cells32 f).length.beq 32 && (cells32 f).all (isInt IntKind.u8)) = true := okH_cells f
    have hs : spanA IntKind.u8 (cells32 f) 32 = cells32 f := by kernel_rfl
    have he : eqAs (cells32 f) (cells32 f) = true := by
      rw [cells32_eq]
      exact (eqAs_iff (intsA_is .u8 _) (intsA_is .u8 _) rfl).2 rfl
    rw [f13_0_eq, bif_pos (ltI_iff.2 (by omega)), bif_pos (inB_iff.2 ⟨by omega, by omega⟩), Int.toNat_natCast, h2, List.drop_zero, take32, bif_pos hc, bif_pos (inB_iff.2 ⟨by omega, by omega⟩), bif_pos hc, hs, he, bif_neg (by simp),
      show IntKind.i64.wrap ((i : Int) + 1) = ((i + 1 : Nat) : Int) by rw [wrap64 (by omega) (by omega)]; omega]
    exact f13_run F X hX hm l (i + 1) k (by simp only [List.length_cons] at hi; omega) h3 (by simp only [List.length_cons] at hk; omega)
theorem law13 (a : List UInt8) (r : List AV) (hf : r.length = 32 ∧ r.all (isInt .u8) = true) (hr : Real [.ro (.bytes a), .arr r]) : apure (c13 rounds) Try.f13 [.ro (.bytes a), .arr r] = some (.bool true, []) := by
  obtain ⟨hl, ha⟩ := hf
  have hh : okH r = true := by unfold okH; rw [hl, ha]; rfl
  refine apure_yes ?_
  have e := f13_eq rounds a (hdF r)
  conv at e => lhs; rw [hd_cells hh]
  rw [e]
  refine yes_bif (fun _ => .ret) fun g => ?_
  have g := ltI_f.1 g
  have h1 : a.length.ble 100000 = true := ble_iff.2 (by omega)
  simp only [List.drop_zero, take32, okH_cells, h1, Bool.and_self, cond_true]
  generalize hR : readC a (a.length + 1) 0 (hdF (cells32 (hdF r))) = R
  have k1 : okEs R.1 = true := by rw [← hR]; exact readC_ok _ _ _ _
  have k2 : R.2.1.all okH = true := by rw [← hR]; exact readC_heads _ _ _ _
  have k3 : R.1.length ≤ 601 ∧ R.2.1.length ≤ 601 := by rw [← hR]; have := readC_len a (a.length + 1) 0 (hdF (cells32 (hdF r))); omega
  have k4 : R.1.length.ble 1000000 = true := ble_iff.2 (by omega)
  have hF := big
  rw [k1, sameRows_self _ k1, k4]
  refine yes_pos rfl (yes_neg (by simp [eqI]) (yes_neg (by simp [eqI]) (yes_neg (by simp [eqI]) ?_)))
  exact f13_run rounds R.2.1 k2 (by omega) R.2.1 0 rounds (by omega) rfl (by omega)
end Go.Proofs.YtmkgmlgklggnlaaG

namespace Go.Proofs.Ytmkgmlgklggnlaa.chainReads
open Go.ChangeShapes Go.WideShapes Go.ChangeAt Go.RowKit Go.Proofs.YtmkgmlgklggnlaaGm Go.Proofs.YtmkgmlgklggnlaaG
open Go.ChangeMaps (open_string shut_string)
set_option linter.unusedVariables false
theorem own : ownKnob Try.prog.godebug = none := by kernel_rfl
theorem laidOut : laidOutB Try.prog = true := by kernel_rfl
set_option maxRecDepth 100000 in
theorem lifted (os : Os) (started : os.Started) (H : Type) (enc : TypeId × Value → H) :
    ReturnsInHanded {} Try.checked os 13 .any (Rows.chainReadsSpec.pre6 enc Try.prog Try.f13 Rows.chainReadsRow.domain false) (Rows.chainReadsSpec.post enc Try.prog Try.f13 false true false false) := by
  refine returnsInHanded_of_change_sized (C := Try.checked) own started (by kernel_rfl) Try.func13
    (ChangeSpec.witness6 (enc := enc) (C := Try.checked) false ⟨#[], #[.slice none 0 0, .agg #[.int .u8 0, .int .u8 0, .int .u8 0, .int .u8 0, .int .u8 0, .int .u8 0, .int .u8 0, .int .u8 0, .int .u8 0, .int .u8 0, .int .u8 0, .int .u8 0, .int .u8 0, .int .u8 0, .int .u8 0, .int .u8 0, .int .u8 0, .int .u8 0, .int .u8 0, .int .u8 0, .int .u8 0, .int .u8 0, .int .u8 0, .int .u8 0, .int .u8 0, .int .u8 0, .int .u8 0, .int .u8 0, .int .u8 0, .int .u8 0, .int .u8 0, .int .u8 0]], []⟩ 8 (by kernel_rfl) (by kernel_rfl) (by kernel_rfl) (by kernel_rfl)) ?_
  intro W base args ds gs before hval0 hW hcnd hsz0 _
  have hval : ∀ (j : Nat) t v, Try.f13.params[j]? = some t → args[j]? = some v → Value.okWide Try.prog W .any base t v := hval0
  have hW' := hW
  obtain ⟨p, q, hA0, hV, rfl, hfz, hnd⟩ := hW
  have hA : DataW.TrodAll enc Try.prog W 0 (fun _ => true) true Try.f13.params.toList args.toList ds p := hA0
  rw [Try.params13] at hA hval
  obtain ⟨v0, vs0, d0, ds0, p0, q0, hargs, rfl, rfl, h0, r0⟩ := trodAll_cons hA
  obtain ⟨v1, vs1, d1, ds1, p1, q1, rfl, rfl, rfl, h1, r1⟩ := trodAll_cons r0
  obtain ⟨rfl, rfl, rfl⟩ := trodAll_nil r1
  obtain rfl : args = #[v0, v1] := by cases args; simp_all
  obtain ⟨rfl, rfl⟩ := trodVars_none hV
  obtain ⟨a0, len0, cap0, rfl⟩ := okWide_slice Try.underlying22 (hval 0 22 v0 rfl rfl)
  have k0 := h0
  have lt0 : ∀ x ∈ p0, x.block < W.heap.size := by obtain ⟨m, hm⟩ := k0; exact DataW.trod_lt m _ _ _ hm
  obtain ⟨y0, w0⟩ : ∃ zs, IsRow .u8 W a0 len0 cap0 zs := by
    obtain ⟨fuel, hf⟩ := h0
    rcases open_ints Try.underlying22 Try.underlying5 (by kernel_rfl) hf with ⟨hcs, _⟩ | ⟨x, l, c, zs, hcs, _, hl, hm, hz, _, hcell, hwz⟩
    · simp [Value.cells] at hcs
      obtain ⟨rfl, rfl, rfl⟩ := hcs
      exact ⟨[], .inl ⟨rfl, rfl, rfl, rfl⟩⟩
    · simp [Value.cells] at hcs
      obtain ⟨rfl, rfl, rfl⟩ := hcs
      exact ⟨zs, .inr ⟨_, rfl, hl, hm, by simpa using hz, hcell, hwz⟩⟩
  obtain ⟨l0, e0, R0⟩ := row_bytes w0
  have k1 := h1
  have lt1 : ∀ x ∈ p1, x.block < W.heap.size := by obtain ⟨m, hm⟩ := k1; exact DataW.trod_lt m _ _ _ hm
  have z1 : Sized Try.prog 52 d1 := fun n hn => by simpa using List.all_eq_true.1 hsz0 _ (DataW.weights_mem_each (j := 1) (t := 52) (by kernel_rfl) rfl n hn)
  obtain ⟨V1, R1, f1⟩ := open_arg (sh := (.array 32 (.int .u8))) (.array Try.underlying52 (by kernel_rfl) (by kernel_rfl) (.int Try.underlying5)) (hval 1 52 v1 rfl rfl) h1 z1 (harr_ints .u8)
  obtain ⟨l1, rfl, b1⟩ := fits_sum f1
  clear hA0 hval0 hsz0
  have hreal : RepL W (fun _ => False) [] _ _ := (.cons R0 (.cons R1 .nil))
  refine (law_calls (c13 rounds) tt13_ok (.cons ok15 (.cons ok54 (.cons ok55 (.cons ok56 (.cons ok19 .nil))))) follows rfl Try.func13 (law13 l0 l1 b1 ⟨_, _, _, hreal⟩) hreal).mono fun e W' ⟨he, bel⟩ => ?_
  subst he
  exact ⟨_, rfl, _, _, _, [], _, [], hW', trodAll_mk1 (shut_bool Try.underlying4 _), (trodAll_cons_mk (Below.trod laidOut (by kernel_rfl) (of_decide_eq_true (by kernel_rfl)) k0 bel lt0) (trodAll_cons_mk (Below.trod laidOut (by kernel_rfl) (of_decide_eq_true (by kernel_rfl)) k1 bel lt1) trodAll_mk0)), rfl, bel.frame _, fun h => by cases h⟩
theorem over : Rows.chainReadsRow.holds Try.pinned (OpenSpec.ofChange Rows.chainReadsSpec) :=
  OpenClaim.holds_of_wide 13 Try.f13 rfl rfl rfl rfl rfl rfl rfl ⟨rfl, rfl, rfl, rfl, rfl⟩ rfl rfl rfl rfl rfl (by kernel_rfl) Try.func13 (by kernel_rfl)
    (of_decide_eq_true (by kernel_rfl)) (by unfold Func.isWrapper; first | (rw [if_pos (by decide +kernel)]; kernel_rfl) | (rw [if_neg (by decide +kernel)]; exact ⟨rfl, rfl⟩))
    (fun os started H enc _ => lifted os started H enc)
theorem proved : Rows.ChainReadsSaid := over
end Go.Proofs.Ytmkgmlgklggnlaa.chainReads
namespace Go.Proofs.Ytmkgmlgklggnlaa
/-- The row, under a short name, for the claim. -/
theorem chainReads_holds : Rows.ChainReadsSaid := chainReads.proved
#print axioms chainReads_holds
end Go.Proofs.Ytmkgmlgklggnlaa
