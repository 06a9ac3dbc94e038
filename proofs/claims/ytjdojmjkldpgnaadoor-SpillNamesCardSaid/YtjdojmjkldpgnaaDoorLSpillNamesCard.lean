/- SpillNamesCard: for every input the law returns true, and the input reads as it did; no condition beyond the card (the tables of the library that it lists read as the program lays them). -/
import Derived.Test.YtjdojmjkldpgnaaDoorRows
import Derived.WalkKit
import Derived.ProofKit
import Derived.OpenShut
import Derived.ShutString
import Derived.ChangeOld
import Derived.Below
import Derived.SizedLaws
import Derived.Carry
import Derived.Handed
import Derived.LaidMore
import Derived.Lay
import Derived.SevenTiedAt
import Derived.Stop.Joined
import Derived.Lib.LaidTab
import Derived.Test.YtjdojmjkldpgnaaDoorNm
import Derived.Test.YtjdojmjkldpgnaaDoorCards
import Derived.Test.YtjdojmjkldpgnaaDoorTie
namespace Go.Proofs.YtjdojmjkldpgnaaDoorG
open Go Go.Proofs.YtjdojmjkldpgnaaDoorGm
set_option maxRecDepth 100000
def tt3 : Tab := [(0, ty0), (3, ty3), (4, ty4), (5, ty5), (9, ty9), (22, ty22), (25, ty25), (27, ty27), (28, ty28), (30, ty30), (68, ty68), (70, ty70)]
theorem tt3_ok : TabOk Tryd.prog tt3 := tabOk_of_all ⟨ty0_ok, ty3_ok, ty4_ok, ty5_ok, ty9_ok, ty22_ok, ty25_ok, ty27_ok, ty28_ok, ty30_ok, ty68_ok, ty70_ok, trivial⟩
def c3 (F : Nat) : Cfg := ⟨tt3, [(10, .pure go10), (11, .pure go11), (12, .pure go12), (13, .pure go13), (14, .pure go14)], F, [(0, ⟨[0, 1, 2, 3, 9, 10], []⟩)], [], 0⟩
noncomputable def f3_0 (F k : Nat) (x0 : Int) (x1 : Int) (x2 : Int) (x3 : List (List AV)) (x10 : Int) (xh0 : List (List AV)) : Res := aloop (c3 F) Tryd.f3 0 [] k (St.mk [AV.tin 0 Lib.pow10Tab x0, AV.tin 0 Lib.pow10Tab x1, AV.tin 0 Lib.pow10Tab x2, AV.ro (Pay.rows 3 x3), AV.top, AV.top, AV.top, AV.top, AV.top, AV.own 0, AV.int IntKind.i64 x10, AV.top, AV.top, AV.top, AV.top, AV.top, AV.top, AV.top, AV.top, AV.top, AV.top, AV.top, AV.top, AV.top, AV.top, AV.top, AV.top, AV.top, AV.top, AV.top, AV.top, AV.top, AV.top, AV.top, AV.top, AV.top, AV.top, AV.top, AV.top, AV.top, AV.top, AV.top, AV.top, AV.top, AV.top, AV.top, AV.top, AV.top, AV.top] [AObj.arr 9 (Pay.rows 1 xh0)])
theorem f3_eq (F : Nat) (a : Int) (b : Int) (c : Int) (x : List (List AV)) : afun (c3 F) Tryd.f3 [AV.tin 0 Lib.pow10Tab a, AV.tin 0 Lib.pow10Tab b, AV.tin 0 Lib.pow10Tab c, AV.ro (Pay.rows 3 x)] [] =
  bif okItems x then
    bif muchR x.length 0 0 x then
      .ret (AV.bool true) []
    else
      bif okItems x && x.length.ble 1000 then
        bif !eqI ↑(keysR x).length ↑x.length then
          .ret (AV.bool false) [AObj.arr 9 (Pay.rows 1 (keysR x))]
        else
          f3_0 F F a b c x 0 (keysR x)
      else
        .stuck
  else
    .stuck := by kernel_rfl
theorem f3_0_eq (F k : Nat) (x0 : Int) (x1 : Int) (x2 : Int) (x3 : List (List AV)) (x10 : Int) (xh0 : List (List AV)) : f3_0 F (k + 1) x0 x1 x2 x3 x10 xh0 =
  bif ltI x10 ↑xh0.length then
    bif inB x10 xh0.length then
      bif isStr (nth (xh0.getD x10.toNat []) 0) then
        bif inB x10 x3.length then
          bif isStr (nth (x3.getD x10.toNat []) 0) then
            bif !eqS (strOf (nth (xh0.getD x10.toNat []) 0)) (strOf (nth (x3.getD x10.toNat []) 0)) then
              .ret (AV.bool false) [AObj.arr 9 (Pay.rows 1 xh0)]
            else
              f3_0 F k x0 x1 x2 x3 (IntKind.i64.wrap (x10 + 1)) xh0
          else
            .stuck
        else
          .stuck
      else
        .stuck
    else
      .stuck
  else
    bif eqS (nameS x0 x1 x2) (nameS x0 x1 x2) then
      .ret (AV.bool true) [AObj.arr 9 (Pay.rows 1 xh0)]
    else
      .ret (AV.bool false) [AObj.arr 9 (Pay.rows 1 xh0)] := by kernel_rfl


theorem yes_pos {c : Bool} {x y : Res} (h : c = true) (hx : Yes x) : Yes (bif c then x else y) := by rw [h]; exact hx
theorem yes_neg {c : Bool} {x y : Res} (h : c = false) (hy : Yes y) : Yes (bif c then x else y) := by rw [h]; exact hy
theorem yes_bif {c : Bool} {x y : Res} (h1 : c = true → Yes x) (h2 : c = false → Yes y) : Yes (bif c then x else y) := by
  cases c with
  | true => exact h1 rfl
  | false => exact h2 rfl

theorem f3_run (F : Nat) (a b c : Int) (x0 : List (List AV)) (ho : okItems x0 = true) (hm : x0.length ≤ 1000) : ∀ (l : List (List AV)) (i k : Nat), i + l.length = x0.length → x0.drop i = l → l.length < k → Yes (f3_0 F k a b c x0 i (keysR x0))
  | l, i, 0, hi, hl, hk => by omega
  | [], i, k + 1, hi, hl, hk => by
    have e : (keysR x0).length = x0.length := by unfold keysR; simp
    rw [f3_0_eq, bif_neg (by rw [ltI_iff, e]; simp at hi; omega), bif_pos (eqS_iff.2 rfl)]
    exact .ret
  | r :: l, i, k + 1, hi, hl, hk => by
    obtain ⟨h1, h2, h3, h4⟩ := drop_at [] hl
    have e : (keysR x0).length = x0.length := by unfold keysR; simp
    have hi2 := List.all_eq_true.1 ho r h4
    unfold okItem at hi2
    simp only [Bool.and_eq_true] at hi2
    obtain ⟨o1, o2, o3, o4⟩ := hi2
    rw [f3_0_eq, bif_pos (ltI_iff.2 (by omega)), bif_pos (inB_iff.2 ⟨by omega, by omega⟩), Int.toNat_natCast, keysR_at x0 i h1, h2, bif_pos (show isStr (nth [AV.str (strOf (nth r 0))] 0) = true from rfl), bif_pos (inB_iff.2 ⟨by omega, by omega⟩), bif_pos o1, bif_neg (by rw [Bool.not_eq_true', Bool.not_eq_false]; exact eqS_iff.2 rfl),
      show IntKind.i64.wrap ((i : Int) + 1) = ((i + 1 : Nat) : Int) by rw [wrap64 (by omega) (by omega)]; omega]
    exact f3_run F a b c x0 ho hm l (i + 1) k (by simp only [List.length_cons] at hi; omega) h3 (by simp only [List.length_cons] at hk; omega)
theorem law3 (a b c : Int) (x : List (List AV)) (ho : okItems x = true) (hr : Real [.tin 0 Lib.pow10Tab a, .tin 0 Lib.pow10Tab b, .tin 0 Lib.pow10Tab c, .ro (.rows 3 x)]) :
    apure (c3 rounds) Tryd.f3 [.tin 0 Lib.pow10Tab a, .tin 0 Lib.pow10Tab b, .tin 0 Lib.pow10Tab c, .ro (.rows 3 x)] = some (.bool true, []) := by
  refine apure_yes ?_
  have e : (keysR x).length = x.length := by unfold keysR; simp
  rw [f3_eq, ho]
  refine yes_pos rfl ?_
  cases hb : muchR x.length 0 0 x with
  | true => exact .ret
  | false =>
    have h60 := muchR_few _ _ _ _ hb
    have h1000 : Nat.ble x.length 1000 = true := ble_iff.2 (by omega)
    refine yes_neg (by simp) (yes_pos (by rw [h1000]; rfl) (yes_neg (by rw [e]; simp [eqI]) ?_))
    exact f3_run rounds a b c x ho (by omega) x 0 rounds (by omega) rfl (Nat.lt_of_le_of_lt h60 (by decide))
end Go.Proofs.YtjdojmjkldpgnaaDoorG

namespace Go.Proofs.YtjdojmjkldpgnaaDoor.spillNames
open Go.ChangeShapes Go.WideShapes Go.ChangeAt Go.RowKit Go.Proofs.YtjdojmjkldpgnaaDoorGm Go.Proofs.YtjdojmjkldpgnaaDoorG
open Go.ChangeMaps (open_string shut_string)
set_option linter.unusedVariables false
theorem own : ownKnob Tryd.prog.godebug = none := by kernel_rfl
theorem laidOut : laidOutB Tryd.prog = true := by kernel_rfl
theorem tab_of {W : World} (h : laidMetH Tryd.prog [("math/bits.deBruijn32tab", Rows.laid_math_bits_deBruijn32tab), ("math/bits.deBruijn64tab", Rows.laid_math_bits_deBruijn64tab), ("internal/strconv.uint64pow10", Rows.laid_internal_strconv_uint64pow10)] W) : ∃ (T : Nat) (oo : Nat × Nat), W.heap[0]? = some (.cells (Lib.pow10Tab.map (Value.int .u64)).toArray T oo) := by
  rw [MakeChecks.laidMetH_plain _ _ _ (by kernel_rfl)] at h
  obtain ⟨ps, ⟨_, _, _, _, _, _, _, _, _, _, ⟨_, _, _, _, _, _, _, _, _, _, ⟨g, t, cs, fuel, p, q, hg, ht, hv, hd, _, _⟩, _⟩, _⟩, _⟩ := h
  have hg0 : Tryd.prog.globalNamed "internal/strconv.uint64pow10" = some 0 := by kernel_rfl
  obtain rfl := Option.some.inj (hg0.symm.trans hg)
  obtain rfl := Option.some.inj ((show (Tryd.prog.globals[0]?).map (·.type) = some 220 by kernel_rfl).symm.trans ht)
  have ez : (Rows.laid_internal_strconv_uint64pow10 : DataW Unit) = Lib.tabData .u64 Lib.pow10Tab := by kernel_rfl
  rw [ez] at hd
  have ec := Lib.cells_of_tab Tryd.underlying220 Tryd.underlying73 (by kernel_rfl) (by kernel_rfl) hd
  unfold World.var? at hv
  rw [hg0] at hv
  simp only [Option.bind_some] at hv
  split at hv
  · rename_i cs' T oo hc
    cases hv
    refine ⟨T, oo, ?_⟩
    rw [hc, ← ec]
  · cases hv
set_option maxRecDepth 100000 in
theorem lifted (os : Os) (started : os.Started) (H : Type) (enc : TypeId × Value → H) :
    ReturnsInHanded {} Tryd.checked os 3 .any (fun w args => (Rows.spillNamesSpec.pre enc Tryd.prog Tryd.f3 Rows.spillNamesRow.domain false w args ∧ laidMetH Tryd.prog [("math/bits.deBruijn32tab", Rows.laid_math_bits_deBruijn32tab), ("math/bits.deBruijn64tab", Rows.laid_math_bits_deBruijn64tab), ("internal/strconv.uint64pow10", Rows.laid_internal_strconv_uint64pow10)] w) ∧ sizedMet enc Tryd.prog Tryd.f3 (OpenSpec.ofChange Rows.spillNamesSpec) false w args) (Rows.spillNamesSpec.post enc Tryd.prog Tryd.f3 false true false false) := by
  refine returnsInHanded_of_change_and (C := Tryd.checked) (X := fun w _ => laidMetH Tryd.prog [("math/bits.deBruijn32tab", Rows.laid_math_bits_deBruijn32tab), ("math/bits.deBruijn64tab", Rows.laid_math_bits_deBruijn64tab), ("internal/strconv.uint64pow10", Rows.laid_internal_strconv_uint64pow10)] w) (fun _ _ _ hh h => h.of_heap hh) own started (by kernel_rfl) Tryd.func3
    (ChangeSpec.witness_shaped (enc := enc) (C := Tryd.checked) (os := os) (X := fun w _ => laidMetH Tryd.prog [("math/bits.deBruijn32tab", Rows.laid_math_bits_deBruijn32tab), ("math/bits.deBruijn64tab", Rows.laid_math_bits_deBruijn64tab), ("internal/strconv.uint64pow10", Rows.laid_internal_strconv_uint64pow10)] w) false (World.laidAll Tryd.prog os [("math/bits.deBruijn32tab", Rows.laid_math_bits_deBruijn32tab), ("math/bits.deBruijn64tab", Rows.laid_math_bits_deBruijn64tab), ("internal/strconv.uint64pow10", Rows.laid_internal_strconv_uint64pow10)]) #[.int .i64 0, .int .i64 0, .int .i64 0, .slice none 0 0] 8 (World.laidAll_os _ _ _) (World.shaped_of_ZipB (by kernel_rfl) (by kernel_rfl)) (by kernel_rfl) (by kernel_rfl) (by kernel_rfl) (by rw [MakeChecks.laidMetH_plain _ _ _ (by kernel_rfl)]; exact laidMet_laidAll _ (by kernel_rfl) (by kernel_rfl))) ?_
  intro W base args ds gs before hval0 hW hcnd hsz0 hL _
  have hval : ∀ (j : Nat) t v, Tryd.f3.params[j]? = some t → args[j]? = some v → Value.okWide Tryd.prog W .any base t v := hval0
  have hW' := hW
  obtain ⟨p, q, hA0, hV, rfl, hfz, hnd⟩ := hW
  have hA : DataW.TrodAll enc Tryd.prog W 0 (fun _ => true) true Tryd.f3.params.toList args.toList ds p := hA0
  rw [Tryd.params3] at hA hval
  obtain ⟨tabT, tabO, htab⟩ := tab_of hL
  have tlt : 0 < W.heap.size := by
    rcases Nat.lt_or_ge 0 W.heap.size with h | h
    · exact h
    · rw [Array.getElem?_eq_none (by omega)] at htab; cases htab
  obtain ⟨v0, vs0, d0, ds0, p0, q0, hargs, rfl, rfl, h0, r0⟩ := trodAll_cons hA
  obtain ⟨v1, vs1, d1, ds1, p1, q1, rfl, rfl, rfl, h1, r1⟩ := trodAll_cons r0
  obtain ⟨v2, vs2, d2, ds2, p2, q2, rfl, rfl, rfl, h2, r2⟩ := trodAll_cons r1
  obtain ⟨v3, vs3, d3, ds3, p3, q3, rfl, rfl, rfl, h3, r3⟩ := trodAll_cons r2
  obtain ⟨rfl, rfl, rfl⟩ := trodAll_nil r3
  obtain rfl : args = #[v0, v1, v2, v3] := by cases args; simp_all
  obtain ⟨rfl, rfl⟩ := trodVars_none hV
  obtain ⟨a0, rfl, rfl, rfl, w0⟩ := open_int Tryd.underlying3 (hval 0 3 v0 rfl rfl) h0
  have R0 : RepV W (fun _ => False) [] (.tin 0 Lib.pow10Tab a0) (.int .i64 a0) := .tin (by simpa [Lit.wf, IntKind.has] using w0) htab (fun h => h) tlt
  obtain ⟨a1, rfl, rfl, rfl, w1⟩ := open_int Tryd.underlying3 (hval 1 3 v1 rfl rfl) h1
  have R1 : RepV W (fun _ => False) [] (.tin 0 Lib.pow10Tab a1) (.int .i64 a1) := .tin (by simpa [Lit.wf, IntKind.has] using w1) htab (fun h => h) tlt
  obtain ⟨a2, rfl, rfl, rfl, w2⟩ := open_int Tryd.underlying3 (hval 2 3 v2 rfl rfl) h2
  have R2 : RepV W (fun _ => False) [] (.tin 0 Lib.pow10Tab a2) (.int .i64 a2) := .tin (by simpa [Lit.wf, IntKind.has] using w2) htab (fun h => h) tlt
  have k3 := h3
  have lt3 : ∀ x ∈ p3, x.block < W.heap.size := by obtain ⟨m, hm⟩ := k3; exact DataW.trod_lt m _ _ _ hm
  have z3 : Sized Tryd.prog 22 d3 := fun n hn => by simpa using List.all_eq_true.1 hsz0 _ (DataW.weights_mem_each (j := 3) (t := 22) (by kernel_rfl) rfl n hn)
  obtain ⟨V3, R3, f3⟩ := open_arg (sh := (.slice (.struct [.str, (.slice (.struct [(.struct [(.int .u8), (.int .i64), .str]), (.int .i64)])), (.slice (.int .i64))]))) (.slice Tryd.underlying22 (by kernel_rfl) (by decide) (.struct Tryd.underlying30 (by kernel_rfl) (.cons rfl (by kernel_rfl) (.str Tryd.underlying9) (.cons rfl (by kernel_rfl) (.slice Tryd.underlying27 (by kernel_rfl) (by decide) (.struct Tryd.underlying70 (by kernel_rfl) (.cons rfl (by kernel_rfl) (.struct Tryd.underlying68 (by kernel_rfl) (.cons rfl (by kernel_rfl) (.int Tryd.underlying5) (.cons rfl (by kernel_rfl) (.int Tryd.underlying3) (.cons rfl (by kernel_rfl) (.str Tryd.underlying9) .nil)))) (.cons rfl (by kernel_rfl) (.int Tryd.underlying3) .nil)))) (.cons rfl (by kernel_rfl) (.slice Tryd.underlying28 (by kernel_rfl) (by decide) (.int Tryd.underlying3)) .nil))))) (hval 3 22 v3 rfl rfl) h3 z3 (fun _ _ h => by cases h)
  obtain ⟨l3, rfl, b3⟩ := fits_items f3
  clear hA0 hval0 hsz0
  have hreal : RepL W (fun _ => False) [] _ _ := (.cons R0 (.cons R1 (.cons R2 (.cons R3 .nil))))
  refine (law_calls (c3 rounds) tt3_ok (.cons ok10 (.cons ok11 (.cons ok12 (.cons ok13 (.cons ok14 .nil))))) follows rfl Tryd.func3 (law3 a0 a1 a2 l3 b3 ⟨_, _, _, hreal⟩) hreal).mono fun e W' ⟨he, bel⟩ => ?_
  subst he
  exact ⟨_, rfl, _, _, _, [], _, [], hW', trodAll_mk1 (shut_bool Tryd.underlying4 _), (trodAll_cons_mk (shut_int Tryd.underlying3 w0) (trodAll_cons_mk (shut_int Tryd.underlying3 w1) (trodAll_cons_mk (shut_int Tryd.underlying3 w2) (trodAll_cons_mk (Below.trod laidOut (by kernel_rfl) (of_decide_eq_true (by kernel_rfl)) k3 bel lt3) trodAll_mk0)))), rfl, bel.frame _, fun h => by cases h⟩
theorem over : Rows.spillNamesRow.holds Tryd.pinned (OpenSpec.ofChange Rows.spillNamesSpec) :=
  OpenClaim.holds_of_wide 3 Tryd.f3 rfl rfl rfl rfl rfl rfl rfl ⟨rfl, rfl, rfl, rfl, rfl⟩ rfl rfl rfl rfl rfl (by kernel_rfl) Tryd.func3 (by kernel_rfl)
    (of_decide_eq_true (by kernel_rfl)) (by unfold Func.isWrapper; first | (rw [if_pos (by decide +kernel)]; kernel_rfl) | (rw [if_neg (by decide +kernel)]; exact ⟨rfl, rfl⟩))
    (fun os started H enc _ => lifted os started H enc)
theorem proved : Rows.SpillNamesCardSaid :=
  Claim7.holds_tied_plain_at .later [] [.data, .data, .data] true (true, "a2aa33d8e462a58444d33b1d42a8a38fe262aaf30f35343cfea9eb4abd440ffe") true
    over (fun _ h => by cases h) (by kernel_rfl) (fun _ h => by cases h) spillNames_row_tie rfl ⟨rfl, rfl⟩ (by kernel_rfl) rfl
    (fun f fn hf hfn => by
      obtain rfl : f = 3 := Option.some.inj ((show Tryd.prog.funcNamed Rows.spillNamesRow.func = some 3 by kernel_rfl).symm.trans hf) |>.symm
      obtain rfl : fn = Tryd.f3 := (Option.some.inj (Tryd.func3.symm.trans hfn)).symm
      exact ⟨by kernel_rfl, fun j t ht => by
        rw [Tryd.params3] at ht
        have h := List.all_eq_true.1 (show (([3, 3, 3, 22] : List TypeId).all fun t => !Tryd.pinned.checked.prog.wantsStandIn t) = true by kernel_rfl) t (by simpa using Array.mem_of_getElem? ht)
        simpa using h⟩)
    (by kernel_rfl)
end Go.Proofs.YtjdojmjkldpgnaaDoor.spillNames
namespace Go.Proofs.YtjdojmjkldpgnaaDoor
/-- The tied card, under a short name, for the claim. -/
theorem spillNamesCard_holds : Rows.SpillNamesCardSaid := spillNames.proved
#print axioms spillNamesCard_holds
end Go.Proofs.YtjdojmjkldpgnaaDoor
