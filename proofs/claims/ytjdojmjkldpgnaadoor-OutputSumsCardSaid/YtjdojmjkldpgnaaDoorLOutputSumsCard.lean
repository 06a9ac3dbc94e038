/- OutputSumsCard: for every input the law returns true, and the input reads as it did; no condition beyond the card (the tables of the library that it lists read as the program lays them). -/
import Derived.Test.YtjdojmjkldpgnaaDoorRows
import Derived.WalkKit
import Derived.ProofKit
import Derived.OpenShut
import Derived.ShutString
import Derived.ChangeOld
import Derived.Below
import Derived.SizedLaws
import Derived.Carry
import Derived.Handed
import Derived.LaidMore
import Derived.Lay
import Derived.SevenTiedAt
import Derived.Stop.Joined
import Derived.Lib.LaidTab
import Derived.Test.YtjdojmjkldpgnaaDoorOu
import Derived.Test.YtjdojmjkldpgnaaDoorCards
import Derived.Test.YtjdojmjkldpgnaaDoorTie
namespace Go.Proofs.YtjdojmjkldpgnaaDoorG
open Go Go.Proofs.YtjdojmjkldpgnaaDoorGm
set_option maxRecDepth 100000
def tt4 : Tab := [(0, ty0), (3, ty3), (4, ty4), (5, ty5), (9, ty9), (33, ty33), (34, ty34), (35, ty35), (36, ty36), (38, ty38)]
theorem tt4_ok : TabOk Tryd.prog tt4 := tabOk_of_all ⟨ty0_ok, ty3_ok, ty4_ok, ty5_ok, ty9_ok, ty33_ok, ty34_ok, ty35_ok, ty36_ok, ty38_ok, trivial⟩
def c4 (F : Nat) : Cfg := ⟨tt4, [(15, .pure go15), (16, .pure go16), (17, .pure go17), (18, .pure go18), (19, .pure go19)], F, [], [], 0⟩
theorem f4_eq (F : Nat) (a : List UInt8) (b : List UInt8) (n : Int) : afun (c4 F) Tryd.f4 [AV.ro (Pay.bytes a), AV.ro (Pay.bytes b), AV.tin 0 Lib.pow10Tab n] [] =
  bif ltI 300 ↑a.length then
    .ret (AV.bool true) []
  else
    bif ltI 300 ↑b.length then
      .ret (AV.bool true) []
    else
      bif a.length.ble 1099511627776 && b.length.ble 1099511627776 then
        bif a.length.ble 1099511627776 then
          bif eqAs (List.take 32 (List.drop (0 + 0 * 32) (setRange (List.replicate 64 (AV.int IntKind.u8 0)) 0 (cells32 (shaF a) ++ cells32 (shaF b))))) (cells32 (shaF a)) then
            bif b.length.ble 1099511627776 then
              bif eqAs (List.take 32 (List.drop (0 + 1 * 32) (setRange (List.replicate 64 (AV.int IntKind.u8 0)) 0 (cells32 (shaF a) ++ cells32 (shaF b))))) (cells32 (shaF b)) then
                bif eqS (oT n) (oT n) then
                  bif eqS (xT n) (xT n) then
                    .ret (AV.bool true) [AObj.var 36 (cells32 (shaF a) ++ cells32 (shaF b))]
                  else
                    .ret (AV.bool false) [AObj.var 36 (cells32 (shaF a) ++ cells32 (shaF b))]
                else
                  .ret (AV.bool false) [AObj.var 36 (cells32 (shaF a) ++ cells32 (shaF b))]
              else
                .ret (AV.bool false) [AObj.var 36 (cells32 (shaF a) ++ cells32 (shaF b))]
            else
              .stuck
          else
            .ret (AV.bool false) [AObj.var 36 (cells32 (shaF a) ++ cells32 (shaF b))]
        else
          .stuck
      else
        .stuck := by kernel_rfl


theorem yes_pos {c : Bool} {x y : Res} (h : c = true) (hx : Yes x) : Yes (bif c then x else y) := by rw [h]; exact hx
theorem yes_neg {c : Bool} {x y : Res} (h : c = false) (hy : Yes y) : Yes (bif c then x else y) := by rw [h]; exact hy
theorem yes_bif {c : Bool} {x y : Res} (h1 : c = true → Yes x) (h2 : c = false → Yes y) : Yes (bif c then x else y) := by
  cases c with
  | true => exact h1 rfl
  | false => exact h2 rfl

theorem eqAs_self (l : List Int) : eqAs (intsA .u8 l) (intsA .u8 l) = true := (eqAs_iff (intsA_is .u8 l) (intsA_is .u8 l) rfl).2 rfl
theorem eqAs_cells (f : Nat → Int) : eqAs (cells32 f) (cells32 f) = true := by rw [cells32_eq]; exact eqAs_self _
theorem half0 (f g : Nat → Int) : List.take 32 (List.drop (0 + 0 * 32) (setRange (List.replicate 64 (AV.int IntKind.u8 0)) 0 (cells32 f ++ cells32 g))) = cells32 f := by kernel_rfl
theorem half1 (f g : Nat → Int) : List.take 32 (List.drop (0 + 1 * 32) (setRange (List.replicate 64 (AV.int IntKind.u8 0)) 0 (cells32 f ++ cells32 g))) = cells32 g := by kernel_rfl
theorem law4 (a b : List UInt8) (n : Int) (hr : Real [.ro (.bytes a), .ro (.bytes b), .tin 0 Lib.pow10Tab n]) :
    apure (c4 rounds) Tryd.f4 [.ro (.bytes a), .ro (.bytes b), .tin 0 Lib.pow10Tab n] = some (.bool true, []) := by
  refine apure_yes ?_
  rw [f4_eq]
  refine yes_bif (fun _ => .ret) fun ha => yes_bif (fun _ => .ret) fun hb => ?_
  have ha : ¬ (300 : Int) < a.length := by rw [← ltI_iff, ha]; simp
  have hb : ¬ (300 : Int) < b.length := by rw [← ltI_iff, hb]; simp
  have h1 : a.length.ble 1099511627776 = true := ble_iff.2 (by omega)
  have h2 : b.length.ble 1099511627776 = true := ble_iff.2 (by omega)
  rw [h1, h2, half0, half1]
  exact yes_pos rfl (yes_pos rfl (yes_pos (eqAs_cells _) (yes_pos rfl (yes_pos (eqAs_cells _) (yes_pos (eqS_iff.2 rfl) (yes_pos (eqS_iff.2 rfl) .ret))))))
end Go.Proofs.YtjdojmjkldpgnaaDoorG

namespace Go.Proofs.YtjdojmjkldpgnaaDoor.outputSums
open Go.ChangeShapes Go.WideShapes Go.ChangeAt Go.RowKit Go.Proofs.YtjdojmjkldpgnaaDoorGm Go.Proofs.YtjdojmjkldpgnaaDoorG
open Go.ChangeMaps (open_string shut_string)
set_option linter.unusedVariables false
theorem own : ownKnob Tryd.prog.godebug = none := by kernel_rfl
theorem laidOut : laidOutB Tryd.prog = true := by kernel_rfl
theorem tab_of {W : World} (h : laidMetH Tryd.prog [("math/bits.deBruijn32tab", Rows.laid_math_bits_deBruijn32tab), ("math/bits.deBruijn64tab", Rows.laid_math_bits_deBruijn64tab), ("internal/strconv.uint64pow10", Rows.laid_internal_strconv_uint64pow10)] W) : ∃ (T : Nat) (oo : Nat × Nat), W.heap[0]? = some (.cells (Lib.pow10Tab.map (Value.int .u64)).toArray T oo) := by
  rw [MakeChecks.laidMetH_plain _ _ _ (by kernel_rfl)] at h
  obtain ⟨ps, ⟨_, _, _, _, _, _, _, _, _, _, ⟨_, _, _, _, _, _, _, _, _, _, ⟨g, t, cs, fuel, p, q, hg, ht, hv, hd, _, _⟩, _⟩, _⟩, _⟩ := h
  have hg0 : Tryd.prog.globalNamed "internal/strconv.uint64pow10" = some 0 := by kernel_rfl
  obtain rfl := Option.some.inj (hg0.symm.trans hg)
  obtain rfl := Option.some.inj ((show (Tryd.prog.globals[0]?).map (·.type) = some 220 by kernel_rfl).symm.trans ht)
  have ez : (Rows.laid_internal_strconv_uint64pow10 : DataW Unit) = Lib.tabData .u64 Lib.pow10Tab := by kernel_rfl
  rw [ez] at hd
  have ec := Lib.cells_of_tab Tryd.underlying220 Tryd.underlying73 (by kernel_rfl) (by kernel_rfl) hd
  unfold World.var? at hv
  rw [hg0] at hv
  simp only [Option.bind_some] at hv
  split at hv
  · rename_i cs' T oo hc
    cases hv
    refine ⟨T, oo, ?_⟩
    rw [hc, ← ec]
  · cases hv
set_option maxRecDepth 100000 in
theorem lifted (os : Os) (started : os.Started) (H : Type) (enc : TypeId × Value → H) :
    ReturnsInHanded {} Tryd.checked os 4 .any (fun w args => (Rows.outputSumsSpec.pre enc Tryd.prog Tryd.f4 Rows.outputSumsRow.domain false w args ∧ laidMetH Tryd.prog [("math/bits.deBruijn32tab", Rows.laid_math_bits_deBruijn32tab), ("math/bits.deBruijn64tab", Rows.laid_math_bits_deBruijn64tab), ("internal/strconv.uint64pow10", Rows.laid_internal_strconv_uint64pow10)] w) ∧ sizedMet enc Tryd.prog Tryd.f4 (OpenSpec.ofChange Rows.outputSumsSpec) false w args) (Rows.outputSumsSpec.post enc Tryd.prog Tryd.f4 false true false false) := by
  refine returnsInHanded_of_change_and (C := Tryd.checked) (X := fun w _ => laidMetH Tryd.prog [("math/bits.deBruijn32tab", Rows.laid_math_bits_deBruijn32tab), ("math/bits.deBruijn64tab", Rows.laid_math_bits_deBruijn64tab), ("internal/strconv.uint64pow10", Rows.laid_internal_strconv_uint64pow10)] w) (fun _ _ _ hh h => h.of_heap hh) own started (by kernel_rfl) Tryd.func4
    (ChangeSpec.witness_shaped (enc := enc) (C := Tryd.checked) (os := os) (X := fun w _ => laidMetH Tryd.prog [("math/bits.deBruijn32tab", Rows.laid_math_bits_deBruijn32tab), ("math/bits.deBruijn64tab", Rows.laid_math_bits_deBruijn64tab), ("internal/strconv.uint64pow10", Rows.laid_internal_strconv_uint64pow10)] w) false (World.laidAll Tryd.prog os [("math/bits.deBruijn32tab", Rows.laid_math_bits_deBruijn32tab), ("math/bits.deBruijn64tab", Rows.laid_math_bits_deBruijn64tab), ("internal/strconv.uint64pow10", Rows.laid_internal_strconv_uint64pow10)]) #[.slice none 0 0, .slice none 0 0, .int .i64 0] 8 (World.laidAll_os _ _ _) (World.shaped_of_ZipB (by kernel_rfl) (by kernel_rfl)) (by kernel_rfl) (by kernel_rfl) (by kernel_rfl) (by rw [MakeChecks.laidMetH_plain _ _ _ (by kernel_rfl)]; exact laidMet_laidAll _ (by kernel_rfl) (by kernel_rfl))) ?_
  intro W base args ds gs before hval0 hW hcnd hsz0 hL _
  have hval : ∀ (j : Nat) t v, Tryd.f4.params[j]? = some t → args[j]? = some v → Value.okWide Tryd.prog W .any base t v := hval0
  have hW' := hW
  obtain ⟨p, q, hA0, hV, rfl, hfz, hnd⟩ := hW
  have hA : DataW.TrodAll enc Tryd.prog W 0 (fun _ => true) true Tryd.f4.params.toList args.toList ds p := hA0
  rw [Tryd.params4] at hA hval
  obtain ⟨tabT, tabO, htab⟩ := tab_of hL
  have tlt : 0 < W.heap.size := by
    rcases Nat.lt_or_ge 0 W.heap.size with h | h
    · exact h
    · rw [Array.getElem?_eq_none (by omega)] at htab; cases htab
  obtain ⟨v0, vs0, d0, ds0, p0, q0, hargs, rfl, rfl, h0, r0⟩ := trodAll_cons hA
  obtain ⟨v1, vs1, d1, ds1, p1, q1, rfl, rfl, rfl, h1, r1⟩ := trodAll_cons r0
  obtain ⟨v2, vs2, d2, ds2, p2, q2, rfl, rfl, rfl, h2, r2⟩ := trodAll_cons r1
  obtain ⟨rfl, rfl, rfl⟩ := trodAll_nil r2
  obtain rfl : args = #[v0, v1, v2] := by cases args; simp_all
  obtain ⟨rfl, rfl⟩ := trodVars_none hV
  obtain ⟨a0, len0, cap0, rfl⟩ := okWide_slice Tryd.underlying33 (hval 0 33 v0 rfl rfl)
  have k0 := h0
  have lt0 : ∀ x ∈ p0, x.block < W.heap.size := by obtain ⟨m, hm⟩ := k0; exact DataW.trod_lt m _ _ _ hm
  obtain ⟨y0, w0⟩ : ∃ zs, IsRow .u8 W a0 len0 cap0 zs := by
    obtain ⟨fuel, hf⟩ := h0
    rcases open_ints Tryd.underlying33 Tryd.underlying5 (by kernel_rfl) hf with ⟨hcs, _⟩ | ⟨x, l, c, zs, hcs, _, hl, hm, hz, _, hcell, hwz⟩
    · simp [Value.cells] at hcs
      obtain ⟨rfl, rfl, rfl⟩ := hcs
      exact ⟨[], .inl ⟨rfl, rfl, rfl, rfl⟩⟩
    · simp [Value.cells] at hcs
      obtain ⟨rfl, rfl, rfl⟩ := hcs
      exact ⟨zs, .inr ⟨_, rfl, hl, hm, by simpa using hz, hcell, hwz⟩⟩
  obtain ⟨l0, e0, R0⟩ := row_bytes w0
  obtain ⟨a1, len1, cap1, rfl⟩ := okWide_slice Tryd.underlying33 (hval 1 33 v1 rfl rfl)
  have k1 := h1
  have lt1 : ∀ x ∈ p1, x.block < W.heap.size := by obtain ⟨m, hm⟩ := k1; exact DataW.trod_lt m _ _ _ hm
  obtain ⟨y1, w1⟩ : ∃ zs, IsRow .u8 W a1 len1 cap1 zs := by
    obtain ⟨fuel, hf⟩ := h1
    rcases open_ints Tryd.underlying33 Tryd.underlying5 (by kernel_rfl) hf with ⟨hcs, _⟩ | ⟨x, l, c, zs, hcs, _, hl, hm, hz, _, hcell, hwz⟩
    · simp [Value.cells] at hcs
      obtain ⟨rfl, rfl, rfl⟩ := hcs
      exact ⟨[], .inl ⟨rfl, rfl, rfl, rfl⟩⟩
    · simp [Value.cells] at hcs
      obtain ⟨rfl, rfl, rfl⟩ := hcs
      exact ⟨zs, .inr ⟨_, rfl, hl, hm, by simpa using hz, hcell, hwz⟩⟩
  obtain ⟨l1, e1, R1⟩ := row_bytes w1
  obtain ⟨a2, rfl, rfl, rfl, w2⟩ := open_int Tryd.underlying3 (hval 2 3 v2 rfl rfl) h2
  have R2 : RepV W (fun _ => False) [] (.tin 0 Lib.pow10Tab a2) (.int .i64 a2) := .tin (by simpa [Lit.wf, IntKind.has] using w2) htab (fun h => h) tlt
  clear hA0 hval0 hsz0
  have hreal : RepL W (fun _ => False) [] _ _ := (.cons R0 (.cons R1 (.cons R2 .nil)))
  refine (law_calls (c4 rounds) tt4_ok (.cons ok15 (.cons ok16 (.cons ok17 (.cons ok18 (.cons ok19 .nil))))) follows rfl Tryd.func4 (law4 l0 l1 a2 ⟨_, _, _, hreal⟩) hreal).mono fun e W' ⟨he, bel⟩ => ?_
  subst he
  exact ⟨_, rfl, _, _, _, [], _, [], hW', trodAll_mk1 (shut_bool Tryd.underlying4 _), (trodAll_cons_mk (Below.trod laidOut (by kernel_rfl) (of_decide_eq_true (by kernel_rfl)) k0 bel lt0) (trodAll_cons_mk (Below.trod laidOut (by kernel_rfl) (of_decide_eq_true (by kernel_rfl)) k1 bel lt1) (trodAll_cons_mk (shut_int Tryd.underlying3 w2) trodAll_mk0))), rfl, bel.frame _, fun h => by cases h⟩
theorem over : Rows.outputSumsRow.holds Tryd.pinned (OpenSpec.ofChange Rows.outputSumsSpec) :=
  OpenClaim.holds_of_wide 4 Tryd.f4 rfl rfl rfl rfl rfl rfl rfl ⟨rfl, rfl, rfl, rfl, rfl⟩ rfl rfl rfl rfl rfl (by kernel_rfl) Tryd.func4 (by kernel_rfl)
    (of_decide_eq_true (by kernel_rfl)) (by unfold Func.isWrapper; first | (rw [if_pos (by decide +kernel)]; kernel_rfl) | (rw [if_neg (by decide +kernel)]; exact ⟨rfl, rfl⟩))
    (fun os started H enc _ => lifted os started H enc)
theorem proved : Rows.OutputSumsCardSaid :=
  Claim7.holds_tied_plain_at .later [] [.data, .data, .data] true (true, "a2aa33d8e462a58444d33b1d42a8a38fe262aaf30f35343cfea9eb4abd440ffe") true
    over (fun _ h => by cases h) (by kernel_rfl) (fun _ h => by cases h) outputSums_row_tie rfl ⟨rfl, rfl⟩ (by kernel_rfl) rfl
    (fun f fn hf hfn => by
      obtain rfl : f = 4 := Option.some.inj ((show Tryd.prog.funcNamed Rows.outputSumsRow.func = some 4 by kernel_rfl).symm.trans hf) |>.symm
      obtain rfl : fn = Tryd.f4 := (Option.some.inj (Tryd.func4.symm.trans hfn)).symm
      exact ⟨by kernel_rfl, fun j t ht => by
        rw [Tryd.params4] at ht
        have h := List.all_eq_true.1 (show (([33, 33, 3] : List TypeId).all fun t => !Tryd.pinned.checked.prog.wantsStandIn t) = true by kernel_rfl) t (by simpa using Array.mem_of_getElem? ht)
        simpa using h⟩)
    (by kernel_rfl)
end Go.Proofs.YtjdojmjkldpgnaaDoor.outputSums
namespace Go.Proofs.YtjdojmjkldpgnaaDoor
/-- The tied card, under a short name, for the claim. -/
theorem outputSumsCard_holds : Rows.OutputSumsCardSaid := outputSums.proved
#print axioms outputSumsCard_holds
end Go.Proofs.YtjdojmjkldpgnaaDoor
