/- A part of the proof: plain laws, and what functions of the given program come to; no condition. -/
import Derived.Test.YtmkgmlgklggnlaaGt
import Derived.Test.YtmkgmlgklggnlaaGm4
namespace Go.Proofs.YtmkgmlgklggnlaaG
open Go Go.Proofs.YtmkgmlgklggnlaaGm
set_option maxRecDepth 100000
set_option maxHeartbeats 0

def go43 (R : Type) (stk : R) (args : List AV) (ret : AV → List AObj → R) : R :=
  match args with
  | [.ro (.bytes b)] => bif Nat.ble b.length 17592186044416 then ret (.tup [.ro (.rows 1 ((allF b (b.length + 1) 0).1.map byteRow)), .int .i64 (allF b (b.length + 1) 0).2.1, .int .i64 (allF b (b.length + 1) 0).2.2]) [] else stk
  | _ => stk

def go80 (R : Type) (stk : R) (args : List AV) (hp : List AObj) (ret : AV → List AObj → R) : R :=
  match args, hp with
  | [.ro (.bytes b), .ptr 0 0], [.var 27 [.int .i64 e]] => ret (.fn 97 [.ptr 1 0, .ptr 2 0]) [.var 27 [.int .i64 e], .var 22 [.ro (.bytes b)], .var 123 [.ptr 0 0]]
  | _, _ => stk

def tt80 : Tab := [(0, ty0), (5, ty5), (22, ty22), (27, ty27), (120, ty120), (121, ty121), (123, ty123)]
theorem tt80_ok : TabOk Try.prog tt80 := tabOk_of_all ⟨ty0_ok, ty5_ok, ty22_ok, ty27_ok, ty120_ok, ty121_ok, ty123_ok, trivial⟩
def c80 (F : Nat) : Cfg := ⟨tt80, [], F, [], [], 1⟩
theorem f80_eq (F : Nat) (b : List UInt8) (e : Int) : afun (c80 F) Try.f80 [AV.ro (Pay.bytes b), AV.ptr 0 0] [AObj.var 27 [AV.int IntKind.i64 e]] =
  .ret (AV.fn 97 [AV.ptr 1 0, AV.ptr 2 0]) [AObj.var 27 [AV.int IntKind.i64 e], AObj.var 22 [AV.ro (Pay.bytes b)], AObj.var 123 [AV.ptr 0 0]] := by kernel_rfl


def tt43 : Tab := [(0, ty0), (1, ty1), (3, ty3), (4, ty4), (5, ty5), (22, ty22), (27, ty27), (64, ty64), (68, ty68), (82, ty82), (121, ty121), (123, ty123)]
theorem tt43_ok : TabOk Try.prog tt43 := tabOk_of_all ⟨ty0_ok, ty1_ok, ty3_ok, ty4_ok, ty5_ok, ty22_ok, ty27_ok, ty64_ok, ty68_ok, ty82_ok, ty121_ok, ty123_ok, trivial⟩
def c43 (F : Nat) : Cfg := ⟨tt43, [(80, .eff go80), (41, .pure go41)], F, [], [], 0⟩
noncomputable def y43 : Itr := ⟨97, Try.f97, [(0, ⟨[0, 1, 2, 4], []⟩)], [], [], []⟩

noncomputable def f43_y0 (F k : Nat) (a0 : List UInt8) (x4 : Int) (xh1 : Int) (xh2 : Int) (xh3 : List UInt8) : Res := gloop (c43 F) y43 Try.f43 (St.mk [AV.ro (Pay.bytes a0), AV.tup [], AV.ptr 0 0, AV.ptr 1 0, AV.ptr 2 0, AV.tup [], AV.tup [], AV.ro (Pay.bytes a0), AV.fn 97 [AV.ptr 3 0, AV.ptr 4 0], AV.tup [], AV.tup [], AV.tup [], AV.tup [], AV.tup [], AV.tup [], AV.tup [], AV.tup [], AV.tup [], AV.tup []] [AObj.var 68 [AV.nil], AObj.var 3 [AV.int IntKind.i64 0], AObj.var 27 [AV.int IntKind.i64 0], AObj.var 22 [AV.ro (Pay.bytes a0)], AObj.var 123 [AV.ptr 2 0]]) 0 k (St.mk [AV.top, AV.ptr 3 0, AV.ptr 4 0, AV.top, AV.int IntKind.i64 x4, AV.top, AV.top, AV.top, AV.top, AV.top, AV.top, AV.top, AV.top, AV.top, AV.top, AV.top, AV.top, AV.top, AV.top, AV.top, AV.top, AV.top, AV.top, AV.top, AV.top, AV.top, AV.top, AV.top, AV.top, AV.top] [AObj.var 68 [AV.nil], AObj.var 3 [AV.int IntKind.i64 xh1], AObj.var 27 [AV.int IntKind.i64 xh2], AObj.var 22 [AV.ro (Pay.bytes xh3)], AObj.var 123 [AV.ptr 2 0]])
noncomputable def f43_y0_1 (F k : Nat) (a0 : List UInt8) (x4 : Int) (xh1 : Int) (xh2 : Int) (xh3 : List UInt8) (xh5 : List (List AV)) : Res := gloop (c43 F) y43 Try.f43 (St.mk [AV.ro (Pay.bytes a0), AV.tup [], AV.ptr 0 0, AV.ptr 1 0, AV.ptr 2 0, AV.tup [], AV.tup [], AV.ro (Pay.bytes a0), AV.fn 97 [AV.ptr 3 0, AV.ptr 4 0], AV.tup [], AV.tup [], AV.tup [], AV.tup [], AV.tup [], AV.tup [], AV.tup [], AV.tup [], AV.tup [], AV.tup []] [AObj.var 68 [AV.nil], AObj.var 3 [AV.int IntKind.i64 0], AObj.var 27 [AV.int IntKind.i64 0], AObj.var 22 [AV.ro (Pay.bytes a0)], AObj.var 123 [AV.ptr 2 0]]) 0 k (St.mk [AV.top, AV.ptr 3 0, AV.ptr 4 0, AV.top, AV.int IntKind.i64 x4, AV.top, AV.top, AV.top, AV.top, AV.top, AV.top, AV.top, AV.top, AV.top, AV.top, AV.top, AV.top, AV.top, AV.top, AV.top, AV.top, AV.top, AV.top, AV.top, AV.top, AV.top, AV.top, AV.top, AV.top, AV.top] [AObj.var 68 [AV.own 5], AObj.var 3 [AV.int IntKind.i64 xh1], AObj.var 27 [AV.int IntKind.i64 xh2], AObj.var 22 [AV.ro (Pay.bytes xh3)], AObj.var 123 [AV.ptr 2 0], AObj.arr 22 (Pay.rows 1 xh5)])
theorem f43_eq (F : Nat) (a0 : List UInt8) : gfun (c43 F) y43 Try.f43 [AV.ro (Pay.bytes a0)] [] =
  f43_y0 F F a0 0 0 0 a0 := by kernel_rfl
theorem f43_y0_eq (F k : Nat) (a0 : List UInt8) (x4 : Int) (xh1 : Int) (xh2 : Int) (xh3 : List UInt8) : f43_y0 F (k + 1) a0 x4 xh1 xh2 xh3 =
  bif ltI x4 ↑xh3.length then
    bif xh3.length.ble 140737488355320 then
      bif !eqI (getF xh3 x4).snd.snd 0 then
        .ret (AV.tup [AV.nil, AV.int IntKind.i64 xh1, AV.int IntKind.i64 (intOf (AV.int IntKind.i64 (intOf (AV.int IntKind.i64 (getF xh3 x4).snd.snd))))]) [AObj.var 68 [AV.nil], AObj.var 3 [AV.int IntKind.i64 xh1], AObj.var 27 [AV.int IntKind.i64 (intOf (AV.int IntKind.i64 (getF xh3 x4).snd.snd))], AObj.var 22 [AV.ro (Pay.bytes xh3)], AObj.var 123 [AV.ptr 2 0]]
      else
        f43_y0_1 F k a0 ((getF xh3 x4).snd.fst) ((getF xh3 x4).snd.fst) xh2 xh3 ([] ++ [[AV.ro (Pay.bytes (getF xh3 x4).fst)]])
    else
      .stuck
  else
    .ret (AV.tup [AV.nil, AV.int IntKind.i64 xh1, AV.int IntKind.i64 xh2]) [AObj.var 68 [AV.nil], AObj.var 3 [AV.int IntKind.i64 xh1], AObj.var 27 [AV.int IntKind.i64 xh2], AObj.var 22 [AV.ro (Pay.bytes xh3)], AObj.var 123 [AV.ptr 2 0]] := by kernel_rfl
theorem f43_y0_1_eq (F k : Nat) (a0 : List UInt8) (x4 : Int) (xh1 : Int) (xh2 : Int) (xh3 : List UInt8) (xh5 : List (List AV)) : f43_y0_1 F (k + 1) a0 x4 xh1 xh2 xh3 xh5 =
  bif ltI x4 ↑xh3.length then
    bif xh3.length.ble 140737488355320 then
      bif !eqI (getF xh3 x4).snd.snd 0 then
        .ret (AV.tup [AV.own 5, AV.int IntKind.i64 xh1, AV.int IntKind.i64 (intOf (AV.int IntKind.i64 (intOf (AV.int IntKind.i64 (getF xh3 x4).snd.snd))))]) [AObj.var 68 [AV.own 5], AObj.var 3 [AV.int IntKind.i64 xh1], AObj.var 27 [AV.int IntKind.i64 (intOf (AV.int IntKind.i64 (getF xh3 x4).snd.snd))], AObj.var 22 [AV.ro (Pay.bytes xh3)], AObj.var 123 [AV.ptr 2 0], AObj.arr 22 (Pay.rows 1 xh5)]
      else
        bif appFits ty22 (Pay.rows 1 (xh5 ++ [[AV.ro (Pay.bytes (getF xh3 x4).fst)]])) then
          f43_y0_1 F k a0 ((getF xh3 x4).snd.fst) ((getF xh3 x4).snd.fst) xh2 xh3 (xh5 ++ [[AV.ro (Pay.bytes (getF xh3 x4).fst)]])
        else
          .stuck
    else
      .stuck
  else
    .ret (AV.tup [AV.own 5, AV.int IntKind.i64 xh1, AV.int IntKind.i64 xh2]) [AObj.var 68 [AV.own 5], AObj.var 3 [AV.int IntKind.i64 xh1], AObj.var 27 [AV.int IntKind.i64 xh2], AObj.var 22 [AV.ro (Pay.bytes xh3)], AObj.var 123 [AV.ptr 2 0], AObj.arr 22 (Pay.rows 1 xh5)] := by kernel_rfl


def tt44 : Tab := [(0, ty0), (1, ty1), (3, ty3), (4, ty4), (5, ty5), (22, ty22), (66, ty66), (68, ty68)]
theorem tt44_ok : TabOk Try.prog tt44 := tabOk_of_all ⟨ty0_ok, ty1_ok, ty3_ok, ty4_ok, ty5_ok, ty22_ok, ty66_ok, ty68_ok, trivial⟩
def c44 (F : Nat) : Cfg := ⟨tt44, [(42, .pure go41)], F, [(0, ⟨[0, 5, 6], [(5, 22)]⟩)], [], 0⟩
noncomputable def f44_0 (F k : Nat) (x0 : List UInt8) (x6 : Int) (xh0 : List (List AV)) : Res := aloop (c44 F) Try.f44 0 [] k (St.mk [AV.ro (Pay.bytes x0), AV.top, AV.top, AV.top, AV.top, AV.own 0, AV.int IntKind.i64 x6, AV.top, AV.top, AV.top, AV.top, AV.top, AV.top, AV.top, AV.top, AV.top, AV.top, AV.top, AV.top, AV.top, AV.top, AV.top, AV.top, AV.top, AV.top, AV.top, AV.top, AV.top, AV.top, AV.top, AV.top, AV.top, AV.top] [AObj.arr 22 (Pay.rows 1 xh0)])
theorem f44_eq (F : Nat) (a0 : List UInt8) : afun (c44 F) Try.f44 [AV.ro (Pay.bytes a0)] [] =
  f44_0 F F a0 0 [] := by kernel_rfl
theorem f44_0_eq (F k : Nat) (x0 : List UInt8) (x6 : Int) (xh0 : List (List AV)) : f44_0 F (k + 1) x0 x6 xh0 =
  bif ltI x6 ↑x0.length then
    bif x0.length.ble 140737488355320 then
      bif !eqI (getF x0 x6).snd.snd 0 then
        .ret (AV.tup [AV.own 0, AV.int IntKind.i64 x6, AV.int IntKind.i64 (getF x0 x6).snd.snd]) [AObj.arr 22 (Pay.rows 1 xh0)]
      else
        bif appFits ty22 (Pay.rows 1 (xh0 ++ [[AV.ro (Pay.bytes (getF x0 x6).fst)]])) then
          f44_0 F k x0 ((getF x0 x6).snd.fst) (xh0 ++ [[AV.ro (Pay.bytes (getF x0 x6).fst)]])
        else
          .stuck
    else
      .stuck
  else
    .ret (AV.tup [AV.own 0, AV.int IntKind.i64 x6, AV.int IntKind.i64 0]) [AObj.arr 22 (Pay.rows 1 xh0)] := by kernel_rfl


theorem ok80 : EffOk Try.prog 80 go80 := by
  refine effOk_of follows Try.func80 (by kernel_rfl) (by kernel_rfl) ?_ ?_
  · intro R stk args hp k; unfold go80; split <;> rfl
  · intro args hp r hp' h hr
    unfold go80 at h
    split at h
    · cases h
      refine ⟨c80 rounds, tt80_ok, .nil, ?_⟩
      unfold aeff
      rw [f80_eq]
      rfl
    · cases h
theorem fits22 (l : List (List AV)) (h : l.length ≤ 4398046511104) : appFits ty22 (.rows 1 l) = true := by
  unfold appFits
  rw [ble_iff]
  show l.length * 24 ≤ _
  omega
theorem snocB (Z : List Txt) (x : Txt) : Z.map byteRow ++ [[AV.ro (.bytes x)]] = (Z ++ [x]).map byteRow := by rw [List.map_append]; rfl
theorem f43_run (F : Nat) (b a : Txt) (hb : b.length ≤ 17592186044416) : ∀ (d k : Nat) (i : Int) (Z : List Txt), 0 ≤ i → (b.length : Int) < i + d → d < k → (Z.length : Int) * 5 ≤ i → i ≤ b.length →
    outR (f43_y0_1 F k a i i 0 b (Z.map byteRow)) = some (.tup [.own 0, .int .i64 (allF b d i).2.1, .int .i64 (allF b d i).2.2], [.arr 22 (.rows 1 ((Z ++ (allF b d i).1).map byteRow))])
  | d, k + 1, i, Z, h0, h1, h2, h3, h4 => by
    rw [f43_y0_1_eq]
    obtain ⟨d, rfl⟩ : ∃ m, d = m + 1 := ⟨d - 1, by omega⟩
    rw [allF]
    by_cases hi : i < b.length
    · rw [bif_pos (by rw [ltI_iff]; omega), bif_pos (by rw [ble_iff]; omega), if_pos hi]
      by_cases he : (getF b i).2.2 = 0
      · obtain ⟨g1, g2, g3, g4⟩ := getF_ok he
        rw [show (!eqI (getF b i).2.2 0) = false by rw [Bool.not_eq_false', eqI_iff]; exact he, cond_false, if_neg (fun x => x he), bif_pos (fits22 _ (by rw [List.length_append, List.length_map, List.length_singleton]; omega)), snocB,
          f43_run F b a hb d k _ (Z ++ [(getF b i).1]) (by omega) (by omega) (by omega) (by rw [List.length_append, List.length_singleton]; omega) g3, List.append_assoc]
        rfl
      · rw [show (!eqI (getF b i).2.2 0) = true by rw [Bool.not_eq_true', Bool.eq_false_iff, Ne, eqI_iff]; exact he, cond_true, if_pos he, List.append_nil]
        rfl
    · rw [bif_neg (by rw [ltI_iff]; omega), if_neg hi, List.append_nil]; rfl
theorem f43_all (F k : Nat) (b : Txt) (hb : b.length ≤ 17592186044416) (hk : 9223372036854775807 < k) : ∃ x, outR (f43_y0 F k b 0 0 0 b) = some x ∧ Weak (c43 F).tt x (.tup [.ro (.rows 1 ((allF b (b.length + 1) 0).1.map byteRow)), .int .i64 (allF b (b.length + 1) 0).2.1, .int .i64 (allF b (b.length + 1) 0).2.2], []) := by
  obtain ⟨k, rfl⟩ : ∃ m, k = m + 1 := ⟨k - 1, by omega⟩
  rw [f43_y0_eq, allF]
  by_cases hi : (0 : Int) < b.length
  · rw [bif_pos (by rw [ltI_iff]; omega), bif_pos (by rw [ble_iff]; omega), if_pos hi]
    by_cases he : (getF b 0).2.2 = 0
    · obtain ⟨g1, g2, g3, g4⟩ := getF_ok he
      rw [show (!eqI (getF b 0).2.2 0) = false by rw [Bool.not_eq_false', eqI_iff]; exact he, cond_false, if_neg (fun x => x he)]
      have h := f43_run F b b hb b.length k (getF b 0).2.1 [(getF b 0).1] (by omega) (by omega) (by omega) (by rw [List.length_singleton]; omega) g3
      exact ⟨_, h, .lend⟩
    · rw [show (!eqI (getF b 0).2.2 0) = true by rw [Bool.not_eq_true', Bool.eq_false_iff, Ne, eqI_iff]; exact he, cond_true, if_pos he]
      exact ⟨_, rfl, .tup (.empty rfl (.same (.same .nil)))⟩
  · rw [bif_neg (by rw [ltI_iff]; omega), if_neg hi]
    exact ⟨_, rfl, .tup (.empty rfl (.same (.same .nil)))⟩
theorem ok43 : PureOk Try.prog 43 go43 := by
  refine gpureOk_of (c43 rounds) y43 tt43_ok (.consE ok80 (.cons ok41 .nil)) follows rfl Try.func97 (by kernel_rfl) Try.func43 (by kernel_rfl) (by kernel_rfl) ?_ ?_
  · intro R stk args ret; unfold go43; split
    · simp only [elim_cond]; rfl
    · rfl
  · intro args r objs h hr
    unfold go43 at h
    split at h
    · rename_i b
      rcases bif_alt h with ⟨hf0, h⟩ | ⟨hf0, h⟩
      · cases h
        rw [ble_iff] at hf0
        unfold gpure
        rw [f43_eq]
        exact f43_all rounds rounds b hf0 big
      · cases h
    · cases h

end Go.Proofs.YtmkgmlgklggnlaaG
