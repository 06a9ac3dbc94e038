/- A part of the proof: plain laws, and what functions of the given program come to; no condition. -/
import Derived.Test.YtmkgmlgklggnlaaTa
import Derived.Test.YtmkgmlgklggnlaaGmYrec
namespace Go.Proofs.YtmkgmlgklggnlaaG
open Go Go.Proofs.YtmkgmlgklggnlaaGm
set_option maxRecDepth 100000
set_option maxHeartbeats 0

def go53 (R : Type) (stk : R) (args : List AV) (ret : AV → List AObj → R) : R :=
  match args with
  | [.arr r, .ro (.bytes x)] => bif Nat.beq r.length 32 && r.all (isInt .u8) && Nat.ble x.length 1000000000000 then ret (.arr (intsA .u8 (shaW (u8of r ++ x)))) [] else stk
  | _ => stk

def go86 (R : Type) (stk : R) (args : List AV) (ret : AV → List AObj → R) : R :=
  match args with
  | [.arr r] => bif Nat.beq r.length 32 && r.all (isInt .u8) then ret (.own 0) [.arr 5 (.bytes (u8of r))] else stk
  | _ => stk

def go50 (R : Type) (stk : R) (args : List AV) (ret : AV → List AObj → R) : R :=
  match args with
  | [.ro (.bytes a), .ro (.bytes b)] => bif Nat.ble a.length 1000000 && Nat.ble b.length 1000000 then ret (.arr (intsA .u8 (shaW (encT a ++ encT b)))) [] else stk
  | _ => stk

def go51 (R : Type) (stk : R) (args : List AV) (ret : AV → List AObj → R) : R :=
  match args with
  | [.ro (.bytes a), .ro (.bytes b)] => bif Nat.ble a.length 1000000 && Nat.ble b.length 1000000 then ret (.arr (intsA .u8 (shaW (encT a ++ encT b)))) [] else stk
  | _ => stk

def tt86 : Tab := [(0, ty0), (1, ty1), (3, ty3), (4, ty4), (5, ty5), (22, ty22), (52, ty52), (52, ty52)]
theorem tt86_ok : TabOk Try.prog tt86 := tabOk_of_all ⟨ty0_ok, ty1_ok, ty3_ok, ty4_ok, ty5_ok, ty22_ok, ty52_ok, ty52_ok, trivial⟩
def c86 (F : Nat) : Cfg := ⟨tt86, [], F, [(0, ⟨[1, 3, 4], [(3, 5)]⟩)], [], 0⟩
noncomputable def f86_0 (F k : Nat) (x4 : Int) (xh0 : List Int) (xh1 : List UInt8) : Res := aloop (c86 F) Try.f86 0 [] k (St.mk [.top, AV.ptr 0 0, .top, AV.own 1, AV.int .i64 x4, .top, .top, .top, .top, .top, .top, .top, .top, .top, .top, .top] [AObj.vara 52 .u8 xh0, AObj.arr 5 (Pay.bytes xh1)])
theorem f86_eq (F : Nat) (r : List AV) : afun (c86 F) Try.f86 [AV.arr r] [] =
 bif r.length.beq 32 then
 bif r.all (isInt .u8) then
 f86_0 F F 0 (List.map intOf r) []
 else
 .stuck
 else
 .stuck := by kernel_rfl
theorem f86_0_eq (F k : Nat) (x4 : Int) (xh0 : List Int) (xh1 : List UInt8) : f86_0 F (k + 1) x4 xh0 xh1 =
 bif ltI x4 32 then
 bif inB x4 32 then
 bif (0 + x4.toNat * 1).blt xh0.length then
 bif appFits ty5 (Pay.bytes (xh1 ++ [UInt8.ofNat (xh0.getD (0 + x4.toNat * 1) 0).toNat])) then
 f86_0 F k (IntKind.i64.wrap (x4 + 1)) xh0 (xh1 ++ [UInt8.ofNat (xh0.getD (0 + x4.toNat * 1) 0).toNat])
 else
 .stuck
 else
 .stuck
 else
 .stuck
 else
 .ret (AV.own 1) [AObj.vara 52 .u8 xh0, AObj.arr 5 (Pay.bytes xh1)] := by kernel_rfl


def tt50 : Tab := [(0, ty0), (5, ty5), (9, ty9), (22, ty22), (52, ty52)]
theorem tt50_ok : TabOk Try.prog tt50 := tabOk_of_all ⟨ty0_ok, ty5_ok, ty9_ok, ty22_ok, ty52_ok, trivial⟩
def c50 (F : Nat) : Cfg := ⟨tt50, [(84, .pure go84), (34, .pure go34)], F, [], [(2000001, ⟨[], []⟩)], 0⟩
theorem f50_eq (F : Nat) (a : List UInt8) (b : List UInt8) : afun (c50 F) Try.f50 [AV.ro (Pay.bytes a), AV.ro (Pay.bytes b)] [] =
 bif (a.length + 9).ble 140737488355328 then
 bif (b.length + 9).ble 140737488355328 then
 bif appFits ty5 (Pay.bytes (encT a ++ encT b)) then
 bif (encT a ++ encT b).length.ble 1099511627776 then
 .ret (AV.arr (cells32 (shaF (encT a ++ encT b)))) [AObj.var 52 (cells32 (shaF (encT a ++ encT b))), AObj.arr 5 (Pay.bytes (encT b)), AObj.arr 5 (Pay.bytes (encT a ++ encT b))]
 else
 .stuck
 else
 .stuck
 else
 .stuck
 else
 .stuck := by kernel_rfl


def tt51 : Tab := [(0, ty0), (5, ty5), (9, ty9), (22, ty22), (51, ty51), (52, ty52)]
theorem tt51_ok : TabOk Try.prog tt51 := tabOk_of_all ⟨ty0_ok, ty5_ok, ty9_ok, ty22_ok, ty51_ok, ty52_ok, trivial⟩
def c51 (F : Nat) : Cfg := ⟨tt51, [(85, .pure go85), (33, .pure go33)], F, [], [(2000001, ⟨[], []⟩)], 0⟩
theorem f51_eq (F : Nat) (a : List UInt8) (b : List UInt8) : afun (c51 F) Try.f51 [AV.ro (Pay.bytes a), AV.ro (Pay.bytes b)] [] =
 bif (a.length + 9).ble 140737488355328 then
 bif (b.length + 9).ble 140737488355328 then
 bif appFits ty5 (Pay.bytes (encT a ++ encT b)) then
 bif (encT a ++ encT b).length.ble 1099511627776 then
 .ret (AV.arr (cells32 (shaF (encT a ++ encT b)))) [AObj.var 52 (cells32 (shaF (encT a ++ encT b))), AObj.arr 5 (Pay.bytes (encT b)), AObj.arr 5 (Pay.bytes (encT a ++ encT b))]
 else
 .stuck
 else
 .stuck
 else
 .stuck
 else
 .stuck := by kernel_rfl


def tt53 : Tab := [(0, ty0), (5, ty5), (22, ty22), (51, ty51), (52, ty52), (52, ty52)]
theorem tt53_ok : TabOk Try.prog tt53 := tabOk_of_all ⟨ty0_ok, ty5_ok, ty22_ok, ty51_ok, ty52_ok, ty52_ok, trivial⟩
def c53 (F : Nat) : Cfg := ⟨tt53, [(86, .pure go86), (33, .pure go33)], F, [], [], 0⟩
theorem f53_eq (F : Nat) (r : List AV) (x : List UInt8) : afun (c53 F) Try.f53 [AV.arr r, AV.ro (Pay.bytes x)] [] =
 bif r.length.beq 32 then
 bif r.all (isInt .u8) then
 bif Nat.beq 32 (List.map intOf r).length then
 bif (List.map (AV.int .u8) (List.map intOf r)).length.beq 32 && (List.map (AV.int .u8) (List.map intOf r)).all (isInt .u8) then
 bif appFits ty5 (Pay.bytes (u8of (List.map (AV.int .u8) (List.map intOf r)) ++ x)) then
 bif (u8of (List.map (AV.int .u8) (List.map intOf r)) ++ x).length.ble 1099511627776 then
 .ret (AV.arr (cells32 (shaF (u8of (List.map (AV.int .u8) (List.map intOf r)) ++ x)))) [AObj.vara 52 .u8 (List.map intOf r), AObj.vara 52 .u8 (List.map intOf (intsA IntKind.u8 (List.map (shaF (u8of (List.map (AV.int .u8) (List.map intOf r)) ++ x)) (List.range 32)))), AObj.arr 5 (Pay.bytes (u8of (List.map (AV.int .u8) (List.map intOf r)) ++ x))]
 else
 .stuck
 else
 .stuck
 else
 .stuck
 else
 .stuck
 else
 .stuck
 else
 .stuck := by kernel_rfl


theorem u8of_drop (r : List AV) (i : Nat) (h : i < r.length) : u8of (r.drop i) = UInt8.ofNat ((r.map intOf).getD i 0).toNat :: u8of (r.drop (i + 1)) := by
  rw [List.drop_eq_getElem_cons h, List.getD_eq_getElem?_getD, List.getElem?_map, List.getElem?_eq_getElem h]; rfl
theorem f86_run (F : Nat) (r : List AV) (hl : r.length = 32) : ∀ (d i K : Nat) (p : List UInt8), i + d = 32 → d < K → p.length + d ≤ 1000 →
    outR (f86_0 F K i (r.map intOf) p) = some (.own 0, [.arr 5 (.bytes (p ++ u8of (r.drop i)))])
  | 0, i, K + 1, p, h, _, _ => by
    rw [f86_0_eq, bif_neg (by rw [ltI_iff]; omega), List.drop_eq_nil_of_le (by omega)]
    show some (AV.own 0, [AObj.arr 5 (.bytes p)]) = some (AV.own 0, [AObj.arr 5 (.bytes (p ++ []))])
    rw [List.append_nil]
  | d + 1, i, K + 1, p, h, hk, hp => by
    have e1 : IntKind.i64.wrap ((i : Int) + 1) = ((i + 1 : Nat) : Int) := by rw [wrap64 (by omega) (by omega)]; omega
    have hL : (r.map intOf).length = 32 := by rw [List.length_map, hl]
    rw [f86_0_eq, bif_pos (ltI_iff.2 (by omega)), e1]
    simp only [Int.toNat_natCast, Nat.zero_add, Nat.mul_one]
    rw [bif_pos (by rw [inB_iff]; omega), bif_pos (by rw [blt_iff]; omega), bif_pos (fits5.2 (by rw [List.length_append, List.length_singleton]; omega)),
      f86_run F r hl d (i + 1) K _ (by omega) (by omega) (by rw [List.length_append, List.length_singleton]; omega), u8of_drop r i (by omega), List.append_assoc]; rfl
theorem f86_all (F : Nat) (hF : 100 ≤ F) (r : List AV) (hl : r.length = 32) (ha : r.all (isInt .u8) = true) : outR (afun (c86 F) Try.f86 [.arr r] []) = some (.own 0, [.arr 5 (.bytes (u8of r))]) := by
  rw [f86_eq, bif_pos (by rw [hl]; rfl), bif_pos ha]
  have e := f86_run F r hl 32 0 F [] rfl (by omega) (by decide)
  exact e

theorem f50_all (F : Nat) (a b : List UInt8) (ha : a.length ≤ 1000000) (hb : b.length ≤ 1000000) : outR (afun (c50 F) Try.f50 [.ro (.bytes a), .ro (.bytes b)] []) = some (.arr (intsA .u8 (shaW (encT a ++ encT b))), []) := by
  have la := encT_len a
  have lb := encT_len b
  have e : cells32 (shaF (encT a ++ encT b)) = intsA .u8 (shaW (encT a ++ encT b)) := by rw [cells32_eq, shaF_W]
  rw [f50_eq, bif_pos (by rw [ble_iff]; omega), bif_pos (by rw [ble_iff]; omega), bif_pos (fits5.2 (by rw [List.length_append]; omega)), bif_pos (by rw [ble_iff, List.length_append]; omega)]
  refine Eq.trans ?_ (congrArg (fun l => some (AV.arr l, ([] : List AObj))) e)
  rfl

theorem f51_all (F : Nat) (a b : List UInt8) (ha : a.length ≤ 1000000) (hb : b.length ≤ 1000000) : outR (afun (c51 F) Try.f51 [.ro (.bytes a), .ro (.bytes b)] []) = some (.arr (intsA .u8 (shaW (encT a ++ encT b))), []) := by
  have la := encT_len a
  have lb := encT_len b
  have e : cells32 (shaF (encT a ++ encT b)) = intsA .u8 (shaW (encT a ++ encT b)) := by rw [cells32_eq, shaF_W]
  rw [f51_eq, bif_pos (by rw [ble_iff]; omega), bif_pos (by rw [ble_iff]; omega), bif_pos (fits5.2 (by rw [List.length_append]; omega)), bif_pos (by rw [ble_iff, List.length_append]; omega)]
  refine Eq.trans ?_ (congrArg (fun l => some (AV.arr l, ([] : List AObj))) e)
  rfl

theorem ok86 : PureOk Try.prog 86 go86 := by
  refine pureOk_of (c86 rounds) tt86_ok .nil follows rfl Try.func86 (by kernel_rfl) (by kernel_rfl) ?_ ?_
  · intro R stk args ret
    unfold go86
    split
    · simp only [elim_cond]; rfl
    · rfl
  · intro args r objs h hr
    unfold go86 at h
    split at h
    · rename_i r
      rcases bif_alt h with ⟨hf0, h⟩ | ⟨hf0, h⟩
      · cases h
        rw [Bool.and_eq_true] at hf0
        refine ⟨_, ?_, .same⟩
        rw [apure_out]
        exact f86_all rounds (by decide) r (Nat.eq_of_beq_eq_true hf0.1) hf0.2
      ·
        cases h
    · cases h

theorem ok50 : PureOk Try.prog 50 go50 := by
  refine pureOk_of (c50 rounds) tt50_ok (.cons ok84 (.cons ok34 .nil)) follows rfl Try.func50 (by kernel_rfl) (by kernel_rfl) ?_ ?_
  · intro R stk args ret
    unfold go50
    split
    · simp only [elim_cond]; rfl
    · rfl
  · intro args r objs h hr
    unfold go50 at h
    split at h
    · rename_i a b
      rcases bif_alt h with ⟨hf0, h⟩ | ⟨hf0, h⟩
      · cases h
        rw [Bool.and_eq_true, ble_iff, ble_iff] at hf0
        refine ⟨_, ?_, .same⟩
        rw [apure_out]
        exact f50_all rounds a b hf0.1 hf0.2
      ·
        cases h
    · cases h

theorem ok51 : PureOk Try.prog 51 go51 := by
  refine pureOk_of (c51 rounds) tt51_ok (.cons ok85 (.cons ok33 .nil)) follows rfl Try.func51 (by kernel_rfl) (by kernel_rfl) ?_ ?_
  · intro R stk args ret
    unfold go51
    split
    · simp only [elim_cond]; rfl
    · rfl
  · intro args r objs h hr
    unfold go51 at h
    split at h
    · rename_i a b
      rcases bif_alt h with ⟨hf0, h⟩ | ⟨hf0, h⟩
      · cases h
        rw [Bool.and_eq_true, ble_iff, ble_iff] at hf0
        refine ⟨_, ?_, .same⟩
        rw [apure_out]
        exact f51_all rounds a b hf0.1 hf0.2
      ·
        cases h
    · cases h

theorem f53_all (F : Nat) (r : List AV) (x : List UInt8) (hl : r.length = 32) (ha : r.all (isInt .u8) = true) (hx : x.length ≤ 1000000000000) : outR (afun (c53 F) Try.f53 [.arr r, .ro (.bytes x)] []) = some (.arr (intsA .u8 (shaW (u8of r ++ x))), []) := by
  have hu := u8of_len r
  have e : cells32 (shaF (u8of r ++ x)) = intsA .u8 (shaW (u8of r ++ x)) := by rw [cells32_eq, shaF_W]
  rw [f53_eq, ints_back ha, bif_pos (by rw [hl]; rfl), bif_pos ha, bif_pos (by rw [List.length_map, hl]; rfl), bif_pos (by rw [Bool.and_eq_true]; exact ⟨by rw [hl]; rfl, ha⟩), bif_pos (fits5.2 (by rw [List.length_append]; omega)), bif_pos (by rw [ble_iff, List.length_append]; omega)]
  refine Eq.trans ?_ (congrArg (fun l => some (AV.arr l, ([] : List AObj))) e)
  rfl

theorem ok53 : PureOk Try.prog 53 go53 := by
  refine pureOk_of (c53 rounds) tt53_ok (.cons ok86 (.cons ok33 .nil)) follows rfl Try.func53 (by kernel_rfl) (by kernel_rfl) ?_ ?_
  · intro R stk args ret
    unfold go53
    split
    · simp only [elim_cond]; rfl
    · rfl
  · intro args r objs h hr
    unfold go53 at h
    split at h
    · rename_i r x
      rcases bif_alt h with ⟨hf0, h⟩ | ⟨hf0, h⟩
      · cases h
        rw [Bool.and_eq_true, Bool.and_eq_true, ble_iff] at hf0
        refine ⟨_, ?_, .same⟩
        rw [apure_out]
        exact f53_all rounds r x (Nat.eq_of_beq_eq_true hf0.1.1) hf0.1.2 hf0.2
      ·
        cases h
    · cases h

end Go.Proofs.YtmkgmlgklggnlaaG
