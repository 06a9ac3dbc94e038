/- A part of the proof: plain laws, and what functions of the given program come to; no condition. -/
import Derived.Test.YtjdojmjkldpgnaaDoorNm
import Derived.Test.YtjdojmjkldpgnaaDoorSh
namespace Go.Proofs.YtjdojmjkldpgnaaDoorG
open Go Go.Proofs.YtjdojmjkldpgnaaDoorGm
set_option maxRecDepth 100000
def oT (n : Int) : List UInt8 := (ByteArray.mk #[111, 117, 116, 45]).data.toList ++ Lib.itoa n
def xT (n : Int) : List UInt8 := (ByteArray.mk #[105, 100, 120, 45]).data.toList ++ Lib.itoa n
def go17 (R : Type) (stk : R) (args : List AV) (ret : AV → List AObj → R) : R :=
  match args with
  | [.tin g l n] => bif isTab g l then ret (.tup [.str (oT n), .str (xT n)]) [] else stk
  | [.int .i64 n] => bif leI 0 n && ltI n 100 then ret (.tup [.str (oT n), .str (xT n)]) [] else stk
  | _ => stk
def go18 (R : Type) (stk : R) (args : List AV) (ret : AV → List AObj → R) : R :=
  match args with
  | [.tin g l n] => bif isTab g l then ret (.tup [.str (oT n), .str (xT n)]) [] else stk
  | _ => stk
def go15 (R : Type) (stk : R) (args : List AV) (ret : AV → List AObj → R) : R :=
  match args with
  | [] => ret (.bool true) []
  | _ => stk
def go16 (R : Type) (stk : R) (args : List AV) (ret : AV → List AObj → R) : R :=
  match args with
  | [.ro (.bytes a), .ro (.bytes b)] => bif Nat.ble a.length 1099511627776 && Nat.ble b.length 1099511627776 then ret (.arr (cells32 (shaF a) ++ cells32 (shaF b))) [] else stk
  | _ => stk
theorem numeral_fits {n : Int} (h : IntKind.i64.has n) : (Lib.itoa n).length ≤ 21 := Lib.itoa_length_le n (i64_has h).1 (i64_has h).2
def tt17 : Tab := [(3, ty3), (9, ty9)]
theorem tt17_ok : TabOk Tryd.prog tt17 := tabOk_of_all ⟨ty3_ok, ty9_ok, trivial⟩
def c17 (F : Nat) : Cfg := ⟨tt17, [(36, .pure (goItoa 0))], F, [], [], 0⟩
theorem f17a_eq (F : Nat) (a : Int) : afun (c17 F) Tryd.f17 [AV.tin 0 Lib.pow10Tab a] [] =
  bif ((ByteArray.mk #[111, 117, 116, 45]).data.toList.length + (Lib.itoa a).length).ble maxLen then
    bif ((ByteArray.mk #[105, 100, 120, 45]).data.toList.length + (Lib.itoa a).length).ble maxLen then
      .ret (AV.tup [AV.str ((ByteArray.mk #[111, 117, 116, 45]).data.toList ++ Lib.itoa a), AV.str ((ByteArray.mk #[105, 100, 120, 45]).data.toList ++ Lib.itoa a)]) []
    else
      .stuck
  else
    .stuck := by kernel_rfl

theorem f17b_eq (F : Nat) (a : Int) : afun (c17 F) Tryd.f17 [AV.int IntKind.i64 a] [] =
  bif leI 0 a && ltI a 100 then
    bif ((ByteArray.mk #[111, 117, 116, 45]).data.toList.length + (Lib.itoa a).length).ble maxLen then
      bif ((ByteArray.mk #[105, 100, 120, 45]).data.toList.length + (Lib.itoa a).length).ble maxLen then
        .ret (AV.tup [AV.str ((ByteArray.mk #[111, 117, 116, 45]).data.toList ++ Lib.itoa a), AV.str ((ByteArray.mk #[105, 100, 120, 45]).data.toList ++ Lib.itoa a)]) []
      else
        .stuck
    else
      .stuck
  else
    .stuck := by kernel_rfl

def tt18 : Tab := [(3, ty3), (9, ty9)]
theorem tt18_ok : TabOk Tryd.prog tt18 := tabOk_of_all ⟨ty3_ok, ty9_ok, trivial⟩
def c18 (F : Nat) : Cfg := ⟨tt18, [(37, .pure (untinGo go37))], F, [], [], 0⟩
theorem f18_eq (F : Nat) (a : Int) : afun (c18 F) Tryd.f18 [AV.tin 0 Lib.pow10Tab a] [] =
  bif ((ByteArray.mk #[111, 117, 116, 45]).data.toList.length + (Lib.itoa a).length).ble maxLen then
    bif ((ByteArray.mk #[105, 100, 120, 45]).data.toList.length + (Lib.itoa a).length).ble maxLen then
      .ret (AV.tup [AV.str ((ByteArray.mk #[111, 117, 116, 45]).data.toList ++ Lib.itoa a), AV.str ((ByteArray.mk #[105, 100, 120, 45]).data.toList ++ Lib.itoa a)]) []
    else
      .stuck
  else
    .stuck := by kernel_rfl

def tt15 : Tab := [(3, ty3), (4, ty4), (9, ty9), (38, ty38)]
theorem tt15_ok : TabOk Tryd.prog tt15 := tabOk_of_all ⟨ty3_ok, ty4_ok, ty9_ok, ty38_ok, trivial⟩
def c15 (F : Nat) : Cfg := ⟨tt15, [(17, .pure go17)], F, [], [], 0⟩
theorem f15_eq (F : Nat) : afun (c15 F) Tryd.f15 [] [] =
  bif eqS (oT 3) (ByteArray.mk #[111, 117, 116, 45, 51]).data.toList then
    .ret (AV.bool (eqS (xT 3) (ByteArray.mk #[105, 100, 120, 45, 51]).data.toList)) []
  else
    .ret (AV.bool false) [] := by kernel_rfl

def tt16 : Tab := [(0, ty0), (5, ty5), (33, ty33), (35, ty35), (36, ty36)]
theorem tt16_ok : TabOk Tryd.prog tt16 := tabOk_of_all ⟨ty0_ok, ty5_ok, ty33_ok, ty35_ok, ty36_ok, trivial⟩
def c16 (F : Nat) : Cfg := ⟨tt16, [(38, .pure go38)], F, [], [], 0⟩
theorem f16_eq (F : Nat) (a : List UInt8) (b : List UInt8) : afun (c16 F) Tryd.f16 [AV.ro (Pay.bytes a), AV.ro (Pay.bytes b)] [] =
  bif a.length.ble 1099511627776 then
    bif b.length.ble 1099511627776 then
      .ret (AV.arr (cells32 (shaF a) ++ cells32 (shaF b))) [AObj.var 36 (cells32 (shaF a) ++ cells32 (shaF b))]
    else
      .stuck
  else
    .stuck := by kernel_rfl


theorem ok17 : PureOk Tryd.prog 17 go17 := by
  refine pureOk_of (c17 rounds) tt17_ok (.cons ok36 .nil) follows rfl Tryd.func17 (by kernel_rfl) (by kernel_rfl) ?_ ?_
  · intro R stk args ret
    unfold go17
    split
    · simp only [elim_cond]; rfl
    · simp only [elim_cond]; rfl
    · rfl
  · intro args r objs h hr
    unfold go17 at h
    split at h
    · rename_i g l n
      rcases bif_alt h with ⟨hf0, h⟩ | ⟨hf0, h⟩
      · cases h
        rw [isTab_iff] at hf0
        obtain ⟨rfl, rfl⟩ := hf0
        have hl := numeral_fits (Real.tin hr)
        refine ⟨_, ?_, .same⟩
        · rw [apure_out, f17a_eq]
          have e1 : (ByteArray.mk #[111, 117, 116, 45]).data.toList.length = 4 := rfl
          have e2 : (ByteArray.mk #[105, 100, 120, 45]).data.toList.length = 4 := rfl
          rw [bif_pos (ble_iff.2 (by rw [e1]; unfold maxLen; omega)), bif_pos (ble_iff.2 (by rw [e2]; unfold maxLen; omega))]
          rfl
      · cases h
    · rename_i n
      rcases bif_alt h with ⟨hf0, h⟩ | ⟨hf0, h⟩
      · cases h
        have hl := numeral_fits hr.int
        refine ⟨_, ?_, .same⟩
        · rw [apure_out, f17b_eq, hf0, cond_true]
          have e1 : (ByteArray.mk #[111, 117, 116, 45]).data.toList.length = 4 := rfl
          have e2 : (ByteArray.mk #[105, 100, 120, 45]).data.toList.length = 4 := rfl
          rw [bif_pos (ble_iff.2 (by rw [e1]; unfold maxLen; omega)), bif_pos (ble_iff.2 (by rw [e2]; unfold maxLen; omega))]
          rfl
      · cases h
    · cases h

theorem ok18 : PureOk Tryd.prog 18 go18 := by
  refine pureOk_of (c18 rounds) tt18_ok (.cons ok37.untin .nil) follows rfl Tryd.func18 (by kernel_rfl) (by kernel_rfl) ?_ ?_
  · intro R stk args ret
    unfold go18
    split
    · simp only [elim_cond]; rfl
    · rfl
  · intro args r objs h hr
    unfold go18 at h
    split at h
    · rename_i g l n
      rcases bif_alt h with ⟨hf0, h⟩ | ⟨hf0, h⟩
      · cases h
        rw [isTab_iff] at hf0
        obtain ⟨rfl, rfl⟩ := hf0
        have hl := numeral_fits (Real.tin hr)
        refine ⟨_, ?_, .same⟩
        · rw [apure_out, f18_eq]
          have e1 : (ByteArray.mk #[111, 117, 116, 45]).data.toList.length = 4 := rfl
          have e2 : (ByteArray.mk #[105, 100, 120, 45]).data.toList.length = 4 := rfl
          rw [bif_pos (ble_iff.2 (by rw [e1]; unfold maxLen; omega)), bif_pos (ble_iff.2 (by rw [e2]; unfold maxLen; omega))]
          rfl
      · cases h
    · cases h

theorem ok15 : PureOk Tryd.prog 15 go15 := by
  refine pureOk_of (c15 rounds) tt15_ok (.cons ok17 .nil) follows rfl Tryd.func15 (by kernel_rfl) (by kernel_rfl) ?_ ?_
  · intro R stk args ret
    unfold go15
    split <;> rfl
  · intro args r objs h hr
    unfold go15 at h
    split at h
    · cases h
      refine ⟨_, ?_, .same⟩
      have e : Lib.itoa 3 = [51] := itoa_one 3 (by decide)
      rw [apure_out, f15_eq]
      unfold oT xT
      rw [e]
      rfl
    · cases h
theorem ok16 : PureOk Tryd.prog 16 go16 := by
  refine pureOk_of (c16 rounds) tt16_ok (.cons ok38 .nil) follows rfl Tryd.func16 (by kernel_rfl) (by kernel_rfl) ?_ ?_
  · intro R stk args ret
    unfold go16
    split
    · simp only [elim_cond]; rfl
    · rfl
  · intro args r objs h hr
    unfold go16 at h
    split at h
    · rename_i a b
      rcases bif_alt h with ⟨hf0, h⟩ | ⟨hf0, h⟩
      · cases h
        rw [Bool.and_eq_true] at hf0
        refine ⟨_, ?_, .same⟩
        rw [apure_out, f16_eq, hf0.1, hf0.2]
        rfl
      · cases h
    · cases h
end Go.Proofs.YtjdojmjkldpgnaaDoorG
