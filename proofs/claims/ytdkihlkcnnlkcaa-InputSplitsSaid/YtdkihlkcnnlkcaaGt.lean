/- A part of the proof: plain laws, and what functions of the given program come to; no condition. -/
import Derived.Test.YtdkihlkcnnlkcaaGd
import Derived.Test.YtdkihlkcnnlkcaaGmYinpx
import Derived.Test.YtdkihlkcnnlkcaaGm4
namespace Go.Proofs.YtdkihlkcnnlkcaaG
open Go Go.Proofs.YtdkihlkcnnlkcaaGm
set_option maxRecDepth 100000
set_option maxHeartbeats 0

def go40 (R : Type) (stk : R) (args : List AV) (ret : AV → List AObj → R) : R :=
  match args with
  | [.ro (.bytes l)] => ret (.fn 60 [.ptr 0 0]) [.var 23 [.ro (.bytes l)]]
  | _ => stk

def go61 (R : Type) (stk : R) (args : List AV) (ret : AV → List AObj → R) : R :=
  match args with
  | [.ro (.bytes l), .int .u8 n] => ret (.int .i64 (idxB l n)) []
  | _ => stk

def go11 (R : Type) (stk : R) (args : List AV) (ret : AV → List AObj → R) : R :=
  match args with
  | [.ro (.bytes b)] => ret (.tup [.ro (.rows 2 (recRows (records b).1)), .int .i64 (records b).2.1, .int .i64 (records b).2.2]) []
  | _ => stk

def tt40 : Tab := [(0, ty0), (5, ty5), (23, ty23), (74, ty74), (75, ty75)]
theorem tt40_ok : TabOk Try.prog tt40 := tabOk_of_all ⟨ty0_ok, ty5_ok, ty23_ok, ty74_ok, ty75_ok, trivial⟩
def c40 (F : Nat) : Cfg := ⟨tt40, [], F, [], [], 0⟩
theorem f40_eq (F : Nat) (a0 : List UInt8) : afun (c40 F) Try.f40 [AV.ro (Pay.bytes a0)] [] =
  .ret (AV.fn 60 [AV.ptr 0 0]) [AObj.var 23 [AV.ro (Pay.bytes a0)]] := by kernel_rfl


def tt61 : Tab := [(3, ty3), (5, ty5), (23, ty23)]
theorem tt61_ok : TabOk Try.prog tt61 := tabOk_of_all ⟨ty3_ok, ty5_ok, ty23_ok, trivial⟩
def c61 (F : Nat) : Cfg := ⟨tt61, [(72, .pure go61)], F, [], [], 0⟩
theorem f61_eq (F : Nat) (a0 : List UInt8) (a1 : Int) : afun (c61 F) Try.f61 [AV.ro (Pay.bytes a0), AV.int IntKind.u8 a1] [] =
  .ret (AV.int IntKind.i64 (idxB a0 a1)) [] := by kernel_rfl


theorem ok72 : PureOk Try.prog 72 go61 := by
  refine pureOk_ext Try.func72 (by kernel_rfl) (by kernel_rfl) (by kernel_rfl) (e := Extern.BytealgIndexByte.indexByte) (by kernel_rfl) ?_ ?_
  · intro R stk args k; unfold go61; split <;> rfl
  · intro args r objs h
    unfold go61 at h
    split at h
    · rename_i l n
      cases h
      refine ⟨rfl, ?_⟩
      intro w M cargs hc
      cases hc with | cons h1 h2 =>
      cases h2 with | cons h2 h3 =>
      cases h3
      cases h2 with | int hk =>
      have hk : 0 ≤ n ∧ n ≤ 255 := by simpa [IntKind.has, IntKind.min, IntKind.max, IntKind.signed, IntKind.bits] using hk
      refine ⟨_, run_index h1 hk, .int ?_⟩
      have hl : l.length ≤ maxLen := by
        cases h1 with
        | roN h0 => have : l.length = 0 := h0; rw [this]; exact Nat.zero_le _
        | ro _ _ _ _ _ _ _ hcap hm => exact Nat.le_trans hcap hm
      unfold maxLen at hl
      unfold idxB
      split
      · rename_i i hi
        have := (List.findIdx?_eq_some_iff_getElem.1 hi).1
        exact ⟨by show (-9223372036854775808 : Int) ≤ _; omega, by show _ ≤ (9223372036854775807 : Int); omega⟩
      · exact ⟨by decide, by decide⟩
    · cases h

theorem ok40 : PureOk Try.prog 40 go40 := by
  refine pureOk_of (c40 rounds) tt40_ok .nil follows rfl Try.func40 (by kernel_rfl) (by kernel_rfl) ?_ ?_
  · intro R stk args ret
    unfold go40
    split
    · rfl
    · rfl
  · intro args r objs h hr
    unfold go40 at h
    split at h
    · rename_i l
      cases h
      refine ⟨_, ?_, .same⟩
      rw [apure_out]
      rw [f40_eq]
      rfl
    · cases h

theorem ok61 : PureOk Try.prog 61 go61 := by
  refine pureOk_of (c61 rounds) tt61_ok (.cons ok72 .nil) follows rfl Try.func61 (by kernel_rfl) (by kernel_rfl) ?_ ?_
  · intro R stk args ret
    unfold go61
    split
    · rfl
    · rfl
  · intro args r objs h hr
    unfold go61 at h
    split at h
    · rename_i l n
      cases h
      refine ⟨_, ?_, .same⟩
      rw [apure_out]
      rw [f61_eq]
      rfl
    · cases h

end Go.Proofs.YtdkihlkcnnlkcaaG
