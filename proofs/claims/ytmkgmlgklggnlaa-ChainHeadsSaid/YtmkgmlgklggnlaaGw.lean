/- A part of the proof: plain laws, and what functions of the given program come to; no condition. -/
import Derived.Test.YtmkgmlgklggnlaaGv
namespace Go.Proofs.YtmkgmlgklggnlaaG
open Go Go.Proofs.YtmkgmlgklggnlaaGm
set_option maxRecDepth 100000
set_option maxHeartbeats 0

def go40 (R : Type) (stk : R) (args : List AV) (ret : AV → List AObj → R) : R :=
  match args with
  | [] => ret (.bool true) []
  | _ => stk

def tt40 : Tab := [(0, ty0), (1, ty1), (3, ty3), (4, ty4), (5, ty5), (22, ty22), (27, ty27), (35, ty35), (68, ty68), (69, ty69)]
theorem tt40_ok : TabOk Try.prog tt40 := tabOk_of_all ⟨ty0_ok, ty1_ok, ty3_ok, ty4_ok, ty5_ok, ty22_ok, ty27_ok, ty35_ok, ty68_ok, ty69_ok, trivial⟩
def c40 (F : Nat) : Cfg := ⟨tt40, [(43, .pure go43), (45, .pure go45), (47, .pure (normGo [.leaf .bytes, .leaf .bytes] go47))], F, [], [], 0⟩
theorem f40_eq (F : Nat) : afun (c40 F) Try.f40 [] [] =
  .ret (AV.bool (eqI (allF ([] ++ encF [UInt8.ofNat (Int.toNat 9)] ++ [UInt8.ofNat (Int.toNat 1)]) (([] ++ encF [UInt8.ofNat (Int.toNat 9)] ++ [UInt8.ofNat (Int.toNat 1)]).length + 1) 0).snd.snd 2)) [AObj.arr 5 (Pay.bytes [UInt8.ofNat (Int.toNat 9)]), AObj.dead, AObj.arr 5 (Pay.bytes [UInt8.ofNat (Int.toNat 1)])] := by kernel_rfl


theorem live40 : eqI (allF ([] ++ encF [UInt8.ofNat (Int.toNat 9)] ++ [UInt8.ofNat (Int.toNat 1)]) (([] ++ encF [UInt8.ofNat (Int.toNat 9)] ++ [UInt8.ofNat (Int.toNat 1)]).length + 1) 0).snd.snd 2 = true := by kernel_rfl
theorem f40_all (F : Nat) : outR (afun (c40 F) Try.f40 [] []) = some (.bool true, []) := by
  rw [f40_eq, live40]; rfl

theorem ok40 : PureOk Try.prog 40 go40 := by
  refine pureOk_of (c40 rounds) tt40_ok (.cons ok43 (.cons ok45 (.cons (ok47.norm _) .nil))) follows rfl Try.func40 (by kernel_rfl) (by kernel_rfl) ?_ ?_
  · intro R stk args ret
    unfold go40
    split
    · rfl
    · rfl
  · intro args r objs h hr
    unfold go40 at h
    split at h
    · rename_i a
      cases h
      refine ⟨_, ?_, .same⟩
      rw [apure_out]
      exact f40_all rounds
    · cases h

end Go.Proofs.YtmkgmlgklggnlaaG
