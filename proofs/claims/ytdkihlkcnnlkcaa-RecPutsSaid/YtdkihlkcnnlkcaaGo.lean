/- A part of the proof: plain laws, and what functions of the given program come to; no condition. -/
import Derived.Test.YtdkihlkcnnlkcaaGn
namespace Go.Proofs.YtdkihlkcnnlkcaaG
open Go Go.Proofs.YtdkihlkcnnlkcaaGm
set_option maxRecDepth 100000


def go19 (R : Type) (stk : R) (args : List AV) (ret : AV → List AObj → R) : R :=
  match args with
  | [.ro (.bytes b), .ro (.rows 1 l)] => bif Nat.blt 65536 l.length then ret (.tup [.nil, .int .i64 9]) [] else bif longT (decRows l).flatten && okRows 1 l && Nat.ble (b.length + 9 + szT (decRows l).flatten) 140737488355328 then ret (.tup [.nil, .int .i64 5]) [] else bif okRows 1 l && Nat.ble (b.length + 9 + szT (decRows l).flatten) 140737488355328 then ret (.tup [.own 0, .int .i64 0]) [.arr 5 (.bytes (b ++ enc l.length ++ encTs (decRows l).flatten))] else stk
  | [.nil, .ro (.rows 1 l)] => bif Nat.blt 65536 l.length then ret (.tup [.nil, .int .i64 9]) [] else bif longT (decRows l).flatten && okRows 1 l && Nat.ble (9 + szT (decRows l).flatten) 140737488355328 then ret (.tup [.nil, .int .i64 5]) [] else bif okRows 1 l && Nat.ble (9 + szT (decRows l).flatten) 140737488355328 then ret (.tup [.own 0, .int .i64 0]) [.arr 5 (.bytes (enc l.length ++ encTs (decRows l).flatten))] else stk
  | _ => stk

def tt19 : Tab := [(0, ty0), (5, ty5), (9, ty9), (23, ty23), (25, ty25), (42, ty42), (44, ty44), (80, ty80)]
theorem tt19_ok : TabOk Try.prog tt19 := tabOk_of_all ⟨ty0_ok, ty5_ok, ty9_ok, ty23_ok, ty25_ok, ty42_ok, ty44_ok, ty80_ok, trivial⟩
def c19 (F : Nat) : Cfg := ⟨tt19, [(43, .pure go43)], F, [], [], 0⟩
theorem f19_eq (F : Nat) (a0 : List UInt8) (l : List (List AV)) : afun (c19 F) Try.f19 [AV.ro (Pay.bytes a0), AV.ro (Pay.rows 1 l)] [] =
  bif Nat.blt 65536 l.length then
    .ret (AV.tup [AV.nil, AV.int IntKind.i64 9]) []
  else
    bif longT (decRows l).flatten && okRows 1 l && (a0.length + 9 + szT (decRows l).flatten).ble 140737488355328 then
      .ret (AV.tup [AV.nil, AV.int IntKind.i64 5]) []
    else
      bif okRows 1 l && (a0.length + 9 + szT (decRows l).flatten).ble 140737488355328 then
        .ret (AV.tup [AV.own 0, AV.int IntKind.i64 0]) [AObj.arr 5 (Pay.bytes (a0 ++ enc ↑l.length ++ encTs (decRows l).flatten))]
      else
        .stuck := by kernel_rfl


theorem f19z_eq (F : Nat) (l : List (List AV)) : afun (c19 F) Try.f19 [AV.nil, AV.ro (Pay.rows 1 l)] [] =
  bif Nat.blt 65536 l.length then
    .ret (AV.tup [AV.nil, AV.int IntKind.i64 9]) []
  else
    bif longT (decRows l).flatten && okRows 1 l && (9 + szT (decRows l).flatten).ble 140737488355328 then
      .ret (AV.tup [AV.nil, AV.int IntKind.i64 5]) []
    else
      bif okRows 1 l && (9 + szT (decRows l).flatten).ble 140737488355328 then
        .ret (AV.tup [AV.own 0, AV.int IntKind.i64 0]) [AObj.arr 5 (Pay.bytes (enc ↑l.length ++ encTs (decRows l).flatten))]
      else
        .stuck := by kernel_rfl


theorem ok19 : PureOk Try.prog 19 go19 := by
  refine pureOk_of (c19 rounds) tt19_ok (.cons ok43 .nil) follows rfl Try.func19 (by kernel_rfl) (by kernel_rfl) ?_ ?_
  · intro R stk args ret
    unfold go19
    split
    · simp only [elim_cond]; rfl
    · simp only [elim_cond]; rfl
    · rfl
  · intro args r objs h hr
    unfold go19 at h
    split at h
    · rename_i b l
      rcases bif_alt h with ⟨hf0, h⟩ | ⟨hf0, h⟩
      · cases h
        refine ⟨_, ?_, .same⟩
        rw [apure_out]
        rw [f19_eq, hf0, cond_true]
        rfl
      ·
        rcases bif_alt h with ⟨hf1, h⟩ | ⟨hf1, h⟩
        · cases h
          refine ⟨_, ?_, .same⟩
          rw [apure_out]
          rw [f19_eq, hf0, cond_false, hf1, cond_true]
          rfl
        ·
          rcases bif_alt h with ⟨hf2, h⟩ | ⟨hf2, h⟩
          · cases h
            refine ⟨_, ?_, .same⟩
            rw [apure_out]
            rw [f19_eq, hf0, cond_false, hf1, cond_false, hf2, cond_true]
            rfl
          ·
            cases h
    · rename_i l
      rcases bif_alt h with ⟨hf0, h⟩ | ⟨hf0, h⟩
      · cases h
        refine ⟨_, ?_, .same⟩
        rw [apure_out]
        rw [f19z_eq, hf0, cond_true]
        rfl
      ·
        rcases bif_alt h with ⟨hf1, h⟩ | ⟨hf1, h⟩
        · cases h
          refine ⟨_, ?_, .same⟩
          rw [apure_out]
          rw [f19z_eq, hf0, cond_false, hf1, cond_true]
          rfl
        ·
          rcases bif_alt h with ⟨hf2, h⟩ | ⟨hf2, h⟩
          · cases h
            refine ⟨_, ?_, .same⟩
            rw [apure_out]
            rw [f19z_eq, hf0, cond_false, hf1, cond_false, hf2, cond_true]
            rfl
          ·
            cases h
    · cases h

def go20 (R : Type) (stk : R) (args : List AV) (ret : AV → List AObj → R) : R :=
  match args with
  | [.ro (.bytes b), .ro (.rows 2 l)] => bif Nat.blt 65536 l.length then ret (.tup [.nil, .int .i64 9]) [] else bif longT (decRows l).flatten && okRows 2 l && Nat.ble (b.length + 9 + szT (decRows l).flatten) 140737488355328 then ret (.tup [.nil, .int .i64 5]) [] else bif okRows 2 l && Nat.ble (b.length + 9 + szT (decRows l).flatten) 140737488355328 then ret (.tup [.own 0, .int .i64 0]) [.arr 5 (.bytes (b ++ enc l.length ++ encTs (decRows l).flatten))] else stk
  | [.nil, .ro (.rows 2 l)] => bif Nat.blt 65536 l.length then ret (.tup [.nil, .int .i64 9]) [] else bif longT (decRows l).flatten && okRows 2 l && Nat.ble (9 + szT (decRows l).flatten) 140737488355328 then ret (.tup [.nil, .int .i64 5]) [] else bif okRows 2 l && Nat.ble (9 + szT (decRows l).flatten) 140737488355328 then ret (.tup [.own 0, .int .i64 0]) [.arr 5 (.bytes (enc l.length ++ encTs (decRows l).flatten))] else stk
  | _ => stk

def tt20 : Tab := [(0, ty0), (5, ty5), (9, ty9), (23, ty23), (25, ty25), (42, ty42), (47, ty47), (48, ty48), (82, ty82)]
theorem tt20_ok : TabOk Try.prog tt20 := tabOk_of_all ⟨ty0_ok, ty5_ok, ty9_ok, ty23_ok, ty25_ok, ty42_ok, ty47_ok, ty48_ok, ty82_ok, trivial⟩
def c20 (F : Nat) : Cfg := ⟨tt20, [(45, .pure go45)], F, [], [], 0⟩
theorem f20_eq (F : Nat) (a0 : List UInt8) (l : List (List AV)) : afun (c20 F) Try.f20 [AV.ro (Pay.bytes a0), AV.ro (Pay.rows 2 l)] [] =
  bif Nat.blt 65536 l.length then
    .ret (AV.tup [AV.nil, AV.int IntKind.i64 9]) []
  else
    bif longT (decRows l).flatten && okRows 2 l && (a0.length + 9 + szT (decRows l).flatten).ble 140737488355328 then
      .ret (AV.tup [AV.nil, AV.int IntKind.i64 5]) []
    else
      bif okRows 2 l && (a0.length + 9 + szT (decRows l).flatten).ble 140737488355328 then
        .ret (AV.tup [AV.own 0, AV.int IntKind.i64 0]) [AObj.arr 5 (Pay.bytes (a0 ++ enc ↑l.length ++ encTs (decRows l).flatten))]
      else
        .stuck := by kernel_rfl


theorem f20z_eq (F : Nat) (l : List (List AV)) : afun (c20 F) Try.f20 [AV.nil, AV.ro (Pay.rows 2 l)] [] =
  bif Nat.blt 65536 l.length then
    .ret (AV.tup [AV.nil, AV.int IntKind.i64 9]) []
  else
    bif longT (decRows l).flatten && okRows 2 l && (9 + szT (decRows l).flatten).ble 140737488355328 then
      .ret (AV.tup [AV.nil, AV.int IntKind.i64 5]) []
    else
      bif okRows 2 l && (9 + szT (decRows l).flatten).ble 140737488355328 then
        .ret (AV.tup [AV.own 0, AV.int IntKind.i64 0]) [AObj.arr 5 (Pay.bytes (enc ↑l.length ++ encTs (decRows l).flatten))]
      else
        .stuck := by kernel_rfl


theorem ok20 : PureOk Try.prog 20 go20 := by
  refine pureOk_of (c20 rounds) tt20_ok (.cons ok45 .nil) follows rfl Try.func20 (by kernel_rfl) (by kernel_rfl) ?_ ?_
  · intro R stk args ret
    unfold go20
    split
    · simp only [elim_cond]; rfl
    · simp only [elim_cond]; rfl
    · rfl
  · intro args r objs h hr
    unfold go20 at h
    split at h
    · rename_i b l
      rcases bif_alt h with ⟨hf0, h⟩ | ⟨hf0, h⟩
      · cases h
        refine ⟨_, ?_, .same⟩
        rw [apure_out]
        rw [f20_eq, hf0, cond_true]
        rfl
      ·
        rcases bif_alt h with ⟨hf1, h⟩ | ⟨hf1, h⟩
        · cases h
          refine ⟨_, ?_, .same⟩
          rw [apure_out]
          rw [f20_eq, hf0, cond_false, hf1, cond_true]
          rfl
        ·
          rcases bif_alt h with ⟨hf2, h⟩ | ⟨hf2, h⟩
          · cases h
            refine ⟨_, ?_, .same⟩
            rw [apure_out]
            rw [f20_eq, hf0, cond_false, hf1, cond_false, hf2, cond_true]
            rfl
          ·
            cases h
    · rename_i l
      rcases bif_alt h with ⟨hf0, h⟩ | ⟨hf0, h⟩
      · cases h
        refine ⟨_, ?_, .same⟩
        rw [apure_out]
        rw [f20z_eq, hf0, cond_true]
        rfl
      ·
        rcases bif_alt h with ⟨hf1, h⟩ | ⟨hf1, h⟩
        · cases h
          refine ⟨_, ?_, .same⟩
          rw [apure_out]
          rw [f20z_eq, hf0, cond_false, hf1, cond_true]
          rfl
        ·
          rcases bif_alt h with ⟨hf2, h⟩ | ⟨hf2, h⟩
          · cases h
            refine ⟨_, ?_, .same⟩
            rw [apure_out]
            rw [f20z_eq, hf0, cond_false, hf1, cond_false, hf2, cond_true]
            rfl
          ·
            cases h
    · cases h

def go21 (R : Type) (stk : R) (args : List AV) (ret : AV → List AObj → R) : R :=
  match args with
  | [.int .i64 n] => ret (.int .i64 n) []
  | _ => stk

def tt21 : Tab := [(3, ty3), (25, ty25)]
theorem tt21_ok : TabOk Try.prog tt21 := tabOk_of_all ⟨ty3_ok, ty25_ok, trivial⟩
def c21 (F : Nat) : Cfg := ⟨tt21, [], F, [], [], 0⟩
theorem f21_eq (F : Nat) (a0 : Int) : afun (c21 F) Try.f21 [AV.int IntKind.i64 a0] [] =
  .ret (AV.int IntKind.i64 a0) [] := by kernel_rfl


theorem ok21 : PureOk Try.prog 21 go21 := by
  refine pureOk_of (c21 rounds) tt21_ok .nil follows rfl Try.func21 (by kernel_rfl) (by kernel_rfl) ?_ ?_
  · intro R stk args ret
    unfold go21
    split
    · rfl
    · rfl
  · intro args r objs h hr
    unfold go21 at h
    split at h
    · rename_i n
      cases h
      refine ⟨_, ?_, .same⟩
      rw [apure_out]
      rw [f21_eq]
      rfl
    · cases h

def go22 (R : Type) (stk : R) (args : List AV) (ret : AV → List AObj → R) : R :=
  match args with
  | [] => ret (.bool true) []
  | _ => stk

def tt22 : Tab := [(0, ty0), (2, ty2), (3, ty3), (4, ty4), (5, ty5), (9, ty9), (23, ty23), (25, ty25), (42, ty42), (44, ty44)]
theorem tt22_ok : TabOk Try.prog tt22 := tabOk_of_all ⟨ty0_ok, ty2_ok, ty3_ok, ty4_ok, ty5_ok, ty9_ok, ty23_ok, ty25_ok, ty42_ok, ty44_ok, trivial⟩
def c22 (F : Nat) : Cfg := ⟨tt22, [(19, .pure go19), (21, .pure go21)], F, [], [], 0⟩

theorem ok22 : PureOk Try.prog 22 go22 := by
  refine pureOk_of (c22 rounds) tt22_ok (.cons ok19 (.cons ok21 .nil)) follows rfl Try.func22 (by kernel_rfl) (by kernel_rfl) ?_ ?_
  · intro R stk args ret
    unfold go22
    split
    · rfl
    · rfl
  · intro args r objs h hr
    unfold go22 at h
    split at h
    · skip
      cases h
      exact ⟨_, by kernel_rfl, .same⟩
    · cases h

end Go.Proofs.YtdkihlkcnnlkcaaG
