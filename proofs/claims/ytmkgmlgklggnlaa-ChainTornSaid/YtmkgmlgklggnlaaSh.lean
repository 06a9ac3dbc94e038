/- A part of the proof: plain laws, and what functions of the given program come to; no condition. -/
import Derived.Test.YtmkgmlgklggnlaaSg
namespace Go.Proofs.YtmkgmlgklggnlaaG
open Go Go.Proofs.YtmkgmlgklggnlaaGm
set_option maxRecDepth 100000
set_option maxHeartbeats 0

def go31 (R : Type) (stk : R) (args : List AV) (hp : List AObj) (ret : AV → List AObj → R) : R :=
  match args, hp with
  | [.ptr 0 0], [.var 114 [.int .u32 h0, .int .u32 h1, .int .u32 h2, .int .u32 h3, .int .u32 h4, .int .u32 h5, .int .u32 h6, .int .u32 h7, .ro (.bytes p), .int .i64 n]] => ret (.int .i64 n) [.var 114 [.int .u32 h0, .int .u32 h1, .int .u32 h2, .int .u32 h3, .int .u32 h4, .int .u32 h5, .int .u32 h6, .int .u32 h7, .ro (.bytes p), .int .i64 n]]
  | [.nilp], [] => ret (.int .i64 0) []
  | _, _ => stk

def go34 (R : Type) (stk : R) (args : List AV) (ret : AV → List AObj → R) : R :=
  match args with
  | [.ro (.bytes b)] => bif Nat.ble b.length 1099511627776 then ret (.arr (intsA .u8 (shaW b))) [] else stk
  | _ => stk

def go28 (R : Type) (stk : R) (args : List AV) (ret : AV → List AObj → R) : R :=
  match args with
  | [] => ret (.bool true) []
  | _ => stk

def tt31 : Tab := [(0, ty0), (2, ty2), (3, ty3), (4, ty4), (5, ty5), (22, ty22), (39, ty39), (40, ty40), (47, ty47), (114, ty114)]
theorem tt31_ok : TabOk Try.prog tt31 := tabOk_of_all ⟨ty0_ok, ty2_ok, ty3_ok, ty4_ok, ty5_ok, ty22_ok, ty39_ok, ty40_ok, ty47_ok, ty114_ok, trivial⟩
def c31 (F : Nat) : Cfg := ⟨tt31, [], F, [], [], 1⟩
theorem f31_eq (F : Nat) (h0 : Int) (h1 : Int) (h2 : Int) (h3 : Int) (h4 : Int) (h5 : Int) (h6 : Int) (h7 : Int) (n : Int) (p : List UInt8) : afun (c31 F) Try.f31 [AV.ptr 0 0] [AObj.var 114 [AV.int .u32 h0, AV.int .u32 h1, AV.int .u32 h2, AV.int .u32 h3, AV.int .u32 h4, AV.int .u32 h5, AV.int .u32 h6, AV.int .u32 h7, AV.ro (Pay.bytes p), AV.int .i64 n]] =
 .ret (AV.int .i64 n) [AObj.var 114 [AV.int .u32 h0, AV.int .u32 h1, AV.int .u32 h2, AV.int .u32 h3, AV.int .u32 h4, AV.int .u32 h5, AV.int .u32 h6, AV.int .u32 h7, AV.ro (Pay.bytes p), AV.int .i64 n]] := by kernel_rfl


def tt34 : Tab := [(0, ty0), (3, ty3), (5, ty5), (22, ty22), (39, ty39), (40, ty40), (47, ty47), (52, ty52), (114, ty114)]
theorem tt34_ok : TabOk Try.prog tt34 := tabOk_of_all ⟨ty0_ok, ty3_ok, ty5_ok, ty22_ok, ty39_ok, ty40_ok, ty47_ok, ty52_ok, ty114_ok, trivial⟩
def c34 (F : Nat) : Cfg := ⟨tt34, [(29, .pure go29), (30, .eff go30), (32, .eff go32)], F, [], [], 0⟩

def tt28 : Tab := [(0, ty0), (3, ty3), (4, ty4), (5, ty5), (22, ty22), (52, ty52)]
theorem tt28_ok : TabOk Try.prog tt28 := tabOk_of_all ⟨ty0_ok, ty3_ok, ty4_ok, ty5_ok, ty22_ok, ty52_ok, trivial⟩
def c28 (F : Nat) : Cfg := ⟨tt28, [(34, .pure go34)], F, [], [], 0⟩

def m34 (b : List UInt8) : Hs := eat (([] ++ b).length / 64) firstW ([] ++ b)
def p34 (b : List UInt8) : List UInt8 := List.drop (64 * (([] ++ b).length / 64)) ([] ++ b)
def n34 (b : List UInt8) : Int := IntKind.i64.wrap (0 + (b.length : Int))
theorem f34_eq (F : Nat) (b : List UInt8) : afun (c34 F) Try.f34 [AV.ro (Pay.bytes b)] [] =
 bif (([] : List UInt8).length + b.length).ble 70368744177664 then
 bif (p34 b).length.ble 1099511627776 && (leI 0 (n34 b) && leI (n34 b) 1000000000000000000) then
 .ret (AV.arr (cells32 (endF (m34 b) (p34 b) (n34 b).toNat))) [AObj.var 52 (cells32 (endF (m34 b) (p34 b) (n34 b).toNat)), .var 114 [.int .u32 (m34 b).a, .int .u32 (m34 b).b, .int .u32 (m34 b).c, .int .u32 (m34 b).d, .int .u32 (m34 b).e, .int .u32 (m34 b).f, .int .u32 (m34 b).g, .int .u32 (m34 b).h, .ro (.bytes (p34 b)), .int .i64 (n34 b)]]
 else
 .stuck
 else
 .stuck := by kernel_rfl

theorem out32 (f : Nat → Int) (A B : AObj) : outR (.ret (.arr (cells32 f)) [A, B]) = some (.arr (cells32 f), []) := rfl
def c31n (F : Nat) : Cfg := { c31 F with h0 := 0 }
theorem f31n_eq (F : Nat) : afun (c31n F) Try.f31 [.nilp] [] = .ret (.int .i64 0) [] := by kernel_rfl
theorem f34_all (F : Nat) (b : List UInt8) (hb : b.length ≤ 1099511627776) : outR (afun (c34 F) Try.f34 [.ro (.bytes b)] []) = some (.arr (intsA .u8 (shaW b)), []) := by
  have e0 : n34 b = (b.length : Int) := by unfold n34; rw [wrap64 (by omega) (by omega)]; omega
  have hd : (p34 b).length = b.length % 64 := stR_len b
  have e : cells32 (endF (m34 b) (p34 b) b.length) = intsA .u8 (shaW b) := by rw [cells32_eq, endF_W]; exact congrArg _ (shaW_end b)
  rw [f34_eq, bif_pos (by rw [ble_iff]; show 0 + b.length ≤ _; omega), e0, Int.toNat_natCast,
    bif_pos (by rw [Bool.and_eq_true, Bool.and_eq_true, ble_iff, leI_iff, leI_iff, hd]; omega), out32, e]

theorem ok31 : EffOk Try.prog 31 go31 := by
  refine effOk_of follows Try.func31 (by kernel_rfl) (by kernel_rfl) ?_ ?_
  · intro R stk args hp k
    unfold go31
    split
    · rfl
    · rfl
    · rfl
  · intro args hp r hp' h hr
    unfold go31 at h
    split at h
    · rename_i h0 h1 h2 h3 h4 h5 h6 h7 p n
      cases h
      refine ⟨c31 rounds, tt31_ok, .nil, ?_⟩
      unfold aeff
      rw [f31_eq]
      rfl
    · skip
      cases h
      refine ⟨c31n rounds, tt31_ok, .nil, ?_⟩
      unfold aeff
      rw [f31n_eq]
      rfl
    · cases h

theorem ok34 : PureOk Try.prog 34 go34 := by
  refine pureOk_of (c34 rounds) tt34_ok (.cons ok29 (.consE ok30 (.consE ok32 .nil))) follows rfl Try.func34 (by kernel_rfl) (by kernel_rfl) ?_ ?_
  · intro R stk args ret
    unfold go34
    split
    · simp only [elim_cond]; rfl
    · rfl
  · intro args r objs h hr
    unfold go34 at h
    split at h
    · rename_i b
      rcases bif_alt h with ⟨hf0, h⟩ | ⟨hf0, h⟩
      · cases h
        refine ⟨_, ?_, .same⟩
        rw [apure_out]
        exact f34_all rounds b (Nat.le_of_ble_eq_true hf0)
      ·
        cases h
    · cases h

def abc : List UInt8 := [97, 98, 99]
def go34b (f : Nat → Int) (R : Type) (stk : R) (args : List AV) (ret : AV → List AObj → R) : R :=
  match args with
  | [.ro (.bytes b)] => bif eqS b abc then ret (.arr (intsA .u8 ((List.range 32).map f))) [] else stk
  | _ => stk
theorem ok34b : PureOk Try.prog 34 (go34b (shaF abc)) := by
  refine ok34.part ?_ ?_
  · intro R stk args ret
    unfold go34b
    split
    · simp only [elim_cond]; rfl
    · rfl
  · intro args r objs h
    unfold go34b at h
    split at h
    · rename_i b
      rcases bif_alt h with ⟨hf, h⟩ | ⟨hf, h⟩
      · cases h
        rw [eqS_iff] at hf
        subst hf
        rw [shaF_W]
        rfl
      · cases h
    · cases h
def c28b (f : Nat → Int) (F : Nat) : Cfg := { c28 F with sg := [(34, .pure (go34b f))] }
theorem f28b_eq (f : Nat → Int) (F : Nat) : afun (c28b f F) Try.f28 [] [] =
 bif eqI (f 0) 186 then bif eqI (f 1) 120 then bif eqI (f 2) 22 then .ret (.bool (eqI (f 3) 191)) [.dead, .var 52 (cells32 f)]
 else .ret (.bool false) [.dead, .var 52 (cells32 f)] else .ret (.bool false) [.dead, .var 52 (cells32 f)] else .ret (.bool false) [.dead, .var 52 (cells32 f)] := by kernel_rfl
theorem abc0 : eqI (shaF abc 0) 186 = true := by kernel_rfl
theorem abc1 : eqI (shaF abc 1) 120 = true := by kernel_rfl
theorem abc2 : eqI (shaF abc 2) 22 = true := by kernel_rfl
theorem abc3 : eqI (shaF abc 3) 191 = true := by kernel_rfl
theorem f28_run (F : Nat) : outR (afun (c28b (shaF abc) F) Try.f28 [] []) = some (.bool true, []) := by
  rw [f28b_eq, abc0, abc1, abc2, abc3]; rfl
theorem ok28 : PureOk Try.prog 28 go28 := by
  refine pureOk_of (c28b (shaF abc) rounds) tt28_ok (.cons ok34b .nil) follows rfl Try.func28 (by kernel_rfl) (by kernel_rfl) ?_ ?_
  · intro R stk args ret
    unfold go28
    split <;> rfl
  · intro args r objs h hr
    unfold go28 at h
    split at h
    · cases h
      refine ⟨_, ?_, .same⟩
      rw [apure_out]
      exact f28_run rounds
    · cases h

end Go.Proofs.YtmkgmlgklggnlaaG
