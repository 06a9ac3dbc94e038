/- A part of the proof: plain laws, and what functions of the given program come to; no condition. -/
import Derived.Test.YtjdojmjkldpgnaaDoorSc
namespace Go.Proofs.YtjdojmjkldpgnaaDoorG
open Go Go.Proofs.YtjdojmjkldpgnaaDoorGm
set_option maxRecDepth 100000
set_option maxHeartbeats 0

def go79 (R : Type) (stk : R) (args : List AV) (ret : AV → List AObj → R) : R :=
  match args with
  | [] => ret (.ptr 0 0) [.var 177 [.int .u32 firstW.a, .int .u32 firstW.b, .int .u32 firstW.c, .int .u32 firstW.d, .int .u32 firstW.e, .int .u32 firstW.f, .int .u32 firstW.g, .int .u32 firstW.h, .ro (.bytes []), .int .i64 0]]
  | _ => stk

def go80 (R : Type) (stk : R) (args : List AV) (hp : List AObj) (ret : AV → List AObj → R) : R :=
  match args, hp with
  | [.ptr 0 0, .ro (.bytes b)], [.var 177 [.int .u32 h0, .int .u32 h1, .int .u32 h2, .int .u32 h3, .int .u32 h4, .int .u32 h5, .int .u32 h6, .int .u32 h7, .ro (.bytes p), .int .i64 n]] => bif Nat.ble (p.length + b.length) 70368744177664 then ret (.tup []) [.var 177 [.int .u32 (eat ((p ++ b).length / 64) ⟨h0, h1, h2, h3, h4, h5, h6, h7⟩ (p ++ b)).a, .int .u32 (eat ((p ++ b).length / 64) ⟨h0, h1, h2, h3, h4, h5, h6, h7⟩ (p ++ b)).b, .int .u32 (eat ((p ++ b).length / 64) ⟨h0, h1, h2, h3, h4, h5, h6, h7⟩ (p ++ b)).c, .int .u32 (eat ((p ++ b).length / 64) ⟨h0, h1, h2, h3, h4, h5, h6, h7⟩ (p ++ b)).d, .int .u32 (eat ((p ++ b).length / 64) ⟨h0, h1, h2, h3, h4, h5, h6, h7⟩ (p ++ b)).e, .int .u32 (eat ((p ++ b).length / 64) ⟨h0, h1, h2, h3, h4, h5, h6, h7⟩ (p ++ b)).f, .int .u32 (eat ((p ++ b).length / 64) ⟨h0, h1, h2, h3, h4, h5, h6, h7⟩ (p ++ b)).g, .int .u32 (eat ((p ++ b).length / 64) ⟨h0, h1, h2, h3, h4, h5, h6, h7⟩ (p ++ b)).h, .ro (.bytes ((p ++ b).drop (64 * ((p ++ b).length / 64)))), .int .i64 (IntKind.i64.wrap (n + b.length))]] else stk
  | [.nilp, .ro (.bytes b)], [] => ret (.tup []) []
  | _, _ => stk

def tt79 : Tab := [(3, ty3), (5, ty5), (33, ty33), (74, ty74), (75, ty75), (130, ty130), (177, ty177)]
theorem tt79_ok : TabOk Tryd.prog tt79 := tabOk_of_all ⟨ty3_ok, ty5_ok, ty33_ok, ty74_ok, ty75_ok, ty130_ok, ty177_ok, trivial⟩
def c79 (F : Nat) : Cfg := ⟨tt79, [(120, .pure go120)], F, [], [], 0⟩
theorem f79_eq (F : Nat) : afun (c79 F) Tryd.f79 [] [] =
  .ret (AV.ptr 0 0) [AObj.var 177 [AV.int IntKind.u32 firstW.a, AV.int IntKind.u32 firstW.b, AV.int IntKind.u32 firstW.c, AV.int IntKind.u32 firstW.d, AV.int IntKind.u32 firstW.e, AV.int IntKind.u32 firstW.f, AV.int IntKind.u32 firstW.g, AV.int IntKind.u32 firstW.h, AV.nil, AV.int IntKind.i64 0]] := by kernel_rfl


def tt80 : Tab := [(0, ty0), (1, ty1), (2, ty2), (3, ty3), (4, ty4), (5, ty5), (33, ty33), (74, ty74), (75, ty75), (179, ty179), (130, ty130), (202, ty202), (177, ty177)]
theorem tt80_ok : TabOk Tryd.prog tt80 := tabOk_of_all ⟨ty0_ok, ty1_ok, ty2_ok, ty3_ok, ty4_ok, ty5_ok, ty33_ok, ty74_ok, ty75_ok, ty179_ok, ty130_ok, ty202_ok, ty177_ok, trivial⟩
def c80 (F : Nat) : Cfg := ⟨tt80, [(106, .pure go72l), (121, .pure go121)], F, [(0, ⟨[0], []⟩)], [], 1⟩
noncomputable def f80_0 (F k : Nat) (xh0 : Int) (xh0_1 : Int) (xh0_2 : Int) (xh0_3 : Int) (xh0_4 : Int) (xh0_5 : Int) (xh0_6 : Int) (xh0_7 : Int) (xh0_8 : List UInt8) (xh0_9 : Int) : Res := aloop (c80 F) Tryd.f80 0 [] k (St.mk [AV.ptr 0 0, AV.top, AV.top, AV.top, AV.top, AV.top, AV.top, AV.top, AV.top, AV.top, AV.top, AV.top, AV.top, AV.top, AV.top, AV.top, AV.top, AV.top, AV.top, AV.top, AV.top, AV.top, AV.top, AV.top, AV.top, AV.top, AV.top, AV.top, AV.top, AV.top, AV.top, AV.top, AV.top, AV.top, AV.top, AV.top, AV.top, AV.top, AV.top, AV.top, AV.top, AV.top, AV.top, AV.top, AV.top, AV.top, AV.top, AV.top, AV.top, AV.top, AV.top, AV.top, AV.top] [AObj.var 177 [AV.int IntKind.u32 xh0, AV.int IntKind.u32 xh0_1, AV.int IntKind.u32 xh0_2, AV.int IntKind.u32 xh0_3, AV.int IntKind.u32 xh0_4, AV.int IntKind.u32 xh0_5, AV.int IntKind.u32 xh0_6, AV.int IntKind.u32 xh0_7, AV.ro (Pay.bytes xh0_8), AV.int IntKind.i64 xh0_9]])
theorem f80_eq (F : Nat) (h0 : Int) (h1 : Int) (h2 : Int) (h3 : Int) (h4 : Int) (h5 : Int) (h6 : Int) (h7 : Int) (n : Int) (p : List UInt8) (b : List UInt8) : afun (c80 F) Tryd.f80 [AV.ptr 0 0, AV.ro (Pay.bytes b)] [AObj.var 177 [AV.int IntKind.u32 h0, AV.int IntKind.u32 h1, AV.int IntKind.u32 h2, AV.int IntKind.u32 h3, AV.int IntKind.u32 h4, AV.int IntKind.u32 h5, AV.int IntKind.u32 h6, AV.int IntKind.u32 h7, AV.ro (Pay.bytes p), AV.int IntKind.i64 n]] =
  bif okB ([setRange [AV.ro (Pay.bytes [])] 0 [AV.ro (Pay.bytes p)], [AV.ro (Pay.bytes [])]].set (1, Operand.tmp 20).fst (setRange [AV.ro (Pay.bytes [])] 0 [AV.ro (Pay.bytes b)])) && (szB (decB ([setRange [AV.ro (Pay.bytes [])] 0 [AV.ro (Pay.bytes p)], [AV.ro (Pay.bytes [])]].set (1, Operand.tmp 20).fst (setRange [AV.ro (Pay.bytes [])] 0 [AV.ro (Pay.bytes b)])))).ble 70368744177664 then
    f80_0 F F h0 h1 h2 h3 h4 h5 h6 h7 ((decB ([setRange [AV.ro (Pay.bytes [])] 0 [AV.ro (Pay.bytes p)], [AV.ro (Pay.bytes [])]].set (1, Operand.tmp 20).fst (setRange [AV.ro (Pay.bytes [])] 0 [AV.ro (Pay.bytes b)]))).flatten) (IntKind.i64.wrap (n + ↑b.length))
  else
    .stuck := by kernel_rfl
theorem f80_0_eq (F k : Nat) (xh0 : Int) (xh0_1 : Int) (xh0_2 : Int) (xh0_3 : Int) (xh0_4 : Int) (xh0_5 : Int) (xh0_6 : Int) (xh0_7 : Int) (xh0_8 : List UInt8) (xh0_9 : Int) : f80_0 F (k + 1) xh0 xh0_1 xh0_2 xh0_3 xh0_4 xh0_5 xh0_6 xh0_7 xh0_8 xh0_9 =
  bif leI 64 ↑xh0_8.length then
    bif Nat.ble 64 xh0_8.length then
      bif (0 + 64).ble xh0_8.length then
        bif leI 0 64 && leI 64 ↑xh0_8.length && leI ↑xh0_8.length ↑xh0_8.length then
          f80_0 F k ((roundH keysW (Hs.mk xh0 xh0_1 xh0_2 xh0_3 xh0_4 xh0_5 xh0_6 xh0_7) (List.map intOf (spanB xh0_8 0 64))).a) ((roundH keysW (Hs.mk xh0 xh0_1 xh0_2 xh0_3 xh0_4 xh0_5 xh0_6 xh0_7) (List.map intOf (spanB xh0_8 0 64))).b) ((roundH keysW (Hs.mk xh0 xh0_1 xh0_2 xh0_3 xh0_4 xh0_5 xh0_6 xh0_7) (List.map intOf (spanB xh0_8 0 64))).c) ((roundH keysW (Hs.mk xh0 xh0_1 xh0_2 xh0_3 xh0_4 xh0_5 xh0_6 xh0_7) (List.map intOf (spanB xh0_8 0 64))).d) ((roundH keysW (Hs.mk xh0 xh0_1 xh0_2 xh0_3 xh0_4 xh0_5 xh0_6 xh0_7) (List.map intOf (spanB xh0_8 0 64))).e) ((roundH keysW (Hs.mk xh0 xh0_1 xh0_2 xh0_3 xh0_4 xh0_5 xh0_6 xh0_7) (List.map intOf (spanB xh0_8 0 64))).f) ((roundH keysW (Hs.mk xh0 xh0_1 xh0_2 xh0_3 xh0_4 xh0_5 xh0_6 xh0_7) (List.map intOf (spanB xh0_8 0 64))).g) ((roundH keysW (Hs.mk xh0 xh0_1 xh0_2 xh0_3 xh0_4 xh0_5 xh0_6 xh0_7) (List.map intOf (spanB xh0_8 0 64))).h) (List.drop 64 xh0_8) xh0_9
        else
          .stuck
      else
        .stuck
    else
      .stuck
  else
    .ret (AV.tup []) [AObj.var 177 [AV.int IntKind.u32 xh0, AV.int IntKind.u32 xh0_1, AV.int IntKind.u32 xh0_2, AV.int IntKind.u32 xh0_3, AV.int IntKind.u32 xh0_4, AV.int IntKind.u32 xh0_5, AV.int IntKind.u32 xh0_6, AV.int IntKind.u32 xh0_7, AV.ro (Pay.bytes xh0_8), AV.int IntKind.i64 xh0_9]] := by kernel_rfl


def c30n (F : Nat) : Cfg := { c80 F with h0 := 0 }
theorem f30n_eq (F : Nat) (b : List UInt8) : afun (c30n F) Tryd.f80 [.nilp, .ro (.bytes b)] [] = .ret (.tup []) [] := by kernel_rfl
theorem f80_run (F : Nat) : ∀ (m K : Nat) (s : Hs) (p : List UInt8) (n : Int), p.length / 64 = m → m < K →
    f80_0 F K s.a s.b s.c s.d s.e s.f s.g s.h p n = .ret (.tup []) [.var 177 [.int .u32 (eat m s p).a, .int .u32 (eat m s p).b, .int .u32 (eat m s p).c, .int .u32 (eat m s p).d, .int .u32 (eat m s p).e, .int .u32 (eat m s p).f, .int .u32 (eat m s p).g, .int .u32 (eat m s p).h, .ro (.bytes (p.drop (64 * m))), .int .i64 n]]
  | 0, K + 1, s, p, n, h, _ => by
    rw [f80_0_eq, bif_neg (by rw [leI_iff]; omega)]; rfl
  | m + 1, K + 1, s, p, n, h, hk => by
    rw [f80_0_eq, bif_pos (by rw [leI_iff]; omega), bif_pos (by rw [ble_iff]; omega), bif_pos (by rw [ble_iff]; omega), bif_pos (by simp only [Bool.and_eq_true, leI_iff]; omega), spanB_bI p (by omega)]
    have e := f80_run F m K (roundH keysW s (bI (p.take 64))) (p.drop 64) n (by rw [List.length_drop]; omega) (by omega)
    refine e.trans ?_
    rw [List.drop_drop, show 64 + 64 * m = 64 * (m + 1) by omega]; rfl
theorem f80_all (F : Nat) (hF : 9223372036854775807 < F) (s : Hs) (p b : List UInt8) (n : Int) (h : p.length + b.length ≤ 70368744177664) :
    afun (c80 F) Tryd.f80 [.ptr 0 0, .ro (.bytes b)] [.var 177 [.int .u32 s.a, .int .u32 s.b, .int .u32 s.c, .int .u32 s.d, .int .u32 s.e, .int .u32 s.f, .int .u32 s.g, .int .u32 s.h, .ro (.bytes p), .int .i64 n]] = .ret (.tup []) [.var 177 [.int .u32 (eat ((p ++ b).length / 64) s (p ++ b)).a, .int .u32 (eat ((p ++ b).length / 64) s (p ++ b)).b, .int .u32 (eat ((p ++ b).length / 64) s (p ++ b)).c, .int .u32 (eat ((p ++ b).length / 64) s (p ++ b)).d, .int .u32 (eat ((p ++ b).length / 64) s (p ++ b)).e, .int .u32 (eat ((p ++ b).length / 64) s (p ++ b)).f, .int .u32 (eat ((p ++ b).length / 64) s (p ++ b)).g, .int .u32 (eat ((p ++ b).length / 64) s (p ++ b)).h, .ro (.bytes ((p ++ b).drop (64 * ((p ++ b).length / 64)))), .int .i64 (IntKind.i64.wrap (n + b.length))]] := by
  refine (f80_eq F _ _ _ _ _ _ _ _ n p b).trans ?_
  have hs : szB [p, b] = p.length + b.length := by simp [szB]
  rw [bif_pos (by
    show (okB [[AV.ro (.bytes p)], [AV.ro (.bytes b)]] && Nat.ble (szB [p, b]) 70368744177664) = true
    rw [hs, Bool.and_eq_true]; exact ⟨rfl, ble_iff.2 h⟩)]
  show f80_0 F F s.a s.b s.c s.d s.e s.f s.g s.h (([p, b] : List (List UInt8)).flatten) _ = _
  rw [show ([p, b] : List (List UInt8)).flatten = p ++ b by simp]
  exact f80_run F _ F s (p ++ b) _ rfl (by rw [List.length_append]; omega)

theorem ok79 : PureOk Tryd.prog 79 go79 := by
  refine pureOk_of (c79 rounds) tt79_ok (.cons ok120 .nil) follows rfl Tryd.func79 (by kernel_rfl) (by kernel_rfl) ?_ ?_
  · intro R stk args ret
    unfold go79
    split
    · rfl
    · rfl
  · intro args r objs h hr
    unfold go79 at h
    split at h
    · rename_i a
      cases h
      refine ⟨_, ?_, .var (.same (.same (.same (.same (.same (.same (.same (.same (.empty (p := .bytes []) rfl (.same .nil))))))))))⟩
      rw [apure_out, f79_eq]
      rfl
    · cases h

theorem ok80 : EffOk Tryd.prog 80 go80 := by
  refine effOk_of follows Tryd.func80 (by kernel_rfl) (by kernel_rfl) ?_ ?_
  · intro R stk args hp k
    unfold go80
    split
    · simp only [elim_cond]; rfl
    · rfl
    · rfl
  · intro args hp r hp' h hr
    unfold go80 at h
    split at h
    · rename_i b h0 h1 h2 h3 h4 h5 h6 h7 p n
      rcases bif_alt h with ⟨hf, h⟩ | ⟨hf, h⟩
      · cases h
        refine ⟨c80 rounds, tt80_ok, .cons ok72l (.cons ok121 .nil), ?_⟩
        unfold aeff
        have e := f80_all rounds big ⟨h0, h1, h2, h3, h4, h5, h6, h7⟩ p b n (Nat.le_of_ble_eq_true hf)
        have e2 : afun (c80 rounds) Tryd.f80 [.ptr 0 0, .ro (.bytes b)] [.var 177 [.int .u32 h0, .int .u32 h1, .int .u32 h2, .int .u32 h3, .int .u32 h4, .int .u32 h5, .int .u32 h6, .int .u32 h7, .ro (.bytes p), .int .i64 n]] = _ := e
        rw [e2]
        rfl
      · cases h
    · rename_i b
      cases h
      refine ⟨c30n rounds, tt80_ok, .cons ok72l (.cons ok121 .nil), ?_⟩
      unfold aeff
      rw [f30n_eq]
      rfl
    · cases h

end Go.Proofs.YtjdojmjkldpgnaaDoorG
