/- A part of the proof: plain laws, and what functions of the given program come to; no condition. -/
import Derived.Test.YtmkgmlgklggnlaaSc
namespace Go.Proofs.YtmkgmlgklggnlaaG
open Go Go.Proofs.YtmkgmlgklggnlaaGm
set_option maxRecDepth 100000
set_option maxHeartbeats 0

def go29 (R : Type) (stk : R) (args : List AV) (ret : AV → List AObj → R) : R :=
  match args with
  | [] => ret (.ptr 0 0) [.var 114 [.int .u32 firstW.a, .int .u32 firstW.b, .int .u32 firstW.c, .int .u32 firstW.d, .int .u32 firstW.e, .int .u32 firstW.f, .int .u32 firstW.g, .int .u32 firstW.h, .ro (.bytes []), .int .i64 0]]
  | _ => stk

def go30 (R : Type) (stk : R) (args : List AV) (hp : List AObj) (ret : AV → List AObj → R) : R :=
  match args, hp with
  | [.ptr 0 0, .ro (.bytes b)], [.var 114 [.int .u32 h0, .int .u32 h1, .int .u32 h2, .int .u32 h3, .int .u32 h4, .int .u32 h5, .int .u32 h6, .int .u32 h7, .ro (.bytes p), .int .i64 n]] => bif Nat.ble (p.length + b.length) 70368744177664 then ret (.tup []) [.var 114 [.int .u32 (eat ((p ++ b).length / 64) ⟨h0, h1, h2, h3, h4, h5, h6, h7⟩ (p ++ b)).a, .int .u32 (eat ((p ++ b).length / 64) ⟨h0, h1, h2, h3, h4, h5, h6, h7⟩ (p ++ b)).b, .int .u32 (eat ((p ++ b).length / 64) ⟨h0, h1, h2, h3, h4, h5, h6, h7⟩ (p ++ b)).c, .int .u32 (eat ((p ++ b).length / 64) ⟨h0, h1, h2, h3, h4, h5, h6, h7⟩ (p ++ b)).d, .int .u32 (eat ((p ++ b).length / 64) ⟨h0, h1, h2, h3, h4, h5, h6, h7⟩ (p ++ b)).e, .int .u32 (eat ((p ++ b).length / 64) ⟨h0, h1, h2, h3, h4, h5, h6, h7⟩ (p ++ b)).f, .int .u32 (eat ((p ++ b).length / 64) ⟨h0, h1, h2, h3, h4, h5, h6, h7⟩ (p ++ b)).g, .int .u32 (eat ((p ++ b).length / 64) ⟨h0, h1, h2, h3, h4, h5, h6, h7⟩ (p ++ b)).h, .ro (.bytes ((p ++ b).drop (64 * ((p ++ b).length / 64)))), .int .i64 (IntKind.i64.wrap (n + b.length))]] else stk
  | [.nilp, .ro (.bytes b)], [] => ret (.tup []) []
  | _, _ => stk

def tt29 : Tab := [(3, ty3), (5, ty5), (22, ty22), (39, ty39), (40, ty40), (47, ty47), (114, ty114)]
theorem tt29_ok : TabOk Try.prog tt29 := tabOk_of_all ⟨ty3_ok, ty5_ok, ty22_ok, ty39_ok, ty40_ok, ty47_ok, ty114_ok, trivial⟩
def c29 (F : Nat) : Cfg := ⟨tt29, [(71, .pure go71)], F, [], [], 0⟩
theorem f29_eq (F : Nat) : afun (c29 F) Try.f29 [] [] =
 .ret (AV.ptr 0 0) [AObj.var 114 [AV.int .u32 firstW.a, AV.int .u32 firstW.b, AV.int .u32 firstW.c, AV.int .u32 firstW.d, AV.int .u32 firstW.e, AV.int .u32 firstW.f, AV.int .u32 firstW.g, AV.int .u32 firstW.h, AV.nil, AV.int .i64 0]] := by kernel_rfl


def tt30 : Tab := [(0, ty0), (1, ty1), (2, ty2), (3, ty3), (4, ty4), (5, ty5), (22, ty22), (39, ty39), (40, ty40), (41, ty41), (47, ty47), (68, ty68), (114, ty114)]
theorem tt30_ok : TabOk Try.prog tt30 := tabOk_of_all ⟨ty0_ok, ty1_ok, ty2_ok, ty3_ok, ty4_ok, ty5_ok, ty22_ok, ty39_ok, ty40_ok, ty41_ok, ty47_ok, ty68_ok, ty114_ok, trivial⟩
def c30 (F : Nat) : Cfg := ⟨tt30, [(72, .pure go72l), (25, .pure go25)], F, [(0, ⟨[0], []⟩)], [], 1⟩
noncomputable def f30_0 (F k : Nat) (xh0 : Int) (xh0_1 : Int) (xh0_2 : Int) (xh0_3 : Int) (xh0_4 : Int) (xh0_5 : Int) (xh0_6 : Int) (xh0_7 : Int) (xh0_8 : List UInt8) (xh0_9 : Int) : Res := aloop (c30 F) Try.f30 0 [] k (St.mk [AV.ptr 0 0, .top, .top, .top, .top, .top, .top, .top, .top, .top, .top, .top, .top, .top, .top, .top, .top, .top, .top, .top, .top, .top, .top, .top, .top, .top, .top, .top, .top, .top, .top, .top, .top, .top, .top, .top, .top, .top, .top, .top, .top, .top, .top, .top, .top, .top, .top, .top, .top, .top, .top, .top, .top] [AObj.var 114 [AV.int .u32 xh0, AV.int .u32 xh0_1, AV.int .u32 xh0_2, AV.int .u32 xh0_3, AV.int .u32 xh0_4, AV.int .u32 xh0_5, AV.int .u32 xh0_6, AV.int .u32 xh0_7, AV.ro (Pay.bytes xh0_8), AV.int .i64 xh0_9]])
theorem f30_eq (F : Nat) (h0 : Int) (h1 : Int) (h2 : Int) (h3 : Int) (h4 : Int) (h5 : Int) (h6 : Int) (h7 : Int) (n : Int) (p : List UInt8) (b : List UInt8) : afun (c30 F) Try.f30 [AV.ptr 0 0, AV.ro (Pay.bytes b)] [AObj.var 114 [AV.int .u32 h0, AV.int .u32 h1, AV.int .u32 h2, AV.int .u32 h3, AV.int .u32 h4, AV.int .u32 h5, AV.int .u32 h6, AV.int .u32 h7, AV.ro (Pay.bytes p), AV.int .i64 n]] =
 bif okB ([setRange [AV.ro (Pay.bytes [])] 0 [AV.ro (Pay.bytes p)], [AV.ro (Pay.bytes [])]].set (1, Operand.tmp 20).fst (setRange [AV.ro (Pay.bytes [])] 0 [AV.ro (Pay.bytes b)])) && (szB (decB ([setRange [AV.ro (Pay.bytes [])] 0 [AV.ro (Pay.bytes p)], [AV.ro (Pay.bytes [])]].set (1, Operand.tmp 20).fst (setRange [AV.ro (Pay.bytes [])] 0 [AV.ro (Pay.bytes b)])))).ble 70368744177664 then
 f30_0 F F h0 h1 h2 h3 h4 h5 h6 h7 ((decB ([setRange [AV.ro (Pay.bytes [])] 0 [AV.ro (Pay.bytes p)], [AV.ro (Pay.bytes [])]].set (1, Operand.tmp 20).fst (setRange [AV.ro (Pay.bytes [])] 0 [AV.ro (Pay.bytes b)]))).flatten) (IntKind.i64.wrap (n + ↑b.length))
 else
 .stuck := by kernel_rfl
theorem f30_0_eq (F k : Nat) (xh0 : Int) (xh0_1 : Int) (xh0_2 : Int) (xh0_3 : Int) (xh0_4 : Int) (xh0_5 : Int) (xh0_6 : Int) (xh0_7 : Int) (xh0_8 : List UInt8) (xh0_9 : Int) : f30_0 F (k + 1) xh0 xh0_1 xh0_2 xh0_3 xh0_4 xh0_5 xh0_6 xh0_7 xh0_8 xh0_9 =
 bif leI 64 ↑xh0_8.length then
 bif Nat.ble 64 xh0_8.length then
 bif (0 + 64).ble xh0_8.length then
 bif leI 0 64 && leI 64 ↑xh0_8.length && leI ↑xh0_8.length ↑xh0_8.length then
 f30_0 F k ((roundH keysW (Hs.mk xh0 xh0_1 xh0_2 xh0_3 xh0_4 xh0_5 xh0_6 xh0_7) (List.map intOf (spanB xh0_8 0 64))).a) ((roundH keysW (Hs.mk xh0 xh0_1 xh0_2 xh0_3 xh0_4 xh0_5 xh0_6 xh0_7) (List.map intOf (spanB xh0_8 0 64))).b) ((roundH keysW (Hs.mk xh0 xh0_1 xh0_2 xh0_3 xh0_4 xh0_5 xh0_6 xh0_7) (List.map intOf (spanB xh0_8 0 64))).c) ((roundH keysW (Hs.mk xh0 xh0_1 xh0_2 xh0_3 xh0_4 xh0_5 xh0_6 xh0_7) (List.map intOf (spanB xh0_8 0 64))).d) ((roundH keysW (Hs.mk xh0 xh0_1 xh0_2 xh0_3 xh0_4 xh0_5 xh0_6 xh0_7) (List.map intOf (spanB xh0_8 0 64))).e) ((roundH keysW (Hs.mk xh0 xh0_1 xh0_2 xh0_3 xh0_4 xh0_5 xh0_6 xh0_7) (List.map intOf (spanB xh0_8 0 64))).f) ((roundH keysW (Hs.mk xh0 xh0_1 xh0_2 xh0_3 xh0_4 xh0_5 xh0_6 xh0_7) (List.map intOf (spanB xh0_8 0 64))).g) ((roundH keysW (Hs.mk xh0 xh0_1 xh0_2 xh0_3 xh0_4 xh0_5 xh0_6 xh0_7) (List.map intOf (spanB xh0_8 0 64))).h) (List.drop 64 xh0_8) xh0_9
 else
 .stuck
 else
 .stuck
 else
 .stuck
 else
 .ret (AV.tup []) [AObj.var 114 [AV.int .u32 xh0, AV.int .u32 xh0_1, AV.int .u32 xh0_2, AV.int .u32 xh0_3, AV.int .u32 xh0_4, AV.int .u32 xh0_5, AV.int .u32 xh0_6, AV.int .u32 xh0_7, AV.ro (Pay.bytes xh0_8), AV.int .i64 xh0_9]] := by kernel_rfl


def c30n (F : Nat) : Cfg := { c30 F with h0 := 0 }
theorem f30n_eq (F : Nat) (b : List UInt8) : afun (c30n F) Try.f30 [.nilp, .ro (.bytes b)] [] = .ret (.tup []) [] := by kernel_rfl
theorem f30_run (F : Nat) : ∀ (m K : Nat) (s : Hs) (p : List UInt8) (n : Int), p.length / 64 = m → m < K →
    f30_0 F K s.a s.b s.c s.d s.e s.f s.g s.h p n = .ret (.tup []) [.var 114 [.int .u32 (eat m s p).a, .int .u32 (eat m s p).b, .int .u32 (eat m s p).c, .int .u32 (eat m s p).d, .int .u32 (eat m s p).e, .int .u32 (eat m s p).f, .int .u32 (eat m s p).g, .int .u32 (eat m s p).h, .ro (.bytes (p.drop (64 * m))), .int .i64 n]]
  | 0, K + 1, s, p, n, h, _ => by
    rw [f30_0_eq, bif_neg (by rw [leI_iff]; omega)]; rfl
  | m + 1, K + 1, s, p, n, h, hk => by
    rw [f30_0_eq, bif_pos (by rw [leI_iff]; omega), bif_pos (by rw [ble_iff]; omega), bif_pos (by rw [ble_iff]; omega), bif_pos (by simp only [Bool.and_eq_true, leI_iff]; omega), spanB_bI p (by omega)]
    have e := f30_run F m K (roundH keysW s (bI (p.take 64))) (p.drop 64) n (by rw [List.length_drop]; omega) (by omega)
    refine e.trans ?_
    rw [List.drop_drop, show 64 + 64 * m = 64 * (m + 1) by omega]; rfl
theorem f30_all (F : Nat) (hF : 9223372036854775807 < F) (s : Hs) (p b : List UInt8) (n : Int) (h : p.length + b.length ≤ 70368744177664) :
    afun (c30 F) Try.f30 [.ptr 0 0, .ro (.bytes b)] [.var 114 [.int .u32 s.a, .int .u32 s.b, .int .u32 s.c, .int .u32 s.d, .int .u32 s.e, .int .u32 s.f, .int .u32 s.g, .int .u32 s.h, .ro (.bytes p), .int .i64 n]] = .ret (.tup []) [.var 114 [.int .u32 (eat ((p ++ b).length / 64) s (p ++ b)).a, .int .u32 (eat ((p ++ b).length / 64) s (p ++ b)).b, .int .u32 (eat ((p ++ b).length / 64) s (p ++ b)).c, .int .u32 (eat ((p ++ b).length / 64) s (p ++ b)).d, .int .u32 (eat ((p ++ b).length / 64) s (p ++ b)).e, .int .u32 (eat ((p ++ b).length / 64) s (p ++ b)).f, .int .u32 (eat ((p ++ b).length / 64) s (p ++ b)).g, .int .u32 (eat ((p ++ b).length / 64) s (p ++ b)).h, .ro (.bytes ((p ++ b).drop (64 * ((p ++ b).length / 64)))), .int .i64 (IntKind.i64.wrap (n + b.length))]] := by
  refine (f30_eq F _ _ _ _ _ _ _ _ n p b).trans ?_
  have hs : szB [p, b] = p.length + b.length := by simp [szB]
  rw [bif_pos (by
    show (okB [[AV.ro (.bytes p)], [AV.ro (.bytes b)]] && Nat.ble (szB [p, b]) 70368744177664) = true
    rw [hs, Bool.and_eq_true]; exact ⟨rfl, ble_iff.2 h⟩)]
  show f30_0 F F s.a s.b s.c s.d s.e s.f s.g s.h (([p, b] : List (List UInt8)).flatten) _ = _
  rw [show ([p, b] : List (List UInt8)).flatten = p ++ b by simp]
  exact f30_run F _ F s (p ++ b) _ rfl (by rw [List.length_append]; omega)

theorem ok29 : PureOk Try.prog 29 go29 := by
  refine pureOk_of (c29 rounds) tt29_ok (.cons ok71 .nil) follows rfl Try.func29 (by kernel_rfl) (by kernel_rfl) ?_ ?_
  · intro R stk args ret
    unfold go29
    split
    · rfl
    · rfl
  · intro args r objs h hr
    unfold go29 at h
    split at h
    · rename_i a
      cases h
      refine ⟨_, ?_, .var (.same (.same (.same (.same (.same (.same (.same (.same (.empty (p := .bytes []) rfl (.same .nil))))))))))⟩
      rw [apure_out, f29_eq]
      rfl
    · cases h

theorem ok30 : EffOk Try.prog 30 go30 := by
  refine effOk_of follows Try.func30 (by kernel_rfl) (by kernel_rfl) ?_ ?_
  · intro R stk args hp k
    unfold go30
    split
    · simp only [elim_cond]; rfl
    · rfl
    · rfl
  · intro args hp r hp' h hr
    unfold go30 at h
    split at h
    · rename_i b h0 h1 h2 h3 h4 h5 h6 h7 p n
      rcases bif_alt h with ⟨hf, h⟩ | ⟨hf, h⟩
      · cases h
        refine ⟨c30 rounds, tt30_ok, .cons ok72l (.cons ok25 .nil), ?_⟩
        unfold aeff
        have e := f30_all rounds big ⟨h0, h1, h2, h3, h4, h5, h6, h7⟩ p b n (Nat.le_of_ble_eq_true hf)
        have e2 : afun (c30 rounds) Try.f30 [.ptr 0 0, .ro (.bytes b)] [.var 114 [.int .u32 h0, .int .u32 h1, .int .u32 h2, .int .u32 h3, .int .u32 h4, .int .u32 h5, .int .u32 h6, .int .u32 h7, .ro (.bytes p), .int .i64 n]] = _ := e
        rw [e2]
        rfl
      · cases h
    · rename_i b
      cases h
      refine ⟨c30n rounds, tt30_ok, .cons ok72l (.cons ok25 .nil), ?_⟩
      unfold aeff
      rw [f30n_eq]
      rfl
    · cases h

end Go.Proofs.YtmkgmlgklggnlaaG
