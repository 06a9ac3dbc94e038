/- A part of the proof: plain laws, and what functions of the given program come to; no condition. -/
import Derived.Test.YtmkgmlgklggnlaaSh
import Derived.Test.YtmkgmlgklggnlaaGmYshd
namespace Go.Proofs.YtmkgmlgklggnlaaG
open Go Go.Proofs.YtmkgmlgklggnlaaGm
set_option maxRecDepth 100000
set_option maxHeartbeats 0

def go52 (R : Type) (stk : R) (args : List AV) (ret : AV → List AObj → R) : R :=
  match args with
  | [.arr r, .ro (.bytes x)] => bif Nat.beq r.length 32 && r.all (isInt .u8) && Nat.ble x.length 1000000000000 then ret (.arr (intsA .u8 (shaW (u8of r ++ x)))) [] else stk
  | _ => stk

def tt52 : Tab := [(0, ty0), (3, ty3), (5, ty5), (22, ty22), (39, ty39), (40, ty40), (47, ty47), (52, ty52), (114, ty114)]
theorem tt52_ok : TabOk Try.prog tt52 := tabOk_of_all ⟨ty0_ok, ty3_ok, ty5_ok, ty22_ok, ty39_ok, ty40_ok, ty47_ok, ty52_ok, ty114_ok, trivial⟩
def c52 (F : Nat) : Cfg := ⟨tt52, [(29, .pure go29), (30, .eff go30), (32, .eff go32)], F, [], [(4000002, ⟨[], []⟩)], 0⟩

def b52 (f : Nat → Int) : List UInt8 := u8of (cells32 f)
def m52a (f : Nat → Int) : Hs := eat (([] ++ b52 f).length / 64) firstW ([] ++ b52 f)
def p52a (f : Nat → Int) : List UInt8 := List.drop (64 * (([] ++ b52 f).length / 64)) ([] ++ b52 f)
def m52 (f : Nat → Int) (x : List UInt8) : Hs := eat ((p52a f ++ x).length / 64) (m52a f) (p52a f ++ x)
def p52 (f : Nat → Int) (x : List UInt8) : List UInt8 := List.drop (64 * ((p52a f ++ x).length / 64)) (p52a f ++ x)
def n52 (f : Nat → Int) (x : List UInt8) : Int := IntKind.i64.wrap (IntKind.i64.wrap (0 + ((b52 f).length : Int)) + (x.length : Int))
theorem f52_eq (F : Nat) (f : Nat → Int) (x : List UInt8) : afun (c52 F) Try.f52 [.arr (cells32 f), .ro (.bytes x)] [] =
 bif ((p52a f).length + x.length).ble 70368744177664 then
 bif (p52 f x).length.ble 1099511627776 && (leI 0 (n52 f x) && leI (n52 f x) 1000000000000000000) then
 .ret (.arr (cells32 (endF (m52 f x) (p52 f x) (n52 f x).toNat))) [.dead, .var 52 (cells32 (endF (m52 f x) (p52 f x) (n52 f x).toNat)), .var 114 [.int .u32 (m52 f x).a, .int .u32 (m52 f x).b, .int .u32 (m52 f x).c, .int .u32 (m52 f x).d, .int .u32 (m52 f x).e, .int .u32 (m52 f x).f, .int .u32 (m52 f x).g, .int .u32 (m52 f x).h, .ro (.bytes (p52 f x)), .int .i64 (n52 f x)]]
 else .stuck
 else .stuck := by kernel_rfl

theorem out33 (f : Nat → Int) (A B : AObj) : outR (.ret (.arr (cells32 f)) [.dead, A, B]) = some (.arr (cells32 f), []) := rfl
theorem f52_all (F : Nat) (f : Nat → Int) (x : List UInt8) (hx : x.length ≤ 1000000000000) : outR (afun (c52 F) Try.f52 [.arr (cells32 f), .ro (.bytes x)] []) = some (.arr (intsA .u8 (shaW (b52 f ++ x))), []) := by
  have hb : (b52 f).length = 32 := u8of_len _
  have h1 : m52a f = stH (b52 f) := rfl
  have h2 : p52a f = stR (b52 f) := rfl
  have h3 : m52 f x = stH (b52 f ++ x) := by unfold m52; rw [h1, h2]; exact stH_add _ _
  have h4 : p52 f x = stR (b52 f ++ x) := by unfold p52; rw [h2]; exact stR_add _ _
  have h5 : n52 f x = ((b52 f ++ x).length : Int) := by
    unfold n52
    rw [List.length_append, hb, wrap64 (n := 0 + ((32 : Nat) : Int)) (by decide) (by decide), wrap64 (by omega) (by omega)]; omega
  have l1 := stR_len (b52 f)
  have l2 := stR_len (b52 f ++ x)
  have l3 : (b52 f ++ x).length = 32 + x.length := by rw [List.length_append, hb]
  have e : cells32 (endF (stH (b52 f ++ x)) (stR (b52 f ++ x)) (b52 f ++ x).length) = intsA .u8 (shaW (b52 f ++ x)) := by rw [cells32_eq, endF_W, shaW_end]
  rw [f52_eq, h2, h3, h4, h5, Int.toNat_natCast, bif_pos (by rw [ble_iff]; omega), bif_pos (by rw [Bool.and_eq_true, Bool.and_eq_true, ble_iff, leI_iff, leI_iff]; omega), out33, e]

theorem ok52 : PureOk Try.prog 52 go52 := by
  refine pureOk_of (c52 rounds) tt52_ok (.cons ok29 (.consE ok30 (.consE ok32 .nil))) follows rfl Try.func52 (by kernel_rfl) (by kernel_rfl) ?_ ?_
  · intro R stk args ret
    unfold go52
    split
    · simp only [elim_cond]; rfl
    · rfl
  · intro args r objs h hr
    unfold go52 at h
    split at h
    · rename_i r x
      rcases bif_alt h with ⟨hf0, h⟩ | ⟨hf0, h⟩
      · cases h
        rw [Bool.and_eq_true, Bool.and_eq_true, ble_iff] at hf0
        obtain ⟨f, rfl⟩ : ∃ f, r = cells32 f := ⟨_, cells32_of (Nat.eq_of_beq_eq_true hf0.1.1) hf0.1.2⟩
        refine ⟨_, ?_, .same⟩
        rw [apure_out]
        exact f52_all rounds f x hf0.2
      ·
        cases h
    · cases h

end Go.Proofs.YtmkgmlgklggnlaaG
