/- A part of the proof: plain laws, and what functions of the given program come to; no condition. -/
import Derived.Test.YtmkgmlgklggnlaaCa
import Derived.Test.YtmkgmlgklggnlaaGmYshb
namespace Go.Proofs.YtmkgmlgklggnlaaG
open Go Go.Proofs.YtmkgmlgklggnlaaGm
set_option maxRecDepth 100000
set_option maxHeartbeats 0

def tt61 : Tab := [(0, ty0), (3, ty3), (4, ty4), (5, ty5), (22, ty22), (52, ty52), (52, ty52)]
theorem tt61_ok : TabOk Try.prog tt61 := tabOk_of_all ⟨ty0_ok, ty3_ok, ty4_ok, ty5_ok, ty22_ok, ty52_ok, ty52_ok, trivial⟩
def c61 (F : Nat) : Cfg := ⟨tt61, [], F, [(0, ⟨[0, 2, 3, 4], []⟩)], [], 0⟩
noncomputable def f61_0 (F k : Nat) (x0 : List UInt8) (x4 : Int) (xh0 : List Int) (xh1 : List Int) : Res := aloop (c61 F) Try.f61 0 [] k (St.mk [AV.ro (Pay.bytes x0), .top, AV.ptr 0 0, AV.ptr 1 0, AV.int .i64 x4, .top, .top, .top, .top, .top, .top, .top, .top, .top, .top, .top] [AObj.vara 52 .u8 xh0, AObj.vara 52 .u8 xh1])
theorem f61_eq (F : Nat) (a0 : List UInt8) : afun (c61 F) Try.f61 [AV.ro (Pay.bytes a0)] [] =
 f61_0 F F a0 0 (List.replicate 32 0) (List.replicate 32 0) := by kernel_rfl
theorem f61_0_eq (F k : Nat) (x0 : List UInt8) (x4 : Int) (xh0 : List Int) (xh1 : List Int) : f61_0 F (k + 1) x0 x4 xh0 xh1 =
 bif ltI x4 32 then
 bif inB x4 x0.length then
 bif inB x4 32 then
 bif (0 + x4.toNat * 1).blt xh1.length then
 f61_0 F k x0 (IntKind.i64.wrap (x4 + 1)) xh0 (xh1.set (0 + x4.toNat * 1) ↑(x0.getD x4.toNat 0).toNat)
 else
 .stuck
 else
 .stuck
 else
 .stuck
 else
 bif Nat.beq 32 xh1.length then
 bif (List.map (AV.int .u8) xh1).length.beq 32 then
 bif (List.map (AV.int .u8) xh1).length.beq xh0.length && (List.map (AV.int .u8) xh1).all (isInt .u8) then
 resEnd (bif Nat.beq 32 (List.map intOf (List.map (AV.int .u8) xh1)).length then some (AV.arr (List.map (AV.int .u8) (List.map intOf (List.map (AV.int .u8) xh1)))) else none) [AObj.vara 52 .u8 (List.map intOf (List.map (AV.int .u8) xh1)), AObj.vara 52 .u8 xh1]
 else
 .stuck
 else
 .stuck
 else
 .stuck := by kernel_rfl


theorem set_mid {α : Type} (a b : List α) (z v : α) : (a ++ z :: b).set a.length v = a ++ v :: b := by induction a with
  | nil => rfl
  | cons x a ih => simp [ih]
theorem maps_back (w : List Int) : List.map intOf (List.map (AV.int .u8) w) = w := by rw [List.map_map]; exact List.map_id'' (fun _ => rfl) w
theorem f61_run (F : Nat) (l : Txt) (h : 32 ≤ l.length) : ∀ (d i k : Nat), i + d = 32 → d < k →
    outR (f61_0 F k l (i : Int) (List.replicate 32 0) ((List.range i).map (fun j => ((l.getD j 0).toNat : Int)) ++ List.replicate d 0)) = some (.arr (spanB l 0 32), [])
  | d, i, 0, hi, hk => by omega
  | 0, i, k + 1, hi, hk => by
    obtain rfl : i = 32 := by omega
    have e : (List.range 32).map (fun j => ((l.getD j 0).toNat : Int)) ++ List.replicate 0 0 = (List.range 32).map (fun j => ((l.getD j 0).toNat : Int)) := by simp
    rw [f61_0_eq, bif_neg (by rw [ltI_iff]; omega), e]
    generalize hw : (List.range 32).map (fun j => ((l.getD j 0).toNat : Int)) = w
    have hl : w.length = 32 := by rw [← hw]; simp
    have hm : (List.map (AV.int .u8) w).length = 32 := by rw [List.length_map, hl]
    have hz : (List.replicate 32 (0 : Int)).length = 32 := by simp
    have ha : (List.map (AV.int .u8) w).all (isInt .u8) = true := intsA_is .u8 w
    rw [maps_back, hl, hm, hz, ha]
    subst hw
    rfl
  | d + 1, i, k + 1, hi, hk => by
    have hlen : ((List.range i).map (fun j => ((l.getD j 0).toNat : Int))).length = i := by simp
    rw [f61_0_eq, bif_pos (ltI_iff.2 (by omega)), bif_pos (inB_iff.2 ⟨by omega, by omega⟩), bif_pos (inB_iff.2 ⟨by omega, by omega⟩), Int.toNat_natCast, show 0 + i * 1 = i by omega,
      bif_pos (by rw [blt_iff]; simp), wrap64 (by omega) (by omega), show ((i : Int) + 1) = ((i + 1 : Nat) : Int) by omega]
    have e : ((List.range i).map (fun j => ((l.getD j 0).toNat : Int)) ++ List.replicate (d + 1) 0).set i ((l.getD i 0).toNat : Int) = (List.range (i + 1)).map (fun j => ((l.getD j 0).toNat : Int)) ++ List.replicate d 0 := by
      have key : ∀ (a R : List Int) (v : Int), a.length = i → (a ++ 0 :: R).set i v = a ++ v :: R := by rintro a R v rfl; exact set_mid _ _ _ _
      rw [List.replicate_succ, key _ _ _ hlen]
      rw [List.range_succ, List.map_append, List.append_assoc]
      rfl
    rw [e]
    exact f61_run F l h d (i + 1) k (by omega) (by omega)
theorem f61_all (F : Nat) (l : Txt) (h : 32 ≤ l.length) (hF : 9223372036854775807 < F) : outR (afun (c61 F) Try.f61 [.ro (.bytes l)] []) = some (.arr (spanB l 0 32), []) := by
  rw [f61_eq]
  exact f61_run F l h 32 0 F rfl (by omega)
theorem ok61 : PureOk Try.prog 61 go61 := by
  refine pureOk_of (c61 rounds) tt61_ok .nil follows rfl Try.func61 (by kernel_rfl) (by kernel_rfl) ?_ ?_
  · intro R stk args ret
    unfold go61
    split
    · simp only [elim_cond]; rfl
    · rfl
  · intro args r objs h hr
    unfold go61 at h
    split at h
    · rename_i l
      rcases bif_alt h with ⟨hf0, h⟩ | ⟨hf0, h⟩
      · cases h
        rw [ble_iff] at hf0
        refine ⟨_, ?_, .same⟩
        rw [apure_out]
        exact f61_all rounds l hf0 big
      ·
        cases h
    · cases h

end Go.Proofs.YtmkgmlgklggnlaaG
