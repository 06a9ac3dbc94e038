/- A part of the proof: plain laws, and what functions of the given program come to; no condition. -/
import Derived.Test.YtmkgmlgklggnlaaRd
import Derived.Test.YtmkgmlgklggnlaaGmYcht
namespace Go.Proofs.YtmkgmlgklggnlaaG
open Go Go.Proofs.YtmkgmlgklggnlaaGm
set_option maxRecDepth 100000
set_option maxHeartbeats 1000000

def go57 (R : Type) (stk : R) (args : List AV) (ret : AV → List AObj → R) : R :=
  match args with
  | [.ro (.bytes b), .arr r, .agg [.int .i64 k, .int .i64 a, .int .i64 m, .int .i64 c, .ro (.rows 32 x)]] =>
    bif okH r && Nat.ble b.length 1000000 then (bif !(rightE k a m c x.length) then ret (.tup [.nil, .arr r, .int .i64 3]) [] else bif okS x then ret (.tup [.own 0, .arr (cells32 (nxF r (encE k a m c x))), .int .i64 0]) [.arr 5 (.bytes (b ++ encF (encE k a m c x ++ hdB (nxF r (encE k a m c x)))))] else stk) else stk
  | _ => stk
def go58 (R : Type) (stk : R) (args : List AV) (ret : AV → List AObj → R) : R :=
  match args with
  | [.ro (.bytes b), .arr r, .agg [.int .i64 k, .int .i64 a, .int .i64 m, .int .i64 c, .ro (.rows 32 x)]] =>
    bif (okH r && Nat.ble b.length 1000000) && (okS x && rightE k a m c x.length) then ret (.tup [.own 0, .arr (cells32 (nxF r (encE k a m c x)))]) [.arr 5 (.bytes (b ++ encF (encE k a m c x ++ hdB (nxF r (encE k a m c x)))))] else stk
  | _ => stk

def tt57 : Tab := [(0, ty0), (3, ty3), (4, ty4), (5, ty5), (22, ty22), (24, ty24), (26, ty26), (27, ty27), (35, ty35), (52, ty52)]
theorem tt57_ok : TabOk Try.prog tt57 := tabOk_of_all ⟨ty0_ok, ty3_ok, ty4_ok, ty5_ok, ty22_ok, ty24_ok, ty26_ok, ty27_ok, ty35_ok, ty52_ok, trivial⟩
def c57 (F : Nat) : Cfg := ⟨tt57, [(20, .pure go20), (52, .pure go52), (47, .pure go47)], F, [], [], 0⟩
theorem f57_eq (F : Nat) (b : List UInt8) (f : Nat → Int) (k : Int) (a : Int) (m : Int) (c : Int) (x : List (List AV)) : afun (c57 F) Try.f57 [AV.ro (Pay.bytes b), AV.arr (cells32 f), AV.agg [AV.int .i64 k, AV.int .i64 a, AV.int .i64 m, AV.int .i64 c, AV.ro (Pay.rows 32 x)]] [] =
 bif !rightE k a m c x.length then
 .ret (AV.tup [AV.nil, AV.arr (cells32 f), AV.int .i64 3]) [AObj.var 52 (cells32 f), AObj.var 26 [AV.int .i64 k, AV.int .i64 a, AV.int .i64 m, AV.int .i64 c, AV.ro (Pay.rows 32 x)], AObj.var 52 (cells32 f)]
 else
 bif okS x then
 bif okH (List.take 32 (List.drop 0 (cells32 f))) && (List.length (encE k a m c x)).ble 1000000000000 then
 bif appFits ty5 (Pay.bytes (encE k a m c x ++ u8of (setRange (List.replicate 32 (AV.int .u8 0)) 0 (cells32 (nxF (List.take 32 (List.drop 0 (cells32 f))) (encE k a m c x)))))) then
 bif Nat.blt 1048576 (encE k a m c x ++ u8of (setRange (List.replicate 32 (AV.int .u8 0)) 0 (cells32 (nxF (List.take 32 (List.drop 0 (cells32 f))) (encE k a m c x))))).length then
 .ret (AV.tup [AV.nil, AV.arr (cells32 (nxF (List.take 32 (List.drop 0 (cells32 f))) (encE k a m c x))), AV.int .i64 5]) [AObj.var 52 (cells32 f), AObj.var 26 [AV.int .i64 k, AV.int .i64 a, AV.int .i64 m, AV.int .i64 c, AV.ro (Pay.rows 32 x)], AObj.var 52 (cells32 (nxF (List.take 32 (List.drop 0 (cells32 f))) (encE k a m c x))), AObj.var 52 (cells32 (nxF (List.take 32 (List.drop 0 (cells32 f))) (encE k a m c x))), AObj.arr 5 (Pay.bytes (encE k a m c x ++ u8of (setRange (List.replicate 32 (AV.int .u8 0)) 0 (cells32 (nxF (List.take 32 (List.drop 0 (cells32 f))) (encE k a m c x))))))]
 else
 bif b.length.ble 35184372088832 then
 .ret (AV.tup [AV.own 2, AV.arr (cells32 (nxF (List.take 32 (List.drop 0 (cells32 f))) (encE k a m c x))), AV.int .i64 0]) [AObj.var 52 (cells32 f), AObj.var 26 [AV.int .i64 k, AV.int .i64 a, AV.int .i64 m, AV.int .i64 c, AV.ro (Pay.rows 32 x)], AObj.arr 5 (Pay.bytes (b ++ encF (encE k a m c x ++ u8of (setRange (List.replicate 32 (AV.int .u8 0)) 0 (cells32 (nxF (List.take 32 (List.drop 0 (cells32 f))) (encE k a m c x))))))), AObj.var 52 (cells32 (nxF (List.take 32 (List.drop 0 (cells32 f))) (encE k a m c x))), AObj.var 52 (cells32 (nxF (List.take 32 (List.drop 0 (cells32 f))) (encE k a m c x))), AObj.arr 5 (Pay.bytes (encE k a m c x ++ u8of (setRange (List.replicate 32 (AV.int .u8 0)) 0 (cells32 (nxF (List.take 32 (List.drop 0 (cells32 f))) (encE k a m c x))))))]
 else
 .stuck
 else
 .stuck
 else
 .stuck
 else
 .stuck := by kernel_rfl

def tt58 : Tab := [(0, ty0), (3, ty3), (5, ty5), (22, ty22), (24, ty24), (26, ty26), (52, ty52)]
theorem tt58_ok : TabOk Try.prog tt58 := tabOk_of_all ⟨ty0_ok, ty3_ok, ty5_ok, ty22_ok, ty24_ok, ty26_ok, ty52_ok, trivial⟩
def c58 (F : Nat) : Cfg := ⟨tt58, [(24, .pure go24), (53, .pure go53), (86, .pure go86), (48, .pure go48)], F, [], [], 0⟩
theorem f58_eq (F : Nat) (b : List UInt8) (f : Nat → Int) (k : Int) (a : Int) (m : Int) (c : Int) (x : List (List AV)) : afun (c58 F) Try.f58 [AV.ro (Pay.bytes b), AV.arr (cells32 f), AV.agg [AV.int .i64 k, AV.int .i64 a, AV.int .i64 m, AV.int .i64 c, AV.ro (Pay.rows 32 x)]] [] =
 bif okS x && rightE k a m c x.length then
 bif okH (List.take 32 (List.drop 0 (cells32 f))) && (List.length (encE k a m c x)).ble 1000000000000 then
 bif appFits ty5 (Pay.bytes (List.replicate 0 0 ++ b)) then
 bif okH (List.take 32 (List.drop 0 (setRange (List.replicate 32 (AV.int .u8 0)) 0 (cells32 (nxF (List.take 32 (List.drop 0 (cells32 f))) (encE k a m c x)))))) then
 bif appFits ty5 (Pay.bytes (encE k a m c x ++ u8of (List.take 32 (List.drop 0 (setRange (List.replicate 32 (AV.int .u8 0)) 0 (cells32 (nxF (List.take 32 (List.drop 0 (cells32 f))) (encE k a m c x)))))))) then
 bif (encE k a m c x ++ u8of (List.take 32 (List.drop 0 (setRange (List.replicate 32 (AV.int .u8 0)) 0 (cells32 (nxF (List.take 32 (List.drop 0 (cells32 f))) (encE k a m c x))))))).length.ble 35184372088832 then
 bif appFits ty5 (Pay.bytes (List.replicate 0 0 ++ b ++ encF (encE k a m c x ++ u8of (List.take 32 (List.drop 0 (setRange (List.replicate 32 (AV.int .u8 0)) 0 (cells32 (nxF (List.take 32 (List.drop 0 (cells32 f))) (encE k a m c x))))))))) then
 .ret (AV.tup [AV.own 2, AV.arr (cells32 (nxF (List.take 32 (List.drop 0 (cells32 f))) (encE k a m c x)))]) [AObj.var 52 (cells32 f), AObj.var 26 [AV.int .i64 k, AV.int .i64 a, AV.int .i64 m, AV.int .i64 c, AV.ro (Pay.rows 32 x)], AObj.arr 5 (Pay.bytes (List.replicate 0 0 ++ b ++ encF (encE k a m c x ++ u8of (List.take 32 (List.drop 0 (setRange (List.replicate 32 (AV.int .u8 0)) 0 (cells32 (nxF (List.take 32 (List.drop 0 (cells32 f))) (encE k a m c x))))))))), AObj.var 52 (cells32 (nxF (List.take 32 (List.drop 0 (cells32 f))) (encE k a m c x))), AObj.var 52 (cells32 (nxF (List.take 32 (List.drop 0 (cells32 f))) (encE k a m c x))), AObj.arr 5 (Pay.bytes (u8of (List.take 32 (List.drop 0 (setRange (List.replicate 32 (AV.int .u8 0)) 0 (cells32 (nxF (List.take 32 (List.drop 0 (cells32 f))) (encE k a m c x)))))))), AObj.arr 5 (Pay.bytes (encE k a m c x ++ u8of (List.take 32 (List.drop 0 (setRange (List.replicate 32 (AV.int .u8 0)) 0 (cells32 (nxF (List.take 32 (List.drop 0 (cells32 f))) (encE k a m c x)))))))), AObj.arr 5 (Pay.bytes (encF (encE k a m c x ++ u8of (List.take 32 (List.drop 0 (setRange (List.replicate 32 (AV.int .u8 0)) 0 (cells32 (nxF (List.take 32 (List.drop 0 (cells32 f))) (encE k a m c x)))))))))]
 else
 .stuck
 else
 .stuck
 else
 .stuck
 else
 .stuck
 else
 .stuck
 else
 .stuck
 else
 .stuck := by kernel_rfl


theorem enc_small {k a m c : Int} {x : List (List AV)} (h : rightE k a m c x.length = true) (hx : okS x = true) : (encE k a m c x).length ≤ 200 := by
  have hl := rightE_len h
  have hs := sumsB_len hx
  have he := encN_len [k, a, m, c]
  rw [show [k, a, m, c].length = 4 from rfl] at he
  unfold encE
  rw [List.length_append]
  omega
theorem dat_small {k a m c : Int} {x : List (List AV)} {f : Nat → Int} (h : rightE k a m c x.length = true) (hx : okS x = true) : (encE k a m c x ++ hdB f).length ≤ 232 := by
  have := enc_small h hx
  rw [List.length_append, hdB_len]
  omega
theorem u8of_cells (f : Nat → Int) : u8of (cells32 f) = hdB f := rfl
theorem ok57 : PureOk Try.prog 57 go57 := by
  refine pureOk_of (c57 rounds) tt57_ok (.cons ok20 (.cons ok52 (.cons ok47 .nil))) follows rfl Try.func57 (by kernel_rfl) (by kernel_rfl) ?_ ?_
  · intro R stk args ret
    unfold go57
    split
    · simp only [elim_cond]; rfl
    · rfl
  · intro args r objs h hr
    unfold go57 at h
    split at h
    · rename_i b r k a m c x
      rcases bif_alt h with ⟨hf0, h⟩ | ⟨hf0, h⟩
      · rw [Bool.and_eq_true, ble_iff] at hf0
        obtain ⟨hh, hb⟩ := hf0
        have e := f57_eq rounds b (hdF r) k a m c x
        conv at e => lhs; rw [hd_cells hh]
        rw [apure_out, e]
        have hn : ∀ p, nxF r p = nxF (cells32 (hdF r)) p := fun p => by rw [hd_cells hh]
        rcases bif_alt h with ⟨hf1, h⟩ | ⟨hf1, h⟩
        · cases h
          rw [hf1, cond_true]
          refine ⟨_, rfl, ?_⟩
          rw [hd_cells hh]
          exact .same
        · rcases bif_alt h with ⟨hf2, h⟩ | ⟨hf2, h⟩
          · cases h
            rw [Bool.not_eq_false'] at hf1
            have l1 := enc_small hf1 hf2
            have l2 := dat_small (f := nxF (cells32 (hdF r)) (encE k a m c x)) hf1 hf2
            simp only [hf1, hf2, Bool.not_true, cond_false, cond_true, List.drop_zero, take32, set32, okH_cells, u8of_cells]
            rw [ble_iff.2 (show (encE k a m c x).length ≤ 1000000000000 by omega), bif_pos (show (true && true) = true from rfl), bif_pos (fits5.2 (by omega)),
              bif_neg (by rw [blt_iff]; omega), bif_pos (ble_iff.2 (by omega))]
            refine ⟨_, rfl, ?_⟩
            rw [hn]
            exact .same
          · cases h
      · cases h
    · cases h
theorem ok58 : PureOk Try.prog 58 go58 := by
  refine pureOk_of (c58 rounds) tt58_ok (.cons ok24 (.cons ok53 (.cons ok86 (.cons ok48 .nil)))) follows rfl Try.func58 (by kernel_rfl) (by kernel_rfl) ?_ ?_
  · intro R stk args ret
    unfold go58
    split
    · simp only [elim_cond]; rfl
    · rfl
  · intro args r objs h hr
    unfold go58 at h
    split at h
    · rename_i b r k a m c x
      rcases bif_alt h with ⟨hf0, h⟩ | ⟨hf0, h⟩
      · cases h
        simp only [Bool.and_eq_true, ble_iff] at hf0
        obtain ⟨⟨hh, hb⟩, hf2, hf1⟩ := hf0
        have e := f58_eq rounds b (hdF r) k a m c x
        conv at e => lhs; rw [hd_cells hh]
        rw [apure_out, e]
        have hn : ∀ p, nxF r p = nxF (cells32 (hdF r)) p := fun p => by rw [hd_cells hh]
        have l1 := enc_small hf1 hf2
        have l2 := dat_small (f := nxF (cells32 (hdF r)) (encE k a m c x)) hf1 hf2
        have l3 := encF_len (encE k a m c x ++ hdB (nxF (cells32 (hdF r)) (encE k a m c x)))
        have l4 := len9_range ((encE k a m c x ++ hdB (nxF (cells32 (hdF r)) (encE k a m c x))).length : Int)
        simp only [hf1, hf2, Bool.and_self, cond_true, List.drop_zero, take32, set32, okH_cells, u8of_cells, List.replicate_zero, List.nil_append]
        rw [ble_iff.2 (show (encE k a m c x).length ≤ 1000000000000 by omega), bif_pos (show (true && true) = true from rfl), bif_pos (fits5.2 (by omega)), bif_pos (fits5.2 (by omega)), bif_pos (ble_iff.2 (by omega)),
          bif_pos (fits5.2 (by rw [List.length_append]; omega))]
        refine ⟨_, rfl, ?_⟩
        rw [hn]
        exact .same
      · cases h
    · cases h
end Go.Proofs.YtmkgmlgklggnlaaG
