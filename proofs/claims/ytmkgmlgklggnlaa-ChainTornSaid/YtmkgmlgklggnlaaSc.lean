/- A part of the proof: plain laws, and what functions of the given program come to; no condition. -/
import Derived.Test.YtmkgmlgklggnlaaSb
import Derived.Test.YtmkgmlgklggnlaaGmYshb
namespace Go.Proofs.YtmkgmlgklggnlaaG
open Go Go.Proofs.YtmkgmlgklggnlaaGm
set_option maxRecDepth 100000
set_option maxHeartbeats 0

def go26v (R : Type) (stk : R) (args : List AV) (ret : AV → List AObj → R) : R :=
  match args with
  | [.arr l, .ro (.bytes p), .arr kk] => bif Nat.beq l.length 8 && l.all (isInt .u32) && (Nat.beq kk.length 64 && kk.all (isInt .u32) && Nat.ble 64 p.length) then ret (.arr (intsA .u32 (roundH (kk.map intOf) (Hs.of (l.map intOf)) (bI p)).list)) [] else stk
  | _ => stk

def go72l (R : Type) (stk : R) (args : List AV) (ret : AV → List AObj → R) : R :=
  match args with
  | [.ro (.rows 1 x)] => bif okB x && Nat.ble (szB (decB x)) 70368744177664 then ret (.ro (.bytes (decB x).flatten)) [] else stk
  | _ => stk

def go71 (R : Type) (stk : R) (args : List AV) (ret : AV → List AObj → R) : R :=
  match args with
  | [] => ret (Hs.av firstW) []
  | _ => stk

def go73 (R : Type) (stk : R) (args : List AV) (ret : AV → List AObj → R) : R :=
  match args with
  | [] => ret (Hs.av firstW) []
  | _ => stk

def go74 (R : Type) (stk : R) (args : List AV) (ret : AV → List AObj → R) : R :=
  match args with
  | [] => ret (.arr (intsA .u32 keysW)) []
  | _ => stk

def tt71 : Tab := [(0, ty0), (39, ty39), (40, ty40)]
theorem tt71_ok : TabOk Try.prog tt71 := tabOk_of_all ⟨ty0_ok, ty39_ok, ty40_ok, trivial⟩
def c71 (F : Nat) : Cfg := ⟨tt71, [], F, [], [], 0⟩
theorem f71_eq (F : Nat) : afun (c71 F) Try.f71 [] [] =
 .ret (AV.arr [AV.int .u32 1779033703, AV.int .u32 3144134277, AV.int .u32 1013904242, AV.int .u32 2773480762, AV.int .u32 1359893119, AV.int .u32 2600822924, AV.int .u32 528734635, AV.int .u32 1541459225]) [AObj.var 40 [AV.int .u32 1779033703, AV.int .u32 3144134277, AV.int .u32 1013904242, AV.int .u32 2773480762, AV.int .u32 1359893119, AV.int .u32 2600822924, AV.int .u32 528734635, AV.int .u32 1541459225]] := by kernel_rfl


def tt73 : Tab := [(0, ty0), (39, ty39), (40, ty40)]
theorem tt73_ok : TabOk Try.prog tt73 := tabOk_of_all ⟨ty0_ok, ty39_ok, ty40_ok, trivial⟩
def c73 (F : Nat) : Cfg := ⟨tt73, [], F, [], [], 0⟩
theorem f73_eq (F : Nat) : afun (c73 F) Try.f73 [] [] =
 .ret (AV.arr [AV.int .u32 1779033703, AV.int .u32 3144134277, AV.int .u32 1013904242, AV.int .u32 2773480762, AV.int .u32 1359893119, AV.int .u32 2600822924, AV.int .u32 528734635, AV.int .u32 1541459225]) [AObj.var 40 [AV.int .u32 1779033703, AV.int .u32 3144134277, AV.int .u32 1013904242, AV.int .u32 2773480762, AV.int .u32 1359893119, AV.int .u32 2600822924, AV.int .u32 528734635, AV.int .u32 1541459225]] := by kernel_rfl


def tt74 : Tab := [(0, ty0), (39, ty39), (44, ty44)]
theorem tt74_ok : TabOk Try.prog tt74 := tabOk_of_all ⟨ty0_ok, ty39_ok, ty44_ok, trivial⟩
def c74 (F : Nat) : Cfg := ⟨tt74, [], F, [], [], 0⟩
theorem f74_eq (F : Nat) : afun (c74 F) Try.f74 [] [] =
 .ret (AV.arr [AV.int .u32 (Int.ofNat 1116352408), AV.int .u32 (Int.ofNat 1899447441), AV.int .u32 (Int.ofNat 3049323471), AV.int .u32 (Int.ofNat 3921009573), AV.int .u32 (Int.ofNat 961987163), AV.int .u32 (Int.ofNat 1508970993), AV.int .u32 (Int.ofNat 2453635748), AV.int .u32 (Int.ofNat 2870763221), AV.int .u32 (Int.ofNat 3624381080), AV.int .u32 (Int.ofNat 310598401), AV.int .u32 (Int.ofNat 607225278), AV.int .u32 (Int.ofNat 1426881987), AV.int .u32 (Int.ofNat 1925078388), AV.int .u32 (Int.ofNat 2162078206), AV.int .u32 (Int.ofNat 2614888103), AV.int .u32 (Int.ofNat 3248222580), AV.int .u32 (Int.ofNat 3835390401), AV.int .u32 (Int.ofNat 4022224774), AV.int .u32 (Int.ofNat 264347078), AV.int .u32 (Int.ofNat 604807628), AV.int .u32 (Int.ofNat 770255983), AV.int .u32 (Int.ofNat 1249150122), AV.int .u32 (Int.ofNat 1555081692), AV.int .u32 (Int.ofNat 1996064986), AV.int .u32 (Int.ofNat 2554220882), AV.int .u32 (Int.ofNat 2821834349), AV.int .u32 (Int.ofNat 2952996808), AV.int .u32 (Int.ofNat 3210313671), AV.int .u32 (Int.ofNat 3336571891), AV.int .u32 (Int.ofNat 3584528711), AV.int .u32 (Int.ofNat 113926993), AV.int .u32 (Int.ofNat 338241895), AV.int .u32 (Int.ofNat 666307205), AV.int .u32 (Int.ofNat 773529912), AV.int .u32 (Int.ofNat 1294757372), AV.int .u32 (Int.ofNat 1396182291), AV.int .u32 (Int.ofNat 1695183700), AV.int .u32 (Int.ofNat 1986661051), AV.int .u32 (Int.ofNat 2177026350), AV.int .u32 (Int.ofNat 2456956037), AV.int .u32 (Int.ofNat 2730485921), AV.int .u32 (Int.ofNat 2820302411), AV.int .u32 (Int.ofNat 3259730800), AV.int .u32 (Int.ofNat 3345764771), AV.int .u32 (Int.ofNat 3516065817), AV.int .u32 (Int.ofNat 3600352804), AV.int .u32 (Int.ofNat 4094571909), AV.int .u32 (Int.ofNat 275423344), AV.int .u32 (Int.ofNat 430227734), AV.int .u32 (Int.ofNat 506948616), AV.int .u32 (Int.ofNat 659060556), AV.int .u32 (Int.ofNat 883997877), AV.int .u32 (Int.ofNat 958139571), AV.int .u32 (Int.ofNat 1322822218), AV.int .u32 (Int.ofNat 1537002063), AV.int .u32 (Int.ofNat 1747873779), AV.int .u32 (Int.ofNat 1955562222), AV.int .u32 (Int.ofNat 2024104815), AV.int .u32 (Int.ofNat 2227730452), AV.int .u32 (Int.ofNat 2361852424), AV.int .u32 (Int.ofNat 2428436474), AV.int .u32 (Int.ofNat 2756734187), AV.int .u32 (Int.ofNat 3204031479), AV.int .u32 (Int.ofNat 3329325298)]) [AObj.vara 44 .u32 [Int.ofNat 1116352408, Int.ofNat 1899447441, Int.ofNat 3049323471, Int.ofNat 3921009573, Int.ofNat 961987163, Int.ofNat 1508970993, Int.ofNat 2453635748, Int.ofNat 2870763221, Int.ofNat 3624381080, Int.ofNat 310598401, Int.ofNat 607225278, Int.ofNat 1426881987, Int.ofNat 1925078388, Int.ofNat 2162078206, Int.ofNat 2614888103, Int.ofNat 3248222580, Int.ofNat 3835390401, Int.ofNat 4022224774, Int.ofNat 264347078, Int.ofNat 604807628, Int.ofNat 770255983, Int.ofNat 1249150122, Int.ofNat 1555081692, Int.ofNat 1996064986, Int.ofNat 2554220882, Int.ofNat 2821834349, Int.ofNat 2952996808, Int.ofNat 3210313671, Int.ofNat 3336571891, Int.ofNat 3584528711, Int.ofNat 113926993, Int.ofNat 338241895, Int.ofNat 666307205, Int.ofNat 773529912, Int.ofNat 1294757372, Int.ofNat 1396182291, Int.ofNat 1695183700, Int.ofNat 1986661051, Int.ofNat 2177026350, Int.ofNat 2456956037, Int.ofNat 2730485921, Int.ofNat 2820302411, Int.ofNat 3259730800, Int.ofNat 3345764771, Int.ofNat 3516065817, Int.ofNat 3600352804, Int.ofNat 4094571909, Int.ofNat 275423344, Int.ofNat 430227734, Int.ofNat 506948616, Int.ofNat 659060556, Int.ofNat 883997877, Int.ofNat 958139571, Int.ofNat 1322822218, Int.ofNat 1537002063, Int.ofNat 1747873779, Int.ofNat 1955562222, Int.ofNat 2024104815, Int.ofNat 2227730452, Int.ofNat 2361852424, Int.ofNat 2428436474, Int.ofNat 2756734187, Int.ofNat 3204031479, Int.ofNat 3329325298]] := by kernel_rfl


theorem ok26v : PureOk Try.prog 26 go26v := by
  refine ok26.part ?_ ?_
  · intro R stk args ret
    unfold go26v
    split
    · simp only [elim_cond]; rfl
    · rfl
  · intro args r objs h
    unfold go26v at h
    split at h
    · rename_i l p kk
      rcases bif_alt h with ⟨hf, h⟩ | ⟨hf, h⟩
      · cases h
        rw [Bool.and_eq_true, Bool.and_eq_true] at hf
        have e := eight (Nat.eq_of_beq_eq_true hf.1.1) hf.1.2
        have hf2 := hf.2
        rw [e]
        show go26 _ none [Hs.av (Hs.of (l.map intOf)), .ro (.bytes p), .arr kk] _ = _
        unfold go26 Hs.av
        dsimp only
        rw [hf2]
        rw [← e]
        rfl
      · cases h
    · cases h
theorem go72l_eq : go72l = lentGo go72 := by
  funext R stk args ret
  unfold go72l lentGo go72
  split
  · rename_i x
    show (bif okB x && Nat.ble (szB (decB x)) 70368744177664 then ret (AV.ro (.bytes (decB x).flatten)) [] else stk) = (bif okB x && Nat.ble (szB (decB x)) 70368744177664 then ret (mapv (lendL (ownIn 3 (.own 0)) [.arr 5 (.bytes (decB x).flatten)]) 3 (.own 0)) [] else stk)
    rfl
  · rename_i hx
    split
    · rename_i x
      exact (hx x rfl).elim
    · rfl
theorem ok72l : PureOk Try.prog 72 go72l := go72l_eq ▸ ok72.lent

theorem ok71 : PureOk Try.prog 71 go71 := by
  refine pureOk_of (c71 rounds) tt71_ok .nil follows rfl Try.func71 (by kernel_rfl) (by kernel_rfl) ?_ ?_
  · intro R stk args ret
    unfold go71
    split
    · rfl
    · rfl
  · intro args r objs h hr
    unfold go71 at h
    split at h
    · rename_i a
      cases h
      refine ⟨_, ?_, .same⟩
      rw [apure_out]
      rw [f71_eq]
      rfl
    · cases h

theorem ok73 : PureOk Try.prog 73 go73 := by
  refine pureOk_of (c73 rounds) tt73_ok .nil follows rfl Try.func73 (by kernel_rfl) (by kernel_rfl) ?_ ?_
  · intro R stk args ret
    unfold go73
    split
    · rfl
    · rfl
  · intro args r objs h hr
    unfold go73 at h
    split at h
    · rename_i a
      cases h
      refine ⟨_, ?_, .same⟩
      rw [apure_out]
      rw [f73_eq]
      rfl
    · cases h

theorem ok74 : PureOk Try.prog 74 go74 := by
  refine pureOk_of (c74 rounds) tt74_ok .nil follows rfl Try.func74 (by kernel_rfl) (by kernel_rfl) ?_ ?_
  · intro R stk args ret
    unfold go74
    split
    · rfl
    · rfl
  · intro args r objs h hr
    unfold go74 at h
    split at h
    · rename_i a
      cases h
      refine ⟨_, ?_, .same⟩
      rw [apure_out]
      rw [f74_eq]
      rfl
    · cases h

end Go.Proofs.YtmkgmlgklggnlaaG
