/- A part of the proof: plain laws, and what functions of the given program come to; no condition. -/
import Derived.Test.YtmkgmlgklggnlaaGm3
import Derived.Shelf.Spec.SlicesGrow
/-! # slices.Grow of a nil slice, out of the shelf's contract: room that nobody has written to. -/
namespace Go.Proofs.YtmkgmlgklggnlaaGm
open Go.Shelf Go.Proofs
def goGrow (E : Nat) (R : Type) (stk : R) (args : List AV) (ret : AV → List AObj → R) : R :=
  match args with
  | [.nil, .int .i64 n] => bif eqI n 0 then ret .nil [] else bif leI 1 n && leI n 70368744177664 then ret (.own 0) [.arr E (.bytes [])] else stk
  | _ => stk
theorem grow_alloc {w : World} (o : Obj) : Grew w (w.drew.alloc o) := ⟨rfl, rfl, rfl, by simp, fun b hb => Go.RowKit.Below.heap_alloc w.drew _ b hb⟩
theorem zeroCells_size (z : Array Value) (n : Nat) (h : z.size = 1) : (Builtin.zeroCells z n).size = n := by
  unfold Builtin.zeroCells
  simp [h]
theorem pureOk_grow {P : Program} {ρ : Ren} (L : Lays8.n4 P ρ) {fn : Func} (hf : P.funcs[ρ.f 4]? = some fn) (hname : (fn.name == "runtime.NumGoroutine") = false) (hbody : fn.body.isNone = false)
    {e : TyE} (he : TyOk P (ρ.t 25) e) (hd : e.d = .int .u8) (h1 : e.size = 1) (hb : e.bytes = 1) : PureOk P (ρ.f 4) (goGrow (ρ.t 25)) where
  cps := by
    intro R stk args k
    unfold goGrow
    split
    · simp only [elim_cond]; rfl
    · rfl
  calls := by
    intro args r objs h w M cargs hM hargs
    unfold goGrow at h
    split at h
    · rename_i n
      cases hargs with | cons ha hargs =>
      cases hargs with | cons hn hargs =>
      cases hargs
      cases ha
      cases hn with | int hk =>
      refine .inl ⟨fn, hf, hname, hbody, ?_⟩
      rcases bif_alt h with ⟨hf0, h⟩ | ⟨hf0, h⟩
      · cases h
        rw [eqI_iff] at hf0
        subst hf0
        refine (Any8.slices_Grow_room L none 0 0 0 w (Nat.le_refl _) (by omega) (by omega) (by omega)).mono ?_
        rintro e' w' ⟨rfl, rfl⟩
        exact ⟨_, [], [], rfl, .none hM, .nil, .refl _, fun i c b hi => by simp at hi⟩
      · rcases bif_alt h with ⟨hf1, h⟩ | ⟨hf1, h⟩
        · cases h
          rw [Bool.and_eq_true, leI_iff, leI_iff] at hf1
          obtain ⟨m, rfl⟩ : ∃ m : Nat, n = m := ⟨n.toNat, by omega⟩
          obtain ⟨i0, i1, i2, i3, i4⟩ := he.info'
          refine (Any8.slices_Grow_grow L i0 e.zv i1 i2 (by omega) none 0 0 m [] w (Nat.le_refl _) (by omega) (by rw [i4, hb]; omega) (by omega) (by simp) (fun _ => rfl) (fun a ha => by cases ha)).mono ?_
          rintro e' w' ⟨rfl, rfl⟩
          have hG : grownCap w (0 + m) 0 (ρ.t 25) ≤ maxLen := grownCap_le_maxLen w (0 + m) 0 (ρ.t 25) (by unfold maxLen; omega)
          have hG2 : 0 + m ≤ grownCap w (0 + m) 0 (ρ.t 25) := grownCap_ge w _ _ _
          generalize hcap : grownCap w (0 + m) 0 (ρ.t 25) = G at *
          have hz : e.zv.cells.size = 1 := by rw [he.zs, h1]
          have hblk : (CObj.row (.slice (some ⟨w.heap.size, 0, none⟩) 0 G) 1).block? = some w.heap.size := rfl
          refine ⟨_, [.row (.slice (some ⟨w.heap.size, 0, none⟩) 0 G) 1], [(ρ.t 25, e)], rfl, ?_, ?_, grow_alloc _, ?_⟩
          · refine ⟨rfl, ?_, ?_, ?_, ?_⟩
            · intro i o c ho hc
              cases i with
              | succ i => simp at ho
              | zero =>
                simp only [List.getElem?_cons_zero, Option.some.injEq] at ho hc
                subst ho; subst hc
                refine .arr (us := []) ?_ .nil (fun u hu => by cases hu) (fun a ha => by cases ha) trivial rfl ?_
                · refine ⟨rfl, .inr ⟨_, _, _, rfl, Nat.zero_le _, heap_alloc_new _ _, Nat.zero_le _, hG, ?_, rfl⟩⟩
                  simp only [Array.size_append, zeroCells_size _ _ hz, List.size_toArray, List.length_nil]
                  omega
                · have : tget [(ρ.t 25, e)] (ρ.t 25) = some e := by unfold tget; simp
                  unfold emptyPay
                  rw [this]
                  obtain ⟨d, _, _, _, _⟩ := e
                  dsimp only at hd
                  subst hd
                  rfl
            · intro i j ci cj b hij hi hj
              cases i with
              | succ i => simp at hi
              | zero => cases j with
                | zero => exact absurd rfl hij
                | succ j => simp at hj
            · intro i c b hi hcb hMb
              cases i with
              | succ i => simp at hi
              | zero =>
                simp only [List.getElem?_cons_zero, Option.some.injEq] at hi
                subst hi
                rw [hblk] at hcb; cases hcb
                have := hM _ hMb
                omega
            · intro b hMb
              have := hM _ hMb
              simp
              omega
          · exact .own rfl rfl
          · intro i c b hi hcb
            cases i with
            | succ i => simp at hi
            | zero =>
              simp only [List.getElem?_cons_zero, Option.some.injEq] at hi
              subst hi
              rw [hblk] at hcb; cases hcb
              exact Nat.le_refl _
        · cases h
    · cases h
end Go.Proofs.YtmkgmlgklggnlaaGm
