/- A part of the proof: plain laws, and what functions of the given program come to; no condition. -/
import Derived.Test.YtjdojmjkldpgnaaDoorGm3
import Derived.Shelf.Strconv.Itoa3
import Derived.Lib.ItoaLen
/-! # strconv.Itoa, out of the shelf's contracts: of a whole number that brings the table's words, and of small ones. -/
namespace Go.Proofs.YtjdojmjkldpgnaaDoorGm
open Go.Shelf Go.Proofs
/-- The numeral of a number: one below a hundred, or one that brings the table of the powers of ten (block g). -/
def goItoa (g : Nat) (R : Type) (stk : R) (args : List AV) (ret : AV → List AObj → R) : R :=
  match args with
  | [.int .i64 n] => bif leI 0 n && ltI n 100 then ret (.str (Lib.itoa n)) [] else stk
  | [.tin g' l n] => bif Nat.beq g' g && decide (l = Lib.pow10Tab) then ret (.str (Lib.itoa n)) [] else stk
  | _ => stk
theorem i64_has {n : Int} (h : IntKind.i64.has n) : -9223372036854775808 ≤ n ∧ n ≤ 9223372036854775807 := by
  obtain ⟨h1, h2⟩ := h
  simp [IntKind.min, IntKind.max, IntKind.bits, IntKind.signed] at h1 h2
  omega
theorem itoa_size (n : Int) (h : IntKind.i64.has n) : (⟨(Lib.itoa n).toArray⟩ : ByteArray).size ≤ maxLen := by
  have := Lib.itoa_length_le n (i64_has h).1 (i64_has h).2
  simp only [ByteArray.size, List.size_toArray]
  unfold maxLen
  omega
theorem pureOk_itoa {P : Program} {ρ : Ren} (L : LaysM.n171 P ρ) {fn : Func} (hf : P.funcs[ρ.f 171]? = some fn) (hname : (fn.name == "runtime.NumGoroutine") = false) (hbody : fn.body.isNone = false) :
    PureOk P (ρ.f 171) (goItoa (ρ.g 17)) where
  cps := by
    intro R stk args k
    unfold goItoa
    split
    · simp only [elim_cond]; rfl
    · simp only [elim_cond]; rfl
    · rfl
  calls := by
    intro args r objs h w M cargs hM hargs
    unfold goItoa at h
    split at h
    · rename_i n
      cases hargs with | cons ha hargs =>
      cases hargs
      cases ha with | int hk =>
      refine .inl ⟨fn, hf, hname, hbody, ?_⟩
      rcases bif_alt h with ⟨hf0, h⟩ | ⟨hf0, h⟩
      · cases h
        rw [Bool.and_eq_true, leI_iff, ltI_iff] at hf0
        obtain ⟨m, rfl⟩ : ∃ m : Nat, n = m := ⟨n.toNat, by omega⟩
        refine (Any.strconv_Itoa_small { L with } m (by omega) w).mono ?_
        rintro e' w' ⟨rfl, rfl⟩
        have e1 : Lib.itoa (m : Int) = Lib.decDigits m := by unfold Lib.itoa; rw [if_neg (by omega)]; rfl
        refine ⟨_, [], [], rfl, .none hM, ?_, .refl _, fun i c b hi => by simp at hi⟩
        have := itoa_size _ hk
        rw [e1] at this ⊢
        exact .str this
      · cases h
    · rename_i g' l n
      cases hargs with | cons ha hargs =>
      cases hargs
      cases ha with | tin hk hc hb hlt =>
      refine .inl ⟨fn, hf, hname, hbody, ?_⟩
      rcases bif_alt h with ⟨hf0, h⟩ | ⟨hf0, h⟩
      · cases h
        rw [Bool.and_eq_true, decide_eq_true_eq] at hf0
        obtain ⟨h1, rfl⟩ := hf0
        have h1 := Nat.eq_of_beq_eq_true h1
        subst h1
        have htab : Lib.TabIs P w "internal/strconv.uint64pow10" .u64 Lib.pow10Tab := by
          unfold Lib.TabIs World.var?
          rw [L.m17]
          simp only [Option.bind_some, hc]
        refine (Any.strconv_Itoa L n (i64_has hk).1 (i64_has hk).2 w htab).mono ?_
        rintro e' w' ⟨rfl, k, os, rfl⟩
        refine ⟨_, [], [], rfl, .none (fun b hb => ?_), .str (itoa_size _ hk), ?_, fun i c b hi => by simp at hi⟩
        · have := hM b hb
          simp only [Sort.grow, World.drewN, Array.size_append]
          omega
        · refine ⟨rfl, rfl, rfl, ?_, ?_⟩
          · simp only [Sort.grow, World.drewN, Array.size_append]
            omega
          · intro b hb
            simp only [Sort.grow, World.drewN]
            rw [Array.getElem?_append_left hb]
      · cases h
    · cases h
/-- A number that brings words, read as a number. -/
def untinA : AV → AV
  | .tin _ _ n => .int .i64 n
  | a => a
def untinGo (go : Ans) : Ans := fun R stk args ret => go R stk (args.map untinA) ret
theorem RepV.untin {w : World} {M : Nat → Prop} {ρ : List CObj} {a : AV} {v : Value} (h : RepV w M ρ a v) : RepV w M ρ (untinA a) v := by
  cases h with
  | tin a b c d => exact .int a
  | rn h => exact .rn h
  | top => exact .top _
  | bool => exact .bool _
  | int h => exact .int h
  | str h => exact .str h
  | agg h h1 => exact .agg h h1
  | arr h h1 hp => exact .arr h h1 hp
  | tup h => exact .tup h
  | nilp => exact .nilp
  | ptr h => exact .ptr h
  | aptr h hi => exact .aptr h hi
  | eptr a b c d e f g i => exact .eptr a b c d e f g i
  | nil => exact .nil
  | roN a b c => exact .roN a b c
  | ro a b c d e f g i j => exact .ro a b c d e f g i j
  | own h h1 => exact .own h h1
  | subN h => exact .subN h
  | sub h a b => exact .sub h a b
  | fn h => exact .fn h
  | nilf => exact .nilf
  | nilm => exact .nilm
  | mapo h => exact .mapo h
  | vsl h => exact .vsl h
  | iface h => exact .iface h
  | nili => exact .nili
  | len h => exact .len h
theorem RepL.untin {w : World} {M : Nat → Prop} {ρ : List CObj} : ∀ {l : List AV} {vs : List Value}, RepL w M ρ l vs → RepL w M ρ (l.map untinA) vs
  | _, _, .nil => .nil
  | _, _, .cons h t => .cons h.untin t.untin
theorem PureOk.untin {P : Program} {f : Nat} {go : Ans} (h : PureOk P f go) : PureOk P f (untinGo go) where
  cps := fun R stk args k => h.cps R stk (args.map untinA) k
  calls := by
    intro args r objs hr w M cargs hM hargs
    exact h.calls (args.map untinA) r objs hr w M cargs hM hargs.untin
end Go.Proofs.YtjdojmjkldpgnaaDoorGm
