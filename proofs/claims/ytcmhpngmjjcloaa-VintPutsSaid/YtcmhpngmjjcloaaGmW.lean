/- A part of a reader of loaded code that is proved sound; no condition. -/
import Derived.Test.YtcmhpngmjjcloaaGmV
import Derived.Below
namespace Go.Proofs.YtcmhpngmjjcloaaGm

/-- A row of whole numbers that a call is handed. -/
def IsRow (k : IntKind) (w : World) (a : Option Addr) (len cap : Nat) (zs : List Int) : Prop :=
  (a = none ∧ len = 0 ∧ cap = 0 ∧ zs = []) ∨
  ∃ x, a = some x ∧ len ≤ cap ∧ cap ≤ maxLen ∧ zs.length = cap ∧ (∀ i, i < zs.length → w.cell? (x.add i) = some (.int k (zs.getD i 0))) ∧ ∀ n ∈ zs, (Lit.int k n).wf = true

theorem cell_some {w : World} {x : Addr} {v : Value} (h : w.cell? x = some v) : x.block < w.heap.size ∧ x.spot = none := by
  unfold World.cell? at h
  split at h
  · rename_i c t s hb
    constructor
    · rcases Nat.lt_or_ge x.block w.heap.size with h' | h'
      · exact h'
      · rw [Array.getElem?_eq_none h'] at hb; cases hb
    · split at h
      · cases h
      · rename_i hs; simpa using hs
  · cases h

theorem rowInts {w : World} {k : IntKind} {a : Option Addr} {len cap : Nat} {zs : List Int} (h : IsRow k w a len cap zs) {p : Pay AV} (hlen : p.len = len)
    (hcells : ∀ (i : Nat) (x : AV), p.cells[i]? = some x → ∃ n, zs[i]? = some n ∧ x = .int k n) (hcl : p.cells.length = len) (hw : p.wf) (hsz : p.sz = 1) : RepV w (fun _ => False) [] (.ro p) (.slice a len cap) := by
  rcases h with ⟨rfl, h1, rfl, rfl⟩ | ⟨x, rfl, h1, h2, h3, h4, h5⟩
  · subst h1
    exact .roN hlen (Nat.zero_le _) (fun _ => rfl)
  · rcases Nat.eq_zero_or_pos len with h0 | h0
    · subst h0
      exact .roN hlen h2 (fun h => by cases h)
    · have hx := cell_some (h4 0 (by omega))
      rw [show x.add 0 = x from rfl] at hx
      obtain ⟨b, off, spot⟩ := x
      obtain ⟨hx1, rfl⟩ := hx
      have hlt : len ≤ zs.length := by omega
      subst hlen
      refine .ro (us := (zs.take p.len).map fun n => .int k n) ?_ ?_ (fun h => h) hx1 ?_ ?_ hw h1 h2
      · refine RepL.of_get (by simp [hcl]; omega) ?_
        intro i y v hy hv
        obtain ⟨n, hn, rfl⟩ := hcells i y hy
        have hi : i < p.len := by
          rcases Nat.lt_or_ge i p.cells.length with h' | h'
          · rw [← hcl]; exact h'
          · rw [List.getElem?_eq_none h'] at hy; cases hy
        rw [List.getElem?_map, List.getElem?_take_of_lt hi, hn] at hv
        cases hv
        have hwf := h5 n (List.mem_of_getElem? hn)
        exact .int (by simp only [Lit.wf, decide_eq_true_eq] at hwf; simpa [IntKind.has] using hwf)
      · intro j u hu
        rw [List.getElem?_map, Option.map_eq_some_iff] at hu
        obtain ⟨n, hn, rfl⟩ := hu
        have hj : j < p.len := by
          rcases Nat.lt_or_ge j p.len with h' | h'
          · exact h'
          · rw [List.getElem?_eq_none (by simp; omega)] at hn; cases hn
        rw [List.getElem?_take_of_lt hj] at hn
        have := h4 j (by omega)
        rw [List.getD, hn] at this
        simp only [Option.getD_some] at this
        rw [← this]
        unfold Addr.add
        split
        · rename_i hj0; subst hj0; rfl
        · rfl
      · intro u hu
        rw [List.mem_map] at hu
        obtain ⟨n, _, rfl⟩ := hu
        rfl
      · intro y hy
        obtain ⟨i, hi⟩ := List.getElem?_of_mem hy
        obtain ⟨n, _, rfl⟩ := hcells i y hi
        rfl

theorem row_bytes {w : World} {a : Option Addr} {len cap : Nat} {zs : List Int} (h : IsRow .u8 w a len cap zs) : ∃ l : List UInt8, l.length = len ∧ RepV w (fun _ => False) [] (.ro (.bytes l)) (.slice a len cap) := by
  have hlen : len ≤ zs.length := by
    rcases h with ⟨_, h1, _, rfl⟩ | ⟨_, _, h1, _, h3, _⟩
    · simp [h1]
    · omega
  have hwf : ∀ n ∈ zs, 0 ≤ n ∧ n < 256 := by
    rcases h with ⟨_, _, _, rfl⟩ | ⟨_, _, _, _, _, _, h5⟩
    · intro n hn; cases hn
    · intro n hn
      have := h5 n hn
      have h6 : IntKind.u8.has n := by simpa [Lit.wf, IntKind.has] using this
      have h7 : 0 ≤ n ∧ n ≤ 255 := by simpa [IntKind.has, IntKind.min, IntKind.max, IntKind.signed, IntKind.bits] using h6
      omega
  have hl : ((zs.take len).map fun n => UInt8.ofNat n.toNat).length = len := by simp; omega
  have hmap : ∀ (i : Nat) (x : AV), (Pay.bytes ((zs.take len).map fun (n : Int) => UInt8.ofNat n.toNat) : Pay AV).cells[i]? = some x → ∃ n, zs[i]? = some n ∧ x = .int .u8 n := by
    intro i x hx
    simp only [Pay.cells, List.getElem?_map, Option.map_eq_some_iff] at hx
    obtain ⟨c, ⟨n, hn, rfl⟩, rfl⟩ := hx
    have hi : i < len := by
      rcases Nat.lt_or_ge i len with h' | h'
      · exact h'
      · rw [List.getElem?_eq_none (by simp; omega)] at hn; cases hn
    rw [List.getElem?_take_of_lt hi] at hn
    refine ⟨n, hn, ?_⟩
    have := hwf n (List.mem_of_getElem? hn)
    rw [UInt8.toNat_ofNat']
    congr 1
    omega
  have hl' : (Pay.bytes ((zs.take len).map fun (n : Int) => UInt8.ofNat n.toNat) : Pay AV).len = len := hl
  have hl2 : (Pay.bytes ((zs.take len).map fun (n : Int) => UInt8.ofNat n.toNat) : Pay AV).cells.length = len := by simpa [Pay.cells] using hl
  exact ⟨_, hl, rowInts h hl' hmap hl2 trivial rfl⟩

theorem Grew.below {w w' : World} (h : Grew w w') : RowKit.Below w.heap.size w w' := ⟨h.os, h.tape, h.output, h.size, h.block⟩

/-- A law that comes to true. -/
theorem law_calls {P : Program} (c : Cfg) (hT : TabOk P c.tt) (hS : SpecsOk P c.sg) (hm : P.follows .mixedOrders = true) (hh : c.h0 = 0) {f : Nat} {fn : Func} (hf : P.funcs[f]? = some fn)
    {args : List AV} (h1 : apure c fn args = some (.bool true, [])) {w : World} {cargs : List Value} (hargs : RepL w (fun _ => False) [] args cargs) :
    Calls P f cargs.toArray w fun e w' => e = .returned (.bool true) ∧ RowKit.Below w.heap.size w w' := by
  refine (apure_calls c hT hS hm hh hf h1 (M := fun _ => False) (fun _ h => h.elim) hargs).mono ?_
  rintro e w' ⟨v, rfl, ⟨ρr, _, hv, _⟩, hg⟩
  rw [bool_rep hv]
  exact ⟨rfl, hg.below⟩
end Go.Proofs.YtcmhpngmjjcloaaGm
