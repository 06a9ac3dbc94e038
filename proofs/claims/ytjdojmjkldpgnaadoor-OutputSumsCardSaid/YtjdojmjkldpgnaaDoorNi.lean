/- A part of the proof: plain laws, and what functions of the given program come to; no condition. -/
import Derived.Test.YtjdojmjkldpgnaaDoorGTy
import Derived.Test.YtjdojmjkldpgnaaDoorGmYitoa
namespace Go.Proofs.YtjdojmjkldpgnaaDoorG
open Go Go.Proofs.YtjdojmjkldpgnaaDoorGm Go.Shelf
set_option maxRecDepth 100000
def rho_LaysMn171 : Ren := ⟨fun n => bif Nat.beq n 129 then 158 else bif Nat.beq n 171 then 36 else bif Nat.beq n 243 then 78 else bif Nat.beq n 246 then 119 else bif Nat.beq n 283 then 144 else bif Nat.beq n 284 then 145 else bif Nat.beq n 285 then 146 else bif Nat.beq n 286 then 147 else bif Nat.beq n 317 then 157 else bif Nat.beq n 318 then 159 else bif Nat.beq n 319 then 160 else bif Nat.beq n 320 then 161 else bif Nat.beq n 337 then 166 else bif Nat.beq n 338 then 167 else 0, fun n => bif Nat.beq n 0 then 0 else bif Nat.beq n 2 then 2 else bif Nat.beq n 3 then 3 else bif Nat.beq n 4 then 4 else bif Nat.beq n 5 then 5 else bif Nat.beq n 9 then 9 else bif Nat.beq n 20 then 20 else bif Nat.beq n 37 then 33 else bif Nat.beq n 46 then 180 else bif Nat.beq n 51 then 74 else bif Nat.beq n 53 then 73 else bif Nat.beq n 171 then 207 else bif Nat.beq n 173 then 209 else bif Nat.beq n 212 then 220 else bif Nat.beq n 213 then 221 else bif Nat.beq n 232 then 34 else bif Nat.beq n 233 then 179 else 0, fun n => bif Nat.beq n 17 then 0 else bif Nat.beq n 18 then 2 else bif Nat.beq n 19 then 3 else 0⟩
theorem lays_LaysMn171 : LaysM.n171 Tryd.prog rho_LaysMn171 where
  mixed := follows
  f129 := by kernel_rfl
  f171 := by kernel_rfl
  f243 := by kernel_rfl
  f246 := by kernel_rfl
  f283 := by kernel_rfl
  f284 := by kernel_rfl
  f285 := by kernel_rfl
  f286 := by kernel_rfl
  f317 := by kernel_rfl
  f318 := by kernel_rfl
  f319 := by kernel_rfl
  f320 := by kernel_rfl
  f337 := by kernel_rfl
  f338 := by kernel_rfl
  t0 := by kernel_rfl
  a0 := fun w => run_isAgg_of (P := Tryd.prog) (w := w) ty0_ok
  z0 := fun w => run_sizeOf_of (P := Tryd.prog) (w := w) ty0_ok
  v0 := fun w => run_zeroValue_of (P := Tryd.prog) (w := w) ty0_ok
  t2 := by kernel_rfl
  a2 := fun w => run_isAgg_of (P := Tryd.prog) (w := w) ty2_ok
  z2 := fun w => run_sizeOf_of (P := Tryd.prog) (w := w) ty2_ok
  v2 := fun w => run_zeroValue_of (P := Tryd.prog) (w := w) ty2_ok
  t3 := by kernel_rfl
  a3 := fun w => run_isAgg_of (P := Tryd.prog) (w := w) ty3_ok
  z3 := fun w => run_sizeOf_of (P := Tryd.prog) (w := w) ty3_ok
  v3 := fun w => run_zeroValue_of (P := Tryd.prog) (w := w) ty3_ok
  t4 := by kernel_rfl
  a4 := fun w => run_isAgg_of (P := Tryd.prog) (w := w) ty4_ok
  z4 := fun w => run_sizeOf_of (P := Tryd.prog) (w := w) ty4_ok
  v4 := fun w => run_zeroValue_of (P := Tryd.prog) (w := w) ty4_ok
  t5 := by kernel_rfl
  a5 := fun w => run_isAgg_of (P := Tryd.prog) (w := w) ty5_ok
  z5 := fun w => run_sizeOf_of (P := Tryd.prog) (w := w) ty5_ok
  v5 := fun w => run_zeroValue_of (P := Tryd.prog) (w := w) ty5_ok
  t9 := by kernel_rfl
  a9 := fun w => run_isAgg_of (P := Tryd.prog) (w := w) ty9_ok
  z9 := fun w => run_sizeOf_of (P := Tryd.prog) (w := w) ty9_ok
  v9 := fun w => run_zeroValue_of (P := Tryd.prog) (w := w) ty9_ok
  t20 := by kernel_rfl
  a20 := fun w => run_isAgg_of (P := Tryd.prog) (w := w) ty20_ok
  z20 := fun w => run_sizeOf_of (P := Tryd.prog) (w := w) ty20_ok
  v20 := fun w => run_zeroValue_of (P := Tryd.prog) (w := w) ty20_ok
  t37 := by kernel_rfl
  a37 := fun w => run_isAgg_of (P := Tryd.prog) (w := w) ty33_ok
  z37 := fun w => run_sizeOf_of (P := Tryd.prog) (w := w) ty33_ok
  v37 := fun w => run_zeroValue_of (P := Tryd.prog) (w := w) ty33_ok
  t46 := by kernel_rfl
  a46 := fun w => run_isAgg_of (P := Tryd.prog) (w := w) ty180_ok
  z46 := fun w => run_sizeOf_of (P := Tryd.prog) (w := w) ty180_ok
  v46 := fun w => run_zeroValue_of (P := Tryd.prog) (w := w) ty180_ok
  t51 := by kernel_rfl
  a51 := fun w => run_isAgg_of (P := Tryd.prog) (w := w) ty74_ok
  z51 := fun w => run_sizeOf_of (P := Tryd.prog) (w := w) ty74_ok
  v51 := fun w => run_zeroValue_of (P := Tryd.prog) (w := w) ty74_ok
  t53 := by kernel_rfl
  a53 := fun w => run_isAgg_of (P := Tryd.prog) (w := w) ty73_ok
  z53 := fun w => run_sizeOf_of (P := Tryd.prog) (w := w) ty73_ok
  v53 := fun w => run_zeroValue_of (P := Tryd.prog) (w := w) ty73_ok
  t171 := by kernel_rfl
  a171 := fun w => run_isAgg_of (P := Tryd.prog) (w := w) ty207_ok
  z171 := fun w => run_sizeOf_of (P := Tryd.prog) (w := w) ty207_ok
  v171 := fun w => run_zeroValue_of (P := Tryd.prog) (w := w) ty207_ok
  t173 := by kernel_rfl
  a173 := fun w => run_isAgg_of (P := Tryd.prog) (w := w) ty209_ok
  z173 := fun w => run_sizeOf_of (P := Tryd.prog) (w := w) ty209_ok
  v173 := fun w => run_zeroValue_of (P := Tryd.prog) (w := w) ty209_ok
  t212 := by kernel_rfl
  a212 := fun w => run_isAgg_of (P := Tryd.prog) (w := w) ty220_ok
  z212 := fun w => run_sizeOf_of (P := Tryd.prog) (w := w) ty220_ok
  v212 := fun w => run_zeroValue_of (P := Tryd.prog) (w := w) ty220_ok
  t213 := by kernel_rfl
  a213 := fun w => run_isAgg_of (P := Tryd.prog) (w := w) ty221_ok
  z213 := fun w => run_sizeOf_of (P := Tryd.prog) (w := w) ty221_ok
  t232 := by kernel_rfl
  a232 := fun w => run_isAgg_of (P := Tryd.prog) (w := w) ty34_ok
  z232 := fun w => run_sizeOf_of (P := Tryd.prog) (w := w) ty34_ok
  v232 := fun w => run_zeroValue_of (P := Tryd.prog) (w := w) ty34_ok
  t233 := by kernel_rfl
  a233 := fun w => run_isAgg_of (P := Tryd.prog) (w := w) ty179_ok
  z233 := fun w => run_sizeOf_of (P := Tryd.prog) (w := w) ty179_ok
  v233 := fun w => run_zeroValue_of (P := Tryd.prog) (w := w) ty179_ok
  g17 := by kernel_rfl
  g18 := by kernel_rfl
  g19 := by kernel_rfl
  i0 := by kernel_rfl
  i2 := by kernel_rfl
  i3 := by kernel_rfl
  i4 := by kernel_rfl
  i5 := by kernel_rfl
  i9 := by kernel_rfl
  i20 := by kernel_rfl
  i37 := by kernel_rfl
  i46 := by kernel_rfl
  i51 := by kernel_rfl
  i53 := by kernel_rfl
  i171 := by kernel_rfl
  i173 := by kernel_rfl
  i212 := by kernel_rfl
  i232 := by kernel_rfl
  i233 := by kernel_rfl
  m17 := by kernel_rfl
  m18 := by kernel_rfl
  m19 := by kernel_rfl
theorem ok36 : PureOk Tryd.prog 36 (goItoa 0) := pureOk_itoa lays_LaysMn171 Tryd.func36 (by kernel_rfl) (by kernel_rfl)
end Go.Proofs.YtjdojmjkldpgnaaDoorG
