/- A part of the proof: plain laws, and what functions of the given program come to; no condition. -/
import Derived.Test.YtjdojmjkldpgnaaDoorGq
import Derived.Test.YtjdojmjkldpgnaaDoorGmYgrow
import Derived.Test.YtjdojmjkldpgnaaDoorGm3
namespace Go.Proofs.YtjdojmjkldpgnaaDoorG
open Go Go.Proofs.YtjdojmjkldpgnaaDoorGm Go.Shelf
set_option maxRecDepth 100000
def rho138 : Ren := ⟨fun _ => 138, fun t => if t = 25 then 5 else if t = 22 then 33 else t, fun x => x⟩
theorem lays138 : Lays8.n4 Tryd.prog rho138 where
  mixed := follows
  f4 := ⟨Tryd.f138.name, by kernel_rfl, by kernel_rfl⟩
  t0 := by kernel_rfl
  a0 := fun w => run_isAgg_of (P := Tryd.prog) (w := w) ty0_ok
  z0 := fun w => run_sizeOf_of (P := Tryd.prog) (w := w) ty0_ok
  v0 := fun w => run_zeroValue_of (P := Tryd.prog) (w := w) ty0_ok
  t3 := by kernel_rfl
  a3 := fun w => run_isAgg_of (P := Tryd.prog) (w := w) ty3_ok
  z3 := fun w => run_sizeOf_of (P := Tryd.prog) (w := w) ty3_ok
  v3 := fun w => run_zeroValue_of (P := Tryd.prog) (w := w) ty3_ok
  t4 := by kernel_rfl
  a4 := fun w => run_isAgg_of (P := Tryd.prog) (w := w) ty4_ok
  z4 := fun w => run_sizeOf_of (P := Tryd.prog) (w := w) ty4_ok
  v4 := fun w => run_zeroValue_of (P := Tryd.prog) (w := w) ty4_ok
  t9 := by kernel_rfl
  a9 := fun w => run_isAgg_of (P := Tryd.prog) (w := w) ty9_ok
  z9 := fun w => run_sizeOf_of (P := Tryd.prog) (w := w) ty9_ok
  v9 := fun w => run_zeroValue_of (P := Tryd.prog) (w := w) ty9_ok
  t20 := by kernel_rfl
  a20 := fun w => run_isAgg_of (P := Tryd.prog) (w := w) ty20_ok
  z20 := fun w => run_sizeOf_of (P := Tryd.prog) (w := w) ty20_ok
  v20 := fun w => run_zeroValue_of (P := Tryd.prog) (w := w) ty20_ok
  t22 := by kernel_rfl
  a22 := fun w => run_isAgg_of (P := Tryd.prog) (w := w) ty33_ok
  z22 := fun w => run_sizeOf_of (P := Tryd.prog) (w := w) ty33_ok
  v22 := fun w => run_zeroValue_of (P := Tryd.prog) (w := w) ty33_ok
theorem ok138 : PureOk Tryd.prog 138 (goGrow 5) := pureOk_grow lays138 Tryd.func138 (by kernel_rfl) (by kernel_rfl) ty5_ok rfl rfl rfl
end Go.Proofs.YtjdojmjkldpgnaaDoorG
