/- A part of the proof: plain laws, and what functions of the given program come to; no condition. -/
import Derived.Test.YtmkgmlgklggnlaaGq
import Derived.Test.YtmkgmlgklggnlaaGmYgrow
import Derived.Test.YtmkgmlgklggnlaaGm3
namespace Go.Proofs.YtmkgmlgklggnlaaG
open Go Go.Proofs.YtmkgmlgklggnlaaGm Go.Shelf
set_option maxRecDepth 100000
def ty20 : TyE := ⟨.iface, 1, 16, Value.nilIface, [20]⟩
theorem ty20_ok : TyOk Try.prog 20 ty20 := ⟨by kernel_rfl, by kernel_rfl, rfl, rfl, by kernel_rfl⟩
def rho94 : Ren := ⟨fun _ => 94, fun t => if t = 25 then 5 else t, fun x => x⟩
theorem lays94 : Lays8.n4 Try.prog rho94 where
  mixed := follows
  f4 := ⟨Try.f94.name, by kernel_rfl, by kernel_rfl⟩
  t0 := by kernel_rfl
  a0 := fun w => run_isAgg_of (P := Try.prog) (w := w) ty0_ok
  z0 := fun w => run_sizeOf_of (P := Try.prog) (w := w) ty0_ok
  v0 := fun w => run_zeroValue_of (P := Try.prog) (w := w) ty0_ok
  t3 := by kernel_rfl
  a3 := fun w => run_isAgg_of (P := Try.prog) (w := w) ty3_ok
  z3 := fun w => run_sizeOf_of (P := Try.prog) (w := w) ty3_ok
  v3 := fun w => run_zeroValue_of (P := Try.prog) (w := w) ty3_ok
  t4 := by kernel_rfl
  a4 := fun w => run_isAgg_of (P := Try.prog) (w := w) ty4_ok
  z4 := fun w => run_sizeOf_of (P := Try.prog) (w := w) ty4_ok
  v4 := fun w => run_zeroValue_of (P := Try.prog) (w := w) ty4_ok
  t9 := by kernel_rfl
  a9 := fun w => run_isAgg_of (P := Try.prog) (w := w) ty9_ok
  z9 := fun w => run_sizeOf_of (P := Try.prog) (w := w) ty9_ok
  v9 := fun w => run_zeroValue_of (P := Try.prog) (w := w) ty9_ok
  t20 := by kernel_rfl
  a20 := fun w => run_isAgg_of (P := Try.prog) (w := w) ty20_ok
  z20 := fun w => run_sizeOf_of (P := Try.prog) (w := w) ty20_ok
  v20 := fun w => run_zeroValue_of (P := Try.prog) (w := w) ty20_ok
  t22 := by kernel_rfl
  a22 := fun w => run_isAgg_of (P := Try.prog) (w := w) ty22_ok
  z22 := fun w => run_sizeOf_of (P := Try.prog) (w := w) ty22_ok
  v22 := fun w => run_zeroValue_of (P := Try.prog) (w := w) ty22_ok
theorem ok94 : PureOk Try.prog 94 (goGrow 5) := pureOk_grow lays94 Try.func94 (by kernel_rfl) (by kernel_rfl) ty5_ok rfl rfl rfl
end Go.Proofs.YtmkgmlgklggnlaaG
