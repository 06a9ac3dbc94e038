/- A part of the proof: plain laws, and what functions of the given program come to; no condition. -/
import Derived.Test.YtcmhpngmjjcloaaGmYvinb
import Derived.Test.YtcmhpngmjjcloaaGmYcrc
import Derived.Test.YtcmhpngmjjcloaaProg
namespace Go.Proofs.YtcmhpngmjjcloaaG
open Go.Proofs.YtcmhpngmjjcloaaGm
set_option maxRecDepth 100000

def ty0 : TyE := ⟨.other, 1, 0, Value.tuple #[], [0]⟩
theorem ty0_ok : TyOk Try.prog 0 ty0 := ⟨by kernel_rfl, by kernel_rfl, rfl, rfl⟩
def ty1 : TyE := ⟨.func, 1, 8, Value.nilFunc, [1]⟩
theorem ty1_ok : TyOk Try.prog 1 ty1 := ⟨by kernel_rfl, by kernel_rfl, rfl, rfl⟩
def ty3 : TyE := ⟨.int .i64, 1, 8, Value.int .i64 0, [3]⟩
theorem ty3_ok : TyOk Try.prog 3 ty3 := ⟨by kernel_rfl, by kernel_rfl, rfl, rfl⟩
def ty4 : TyE := ⟨.bool, 1, 1, Value.bool false, [4]⟩
theorem ty4_ok : TyOk Try.prog 4 ty4 := ⟨by kernel_rfl, by kernel_rfl, rfl, rfl⟩
def ty5 : TyE := ⟨.int .u8, 1, 1, Value.int .u8 0, [5]⟩
theorem ty5_ok : TyOk Try.prog 5 ty5 := ⟨by kernel_rfl, by kernel_rfl, rfl, rfl⟩
def ty9 : TyE := ⟨.str, 1, 16, Value.string ByteArray.empty, [9]⟩
theorem ty9_ok : TyOk Try.prog 9 ty9 := ⟨by kernel_rfl, by kernel_rfl, rfl, rfl⟩
def ty22 : TyE := ⟨.slice 5, 1, 24, Value.slice none 0 0, [22]⟩
theorem ty22_ok : TyOk Try.prog 22 ty22 := ⟨by kernel_rfl, by kernel_rfl, rfl, rfl⟩
def ty23 : TyE := ⟨.int .u32, 1, 4, Value.int .u32 0, [23]⟩
theorem ty23_ok : TyOk Try.prog 23 ty23 := ⟨by kernel_rfl, by kernel_rfl, rfl, rfl⟩
def ty29 : TyE := ⟨.int .u64, 1, 8, Value.int .u64 0, [29]⟩
theorem ty29_ok : TyOk Try.prog 29 ty29 := ⟨by kernel_rfl, by kernel_rfl, rfl, rfl⟩
def ty34 : TyE := ⟨.int .i64, 1, 8, Value.int .i64 0, [34]⟩
theorem ty34_ok : TyOk Try.prog 34 ty34 := ⟨by kernel_rfl, by kernel_rfl, rfl, rfl⟩
def ty35 : TyE := ⟨.other, 1, 0, Value.tuple #[Value.slice none 0 0, Value.int .i64 0], [35]⟩
theorem ty35_ok : TyOk Try.prog 35 ty35 := ⟨by kernel_rfl, by kernel_rfl, rfl, rfl⟩
def ty42 : TyE := ⟨.int .u16, 1, 2, Value.int .u16 0, [42]⟩
theorem ty42_ok : TyOk Try.prog 42 ty42 := ⟨by kernel_rfl, by kernel_rfl, rfl, rfl⟩
def ty44 : TyE := ⟨.other, 1, 0, Value.tuple #[Value.int .u64 0, Value.int .i64 0, Value.int .i64 0], [44]⟩
theorem ty44_ok : TyOk Try.prog 44 ty44 := ⟨by kernel_rfl, by kernel_rfl, rfl, rfl⟩
def ty46 : TyE := ⟨.other, 1, 0, Value.tuple #[Value.int .u64 0, Value.int .i64 0, Value.int .i64 0], [46]⟩
theorem ty46_ok : TyOk Try.prog 46 ty46 := ⟨by kernel_rfl, by kernel_rfl, rfl, rfl⟩
def ty50 : TyE := ⟨.other, 1, 0, Value.tuple #[Value.int .i64 0, Value.int .i64 0, Value.int .i64 0], [50]⟩
theorem ty50_ok : TyOk Try.prog 50 ty50 := ⟨by kernel_rfl, by kernel_rfl, rfl, rfl⟩
def ty52 : TyE := ⟨.other, 1, 0, Value.tuple #[Value.int .i64 0, Value.int .i64 0, Value.int .i64 0], [52]⟩
theorem ty52_ok : TyOk Try.prog 52 ty52 := ⟨by kernel_rfl, by kernel_rfl, rfl, rfl⟩
def ty57 : TyE := ⟨.other, 1, 0, Value.tuple #[Value.string ByteArray.empty, Value.int .i64 0, Value.int .i64 0], [57]⟩
theorem ty57_ok : TyOk Try.prog 57 ty57 := ⟨by kernel_rfl, by kernel_rfl, rfl, rfl⟩
def ty59 : TyE := ⟨.other, 1, 0, Value.tuple #[Value.string ByteArray.empty, Value.int .i64 0, Value.int .i64 0], [59]⟩
theorem ty59_ok : TyOk Try.prog 59 ty59 := ⟨by kernel_rfl, by kernel_rfl, rfl, rfl⟩
def ty65 : TyE := ⟨.func, 1, 8, Value.nilFunc, [65]⟩
theorem ty65_ok : TyOk Try.prog 65 ty65 := ⟨by kernel_rfl, by kernel_rfl, rfl, rfl⟩
def ty66 : TyE := ⟨.int .u64, 1, 8, Value.int .u64 0, [66]⟩
theorem ty66_ok : TyOk Try.prog 66 ty66 := ⟨by kernel_rfl, by kernel_rfl, rfl, rfl⟩
theorem follows : Try.prog.follows .mixedOrders = true := by kernel_rfl
end Go.Proofs.YtcmhpngmjjcloaaG
