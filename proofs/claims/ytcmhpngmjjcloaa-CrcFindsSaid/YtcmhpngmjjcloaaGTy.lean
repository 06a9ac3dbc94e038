/- A part of the proof: plain laws, and what functions of the given program come to; no condition. -/
import Derived.Test.YtcmhpngmjjcloaaGmYvinb
import Derived.Test.YtcmhpngmjjcloaaGmYcrc
import Derived.Test.YtcmhpngmjjcloaaProg
namespace Go.Proofs.YtcmhpngmjjcloaaG
open Go.Proofs.YtcmhpngmjjcloaaGm
set_option maxRecDepth 100000

def ty0 : TyE := ⟨.other, 1, 0, Value.tuple #[], [0]⟩
theorem ty0_ok : TyOk Try.prog 0 ty0 := ⟨by kernel_rfl, by kernel_rfl, rfl, rfl⟩
def ty1 : TyE := ⟨.func, 1, 8, Value.nilFunc, [1]⟩
theorem ty1_ok : TyOk Try.prog 1 ty1 := ⟨by kernel_rfl, by kernel_rfl, rfl, rfl⟩
def ty2 : TyE := ⟨.int .i64, 1, 8, Value.int .i64 0, [2]⟩
theorem ty2_ok : TyOk Try.prog 2 ty2 := ⟨by kernel_rfl, by kernel_rfl, rfl, rfl⟩
def ty3 : TyE := ⟨.int .i64, 1, 8, Value.int .i64 0, [3]⟩
theorem ty3_ok : TyOk Try.prog 3 ty3 := ⟨by kernel_rfl, by kernel_rfl, rfl, rfl⟩
def ty4 : TyE := ⟨.bool, 1, 1, Value.bool false, [4]⟩
theorem ty4_ok : TyOk Try.prog 4 ty4 := ⟨by kernel_rfl, by kernel_rfl, rfl, rfl⟩
def ty5 : TyE := ⟨.int .u8, 1, 1, Value.int .u8 0, [5]⟩
theorem ty5_ok : TyOk Try.prog 5 ty5 := ⟨by kernel_rfl, by kernel_rfl, rfl, rfl⟩
def ty6 : TyE := ⟨.int .u8, 1, 1, Value.int .u8 0, [6]⟩
theorem ty6_ok : TyOk Try.prog 6 ty6 := ⟨by kernel_rfl, by kernel_rfl, rfl, rfl⟩
def ty8 : TyE := ⟨.struct [(0, 2), (1, 3), (2, 4), (3, 6)], 4, 24, Value.agg #[Value.int .i64 0, Value.int .i64 0, Value.bool false, Value.int .u8 0], [2, 3, 4, 6]⟩
theorem ty8_ok : TyOk Try.prog 8 ty8 := ⟨by kernel_rfl, by kernel_rfl, rfl, rfl⟩
def ty9 : TyE := ⟨.str, 1, 16, Value.string ByteArray.empty, [9]⟩
theorem ty9_ok : TyOk Try.prog 9 ty9 := ⟨by kernel_rfl, by kernel_rfl, rfl, rfl⟩
def ty10 : TyE := ⟨.str, 1, 16, Value.string ByteArray.empty, [10]⟩
theorem ty10_ok : TyOk Try.prog 10 ty10 := ⟨by kernel_rfl, by kernel_rfl, rfl, rfl⟩
def ty11 : TyE := ⟨.str, 1, 16, Value.string ByteArray.empty, [11]⟩
theorem ty11_ok : TyOk Try.prog 11 ty11 := ⟨by kernel_rfl, by kernel_rfl, rfl, rfl⟩
def ty12 : TyE := ⟨.int .u64, 1, 8, Value.int .u64 0, [12]⟩
theorem ty12_ok : TyOk Try.prog 12 ty12 := ⟨by kernel_rfl, by kernel_rfl, rfl, rfl⟩
def ty14 : TyE := ⟨.struct [(0, 9), (1, 12)], 2, 24, Value.agg #[Value.string ByteArray.empty, Value.int .u64 0], [9, 12]⟩
theorem ty14_ok : TyOk Try.prog 14 ty14 := ⟨by kernel_rfl, by kernel_rfl, rfl, rfl⟩
def ty15 : TyE := ⟨.ptr 71, 1, 8, Value.pointer none, [15]⟩
theorem ty15_ok : TyOk Try.prog 15 ty15 := ⟨by kernel_rfl, by kernel_rfl, rfl, rfl⟩
def ty16 : TyE := ⟨.ptr 74, 1, 8, Value.pointer none, [16]⟩
theorem ty16_ok : TyOk Try.prog 16 ty16 := ⟨by kernel_rfl, by kernel_rfl, rfl, rfl⟩
def ty17 : TyE := ⟨.ptr 83, 1, 8, Value.pointer none, [17]⟩
theorem ty17_ok : TyOk Try.prog 17 ty17 := ⟨by kernel_rfl, by kernel_rfl, rfl, rfl⟩
def ty19 : TyE := ⟨.struct [(0, 17)], 1, 8, Value.agg #[Value.pointer none], [17]⟩
theorem ty19_ok : TyOk Try.prog 19 ty19 := ⟨by kernel_rfl, by kernel_rfl, rfl, rfl⟩
def ty22 : TyE := ⟨.slice 5, 1, 24, Value.slice none 0 0, [22]⟩
theorem ty22_ok : TyOk Try.prog 22 ty22 := ⟨by kernel_rfl, by kernel_rfl, rfl, rfl⟩
def ty23 : TyE := ⟨.int .u32, 1, 4, Value.int .u32 0, [23]⟩
theorem ty23_ok : TyOk Try.prog 23 ty23 := ⟨by kernel_rfl, by kernel_rfl, rfl, rfl⟩
def ty29 : TyE := ⟨.int .u64, 1, 8, Value.int .u64 0, [29]⟩
theorem ty29_ok : TyOk Try.prog 29 ty29 := ⟨by kernel_rfl, by kernel_rfl, rfl, rfl⟩
def ty34 : TyE := ⟨.int .i64, 1, 8, Value.int .i64 0, [34]⟩
theorem ty34_ok : TyOk Try.prog 34 ty34 := ⟨by kernel_rfl, by kernel_rfl, rfl, rfl⟩
def ty35 : TyE := ⟨.other, 1, 0, Value.tuple #[Value.slice none 0 0, Value.int .i64 0], [35]⟩
theorem ty35_ok : TyOk Try.prog 35 ty35 := ⟨by kernel_rfl, by kernel_rfl, rfl, rfl⟩
def ty37 : TyE := ⟨.other, 1, 0, Value.tuple #[Value.slice none 0 0, Value.int .i64 0], [37]⟩
theorem ty37_ok : TyOk Try.prog 37 ty37 := ⟨by kernel_rfl, by kernel_rfl, rfl, rfl⟩
def ty42 : TyE := ⟨.int .u16, 1, 2, Value.int .u16 0, [42]⟩
theorem ty42_ok : TyOk Try.prog 42 ty42 := ⟨by kernel_rfl, by kernel_rfl, rfl, rfl⟩
def ty44 : TyE := ⟨.other, 1, 0, Value.tuple #[Value.int .u64 0, Value.int .i64 0, Value.int .i64 0], [44]⟩
theorem ty44_ok : TyOk Try.prog 44 ty44 := ⟨by kernel_rfl, by kernel_rfl, rfl, rfl⟩
def ty46 : TyE := ⟨.other, 1, 0, Value.tuple #[Value.int .u64 0, Value.int .i64 0, Value.int .i64 0], [46]⟩
theorem ty46_ok : TyOk Try.prog 46 ty46 := ⟨by kernel_rfl, by kernel_rfl, rfl, rfl⟩
def ty50 : TyE := ⟨.other, 1, 0, Value.tuple #[Value.int .i64 0, Value.int .i64 0, Value.int .i64 0], [50]⟩
theorem ty50_ok : TyOk Try.prog 50 ty50 := ⟨by kernel_rfl, by kernel_rfl, rfl, rfl⟩
def ty52 : TyE := ⟨.other, 1, 0, Value.tuple #[Value.int .i64 0, Value.int .i64 0, Value.int .i64 0], [52]⟩
theorem ty52_ok : TyOk Try.prog 52 ty52 := ⟨by kernel_rfl, by kernel_rfl, rfl, rfl⟩
def ty57 : TyE := ⟨.other, 1, 0, Value.tuple #[Value.string ByteArray.empty, Value.int .i64 0, Value.int .i64 0], [57]⟩
theorem ty57_ok : TyOk Try.prog 57 ty57 := ⟨by kernel_rfl, by kernel_rfl, rfl, rfl⟩
def ty59 : TyE := ⟨.other, 1, 0, Value.tuple #[Value.string ByteArray.empty, Value.int .i64 0, Value.int .i64 0], [59]⟩
theorem ty59_ok : TyOk Try.prog 59 ty59 := ⟨by kernel_rfl, by kernel_rfl, rfl, rfl⟩
def ty65 : TyE := ⟨.func, 1, 8, Value.nilFunc, [65]⟩
theorem ty65_ok : TyOk Try.prog 65 ty65 := ⟨by kernel_rfl, by kernel_rfl, rfl, rfl⟩
def ty66 : TyE := ⟨.int .u64, 1, 8, Value.int .u64 0, [66]⟩
theorem ty66_ok : TyOk Try.prog 66 ty66 := ⟨by kernel_rfl, by kernel_rfl, rfl, rfl⟩
def ty71 : TyE := ⟨.struct [(0, 17), (1, 17), (2, 17), (3, 9)], 4, 40, Value.agg #[Value.pointer none, Value.pointer none, Value.pointer none, Value.string ByteArray.empty], [17, 17, 17, 9]⟩
theorem ty71_ok : TyOk Try.prog 71 ty71 := ⟨by kernel_rfl, by kernel_rfl, rfl, rfl⟩
def ty72 : TyE := ⟨.array 0 16, 0, 0, Value.agg #[], []⟩
theorem ty72_ok : TyOk Try.prog 72 ty72 := ⟨by kernel_rfl, by kernel_rfl, rfl, rfl⟩
def ty74 : TyE := ⟨.struct [(0, 72)], 0, 0, Value.agg #[], []⟩
theorem ty74_ok : TyOk Try.prog 74 ty74 := ⟨by kernel_rfl, by kernel_rfl, rfl, rfl⟩
def ty76 : TyE := ⟨.int .u8, 1, 1, Value.int .u8 0, [76]⟩
theorem ty76_ok : TyOk Try.prog 76 ty76 := ⟨by kernel_rfl, by kernel_rfl, rfl, rfl⟩
def ty77 : TyE := ⟨.int .u8, 1, 1, Value.int .u8 0, [77]⟩
theorem ty77_ok : TyOk Try.prog 77 ty77 := ⟨by kernel_rfl, by kernel_rfl, rfl, rfl⟩
def ty78 : TyE := ⟨.func, 1, 8, Value.nilFunc, [78]⟩
theorem ty78_ok : TyOk Try.prog 78 ty78 := ⟨by kernel_rfl, by kernel_rfl, rfl, rfl⟩
def ty79 : TyE := ⟨.ptr 5, 1, 8, Value.pointer none, [79]⟩
theorem ty79_ok : TyOk Try.prog 79 ty79 := ⟨by kernel_rfl, by kernel_rfl, rfl, rfl⟩
def ty80 : TyE := ⟨.int .i32, 1, 4, Value.int .i32 0, [80]⟩
theorem ty80_ok : TyOk Try.prog 80 ty80 := ⟨by kernel_rfl, by kernel_rfl, rfl, rfl⟩
def ty81 : TyE := ⟨.int .i32, 1, 4, Value.int .i32 0, [81]⟩
theorem ty81_ok : TyOk Try.prog 81 ty81 := ⟨by kernel_rfl, by kernel_rfl, rfl, rfl⟩
def ty83 : TyE := ⟨.struct [(0, 12), (1, 12), (2, 23), (3, 76), (4, 5), (5, 5), (6, 77), (7, 78), (8, 79), (9, 80), (10, 81)], 11, 48, Value.agg #[Value.int .u64 0, Value.int .u64 0, Value.int .u32 0, Value.int .u8 0, Value.int .u8 0, Value.int .u8 0, Value.int .u8 0, Value.nilFunc, Value.pointer none, Value.int .i32 0, Value.int .i32 0], [12, 12, 23, 76, 5, 5, 77, 78, 79, 80, 81]⟩
theorem ty83_ok : TyOk Try.prog 83 ty83 := ⟨by kernel_rfl, by kernel_rfl, rfl, rfl⟩
theorem follows : Try.prog.follows .mixedOrders = true := by kernel_rfl
end Go.Proofs.YtcmhpngmjjcloaaG
