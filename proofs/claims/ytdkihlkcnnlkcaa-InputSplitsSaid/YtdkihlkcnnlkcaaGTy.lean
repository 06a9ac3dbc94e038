/- A part of the proof: plain laws, and what functions of the given program come to; no condition. -/
import Derived.Test.YtdkihlkcnnlkcaaGmYvinb
import Derived.Test.YtdkihlkcnnlkcaaGmYcrc
import Derived.Test.YtdkihlkcnnlkcaaProg
namespace Go.Proofs.YtdkihlkcnnlkcaaG
open Go.Proofs.YtdkihlkcnnlkcaaGm
set_option maxRecDepth 100000

def ty0 : TyE := ⟨.other, 1, 0, Value.tuple #[], [0]⟩
theorem ty0_ok : TyOk Try.prog 0 ty0 := ⟨by kernel_rfl, by kernel_rfl, rfl, rfl, by kernel_rfl⟩
def ty1 : TyE := ⟨.func, 1, 8, Value.nilFunc, [1]⟩
theorem ty1_ok : TyOk Try.prog 1 ty1 := ⟨by kernel_rfl, by kernel_rfl, rfl, rfl, by kernel_rfl⟩
def ty2 : TyE := ⟨.int .i64, 1, 8, Value.int .i64 0, [2]⟩
theorem ty2_ok : TyOk Try.prog 2 ty2 := ⟨by kernel_rfl, by kernel_rfl, rfl, rfl, by kernel_rfl⟩
def ty3 : TyE := ⟨.int .i64, 1, 8, Value.int .i64 0, [3]⟩
theorem ty3_ok : TyOk Try.prog 3 ty3 := ⟨by kernel_rfl, by kernel_rfl, rfl, rfl, by kernel_rfl⟩
def ty4 : TyE := ⟨.bool, 1, 1, Value.bool false, [4]⟩
theorem ty4_ok : TyOk Try.prog 4 ty4 := ⟨by kernel_rfl, by kernel_rfl, rfl, rfl, by kernel_rfl⟩
def ty5 : TyE := ⟨.int .u8, 1, 1, Value.int .u8 0, [5]⟩
theorem ty5_ok : TyOk Try.prog 5 ty5 := ⟨by kernel_rfl, by kernel_rfl, rfl, rfl, by kernel_rfl⟩
def ty9 : TyE := ⟨.str, 1, 16, Value.string ByteArray.empty, [9]⟩
theorem ty9_ok : TyOk Try.prog 9 ty9 := ⟨by kernel_rfl, by kernel_rfl, rfl, rfl, by kernel_rfl⟩
def ty10 : TyE := ⟨.str, 1, 16, Value.string ByteArray.empty, [10]⟩
theorem ty10_ok : TyOk Try.prog 10 ty10 := ⟨by kernel_rfl, by kernel_rfl, rfl, rfl, by kernel_rfl⟩
def ty11 : TyE := ⟨.str, 1, 16, Value.string ByteArray.empty, [11]⟩
theorem ty11_ok : TyOk Try.prog 11 ty11 := ⟨by kernel_rfl, by kernel_rfl, rfl, rfl, by kernel_rfl⟩
def ty15 : TyE := ⟨.ptr 116, 1, 8, Value.pointer none, [15]⟩
theorem ty15_ok : TyOk Try.prog 15 ty15 := ⟨by kernel_rfl, by kernel_rfl, rfl, rfl, by kernel_rfl⟩
def ty16 : TyE := ⟨.ptr 119, 1, 8, Value.pointer none, [16]⟩
theorem ty16_ok : TyOk Try.prog 16 ty16 := ⟨by kernel_rfl, by kernel_rfl, rfl, rfl, by kernel_rfl⟩
def ty17 : TyE := ⟨.ptr 128, 1, 8, Value.pointer none, [17]⟩
theorem ty17_ok : TyOk Try.prog 17 ty17 := ⟨by kernel_rfl, by kernel_rfl, rfl, rfl, by kernel_rfl⟩
def ty22 : TyE := ⟨.int .u32, 1, 4, Value.int .u32 0, [22]⟩
theorem ty22_ok : TyOk Try.prog 22 ty22 := ⟨by kernel_rfl, by kernel_rfl, rfl, rfl, by kernel_rfl⟩
def ty23 : TyE := ⟨.slice 5, 1, 24, Value.slice none 0 0, [23]⟩
theorem ty23_ok : TyOk Try.prog 23 ty23 := ⟨by kernel_rfl, by kernel_rfl, rfl, rfl, by kernel_rfl⟩
def ty24 : TyE := ⟨.slice 35, 1, 24, Value.slice none 0 0, [24]⟩
theorem ty24_ok : TyOk Try.prog 24 ty24 := ⟨by kernel_rfl, by kernel_rfl, rfl, rfl, by kernel_rfl⟩
def ty25 : TyE := ⟨.int .i64, 1, 8, Value.int .i64 0, [25]⟩
theorem ty25_ok : TyOk Try.prog 25 ty25 := ⟨by kernel_rfl, by kernel_rfl, rfl, rfl, by kernel_rfl⟩
def ty26 : TyE := ⟨.other, 1, 0, Value.tuple #[Value.slice none 0 0, Value.int .i64 0, Value.int .i64 0], [26]⟩
theorem ty26_ok : TyOk Try.prog 26 ty26 := ⟨by kernel_rfl, by kernel_rfl, rfl, rfl, by kernel_rfl⟩
def ty28 : TyE := ⟨.other, 1, 0, Value.tuple #[Value.slice none 0 0, Value.int .i64 0, Value.int .i64 0], [28]⟩
theorem ty28_ok : TyOk Try.prog 28 ty28 := ⟨by kernel_rfl, by kernel_rfl, rfl, rfl, by kernel_rfl⟩
def ty35 : TyE := ⟨.struct [(0, 3), (1, 9)], 2, 24, Value.agg #[Value.int .i64 0, Value.string ByteArray.empty], [3, 9]⟩
theorem ty35_ok : TyOk Try.prog 35 ty35 := ⟨by kernel_rfl, by kernel_rfl, rfl, rfl, by kernel_rfl⟩
def ty37 : TyE := ⟨.other, 1, 0, Value.tuple #[Value.string ByteArray.empty, Value.bool false], [37]⟩
theorem ty37_ok : TyOk Try.prog 37 ty37 := ⟨by kernel_rfl, by kernel_rfl, rfl, rfl, by kernel_rfl⟩
def ty39 : TyE := ⟨.other, 1, 0, Value.tuple #[Value.int .i64 0, Value.bool false], [39]⟩
theorem ty39_ok : TyOk Try.prog 39 ty39 := ⟨by kernel_rfl, by kernel_rfl, rfl, rfl, by kernel_rfl⟩
def ty42 : TyE := ⟨.other, 1, 0, Value.tuple #[Value.slice none 0 0, Value.int .i64 0], [42]⟩
theorem ty42_ok : TyOk Try.prog 42 ty42 := ⟨by kernel_rfl, by kernel_rfl, rfl, rfl, by kernel_rfl⟩
def ty44 : TyE := ⟨.slice 9, 1, 24, Value.slice none 0 0, [44]⟩
theorem ty44_ok : TyOk Try.prog 44 ty44 := ⟨by kernel_rfl, by kernel_rfl, rfl, rfl, by kernel_rfl⟩
def ty47 : TyE := ⟨.struct [(0, 9), (1, 9)], 2, 32, Value.agg #[Value.string ByteArray.empty, Value.string ByteArray.empty], [9, 9]⟩
theorem ty47_ok : TyOk Try.prog 47 ty47 := ⟨by kernel_rfl, by kernel_rfl, rfl, rfl, by kernel_rfl⟩
def ty48 : TyE := ⟨.slice 47, 1, 24, Value.slice none 0 0, [48]⟩
theorem ty48_ok : TyOk Try.prog 48 ty48 := ⟨by kernel_rfl, by kernel_rfl, rfl, rfl, by kernel_rfl⟩
def ty50 : TyE := ⟨.int .u16, 1, 2, Value.int .u16 0, [50]⟩
theorem ty50_ok : TyOk Try.prog 50 ty50 := ⟨by kernel_rfl, by kernel_rfl, rfl, rfl, by kernel_rfl⟩
def ty51 : TyE := ⟨.slice 3, 1, 24, Value.slice none 0 0, [51]⟩
theorem ty51_ok : TyOk Try.prog 51 ty51 := ⟨by kernel_rfl, by kernel_rfl, rfl, rfl, by kernel_rfl⟩
def ty52 : TyE := ⟨.slice 54, 1, 24, Value.slice none 0 0, [52]⟩
theorem ty52_ok : TyOk Try.prog 52 ty52 := ⟨by kernel_rfl, by kernel_rfl, rfl, rfl, by kernel_rfl⟩
def ty54 : TyE := ⟨.array 2 3, 2, 16, Value.agg #[Value.int .i64 0, Value.int .i64 0], [3, 3]⟩
theorem ty54_ok : TyOk Try.prog 54 ty54 := ⟨by kernel_rfl, by kernel_rfl, rfl, rfl, by kernel_rfl⟩
def ty58 : TyE := ⟨.func, 1, 8, Value.nilFunc, [58]⟩
theorem ty58_ok : TyOk Try.prog 58 ty58 := ⟨by kernel_rfl, by kernel_rfl, rfl, rfl, by kernel_rfl⟩
def ty60 : TyE := ⟨.other, 1, 0, Value.tuple #[Value.slice none 0 0, Value.int .i64 0, Value.int .i64 0], [60]⟩
theorem ty60_ok : TyOk Try.prog 60 ty60 := ⟨by kernel_rfl, by kernel_rfl, rfl, rfl, by kernel_rfl⟩
def ty62 : TyE := ⟨.other, 1, 0, Value.tuple #[Value.slice none 0 0, Value.int .i64 0, Value.int .i64 0], [62]⟩
theorem ty62_ok : TyOk Try.prog 62 ty62 := ⟨by kernel_rfl, by kernel_rfl, rfl, rfl, by kernel_rfl⟩
def ty64 : TyE := ⟨.other, 1, 0, Value.tuple #[Value.slice none 0 0, Value.int .i64 0, Value.int .i64 0], [64]⟩
theorem ty64_ok : TyOk Try.prog 64 ty64 := ⟨by kernel_rfl, by kernel_rfl, rfl, rfl, by kernel_rfl⟩
def ty66 : TyE := ⟨.other, 1, 0, Value.tuple #[Value.slice none 0 0, Value.int .i64 0, Value.int .i64 0], [66]⟩
theorem ty66_ok : TyOk Try.prog 66 ty66 := ⟨by kernel_rfl, by kernel_rfl, rfl, rfl, by kernel_rfl⟩
def ty74 : TyE := ⟨.func, 1, 8, Value.nilFunc, [74]⟩
theorem ty74_ok : TyOk Try.prog 74 ty74 := ⟨by kernel_rfl, by kernel_rfl, rfl, rfl, by kernel_rfl⟩
def ty75 : TyE := ⟨.func, 1, 8, Value.nilFunc, [75]⟩
theorem ty75_ok : TyOk Try.prog 75 ty75 := ⟨by kernel_rfl, by kernel_rfl, rfl, rfl, by kernel_rfl⟩
def ty78 : TyE := ⟨.func, 1, 8, Value.nilFunc, [78]⟩
theorem ty78_ok : TyOk Try.prog 78 ty78 := ⟨by kernel_rfl, by kernel_rfl, rfl, rfl, by kernel_rfl⟩
def ty80 : TyE := ⟨.func, 1, 8, Value.nilFunc, [80]⟩
theorem ty80_ok : TyOk Try.prog 80 ty80 := ⟨by kernel_rfl, by kernel_rfl, rfl, rfl, by kernel_rfl⟩
def ty82 : TyE := ⟨.func, 1, 8, Value.nilFunc, [82]⟩
theorem ty82_ok : TyOk Try.prog 82 ty82 := ⟨by kernel_rfl, by kernel_rfl, rfl, rfl, by kernel_rfl⟩
def ty89 : TyE := ⟨.func, 1, 8, Value.nilFunc, [89]⟩
theorem ty89_ok : TyOk Try.prog 89 ty89 := ⟨by kernel_rfl, by kernel_rfl, rfl, rfl, by kernel_rfl⟩
def ty92 : TyE := ⟨.func, 1, 8, Value.nilFunc, [92]⟩
theorem ty92_ok : TyOk Try.prog 92 ty92 := ⟨by kernel_rfl, by kernel_rfl, rfl, rfl, by kernel_rfl⟩
def ty94 : TyE := ⟨.int .u64, 1, 8, Value.int .u64 0, [94]⟩
theorem ty94_ok : TyOk Try.prog 94 ty94 := ⟨by kernel_rfl, by kernel_rfl, rfl, rfl, by kernel_rfl⟩
def ty96 : TyE := ⟨.func, 1, 8, Value.nilFunc, [96]⟩
theorem ty96_ok : TyOk Try.prog 96 ty96 := ⟨by kernel_rfl, by kernel_rfl, rfl, rfl, by kernel_rfl⟩
def ty101 : TyE := ⟨.other, 1, 0, Value.tuple #[Value.int .u64 0, Value.int .i64 0, Value.int .i64 0], [101]⟩
theorem ty101_ok : TyOk Try.prog 101 ty101 := ⟨by kernel_rfl, by kernel_rfl, rfl, rfl, by kernel_rfl⟩
def ty103 : TyE := ⟨.other, 1, 0, Value.tuple #[Value.string ByteArray.empty, Value.int .i64 0, Value.int .i64 0], [103]⟩
theorem ty103_ok : TyOk Try.prog 103 ty103 := ⟨by kernel_rfl, by kernel_rfl, rfl, rfl, by kernel_rfl⟩
def ty105 : TyE := ⟨.other, 1, 0, Value.tuple #[Value.int .u64 0, Value.int .i64 0, Value.int .i64 0], [105]⟩
theorem ty105_ok : TyOk Try.prog 105 ty105 := ⟨by kernel_rfl, by kernel_rfl, rfl, rfl, by kernel_rfl⟩
def ty107 : TyE := ⟨.other, 1, 0, Value.tuple #[Value.string ByteArray.empty, Value.int .i64 0, Value.int .i64 0], [107]⟩
theorem ty107_ok : TyOk Try.prog 107 ty107 := ⟨by kernel_rfl, by kernel_rfl, rfl, rfl, by kernel_rfl⟩
def ty113 : TyE := ⟨.int .u64, 1, 8, Value.int .u64 0, [113]⟩
theorem ty113_ok : TyOk Try.prog 113 ty113 := ⟨by kernel_rfl, by kernel_rfl, rfl, rfl, by kernel_rfl⟩
def ty122 : TyE := ⟨.int .u8, 1, 1, Value.int .u8 0, [122]⟩
theorem ty122_ok : TyOk Try.prog 122 ty122 := ⟨by kernel_rfl, by kernel_rfl, rfl, rfl, by kernel_rfl⟩
theorem follows : Try.prog.follows .mixedOrders = true := by kernel_rfl
end Go.Proofs.YtdkihlkcnnlkcaaG
