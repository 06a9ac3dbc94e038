/- A part of the proof: plain laws, and what functions of the given program come to; no condition. -/
import Derived.Test.YtjdojmjkldpgnaaGmYvinb
import Derived.Test.YtjdojmjkldpgnaaGmYval
import Derived.Test.YtjdojmjkldpgnaaGmYcrc
import Derived.Test.YtjdojmjkldpgnaaProg
namespace Go.Proofs.YtjdojmjkldpgnaaG
open Go.Proofs.YtjdojmjkldpgnaaGm
set_option maxRecDepth 100000

def ty0 : TyE := ⟨.other, 1, 0, Value.tuple #[], [0]⟩
theorem ty0_ok : TyOk Try.prog 0 ty0 := ⟨by kernel_rfl, by kernel_rfl, rfl, rfl, by kernel_rfl⟩
def ty1 : TyE := ⟨.func, 1, 8, Value.nilFunc, [1]⟩
theorem ty1_ok : TyOk Try.prog 1 ty1 := ⟨by kernel_rfl, by kernel_rfl, rfl, rfl, by kernel_rfl⟩
def ty2 : TyE := ⟨.int .i64, 1, 8, Value.int .i64 0, [2]⟩
theorem ty2_ok : TyOk Try.prog 2 ty2 := ⟨by kernel_rfl, by kernel_rfl, rfl, rfl, by kernel_rfl⟩
def ty3 : TyE := ⟨.int .i64, 1, 8, Value.int .i64 0, [3]⟩
theorem ty3_ok : TyOk Try.prog 3 ty3 := ⟨by kernel_rfl, by kernel_rfl, rfl, rfl, by kernel_rfl⟩
def ty4 : TyE := ⟨.bool, 1, 1, Value.bool false, [4]⟩
theorem ty4_ok : TyOk Try.prog 4 ty4 := ⟨by kernel_rfl, by kernel_rfl, rfl, rfl, by kernel_rfl⟩
def ty5 : TyE := ⟨.int .u8, 1, 1, Value.int .u8 0, [5]⟩
theorem ty5_ok : TyOk Try.prog 5 ty5 := ⟨by kernel_rfl, by kernel_rfl, rfl, rfl, by kernel_rfl⟩
def ty6 : TyE := ⟨.int .u8, 1, 1, Value.int .u8 0, [6]⟩
theorem ty6_ok : TyOk Try.prog 6 ty6 := ⟨by kernel_rfl, by kernel_rfl, rfl, rfl, by kernel_rfl⟩
def ty9 : TyE := ⟨.str, 1, 16, Value.string ByteArray.empty, [9]⟩
theorem ty9_ok : TyOk Try.prog 9 ty9 := ⟨by kernel_rfl, by kernel_rfl, rfl, rfl, by kernel_rfl⟩
def ty10 : TyE := ⟨.str, 1, 16, Value.string ByteArray.empty, [10]⟩
theorem ty10_ok : TyOk Try.prog 10 ty10 := ⟨by kernel_rfl, by kernel_rfl, rfl, rfl, by kernel_rfl⟩
def ty11 : TyE := ⟨.str, 1, 16, Value.string ByteArray.empty, [11]⟩
theorem ty11_ok : TyOk Try.prog 11 ty11 := ⟨by kernel_rfl, by kernel_rfl, rfl, rfl, by kernel_rfl⟩
def ty15 : TyE := ⟨.ptr 72, 1, 8, Value.pointer none, [15]⟩
theorem ty15_ok : TyOk Try.prog 15 ty15 := ⟨by kernel_rfl, by kernel_rfl, rfl, rfl, by kernel_rfl⟩
def ty16 : TyE := ⟨.ptr 75, 1, 8, Value.pointer none, [16]⟩
theorem ty16_ok : TyOk Try.prog 16 ty16 := ⟨by kernel_rfl, by kernel_rfl, rfl, rfl, by kernel_rfl⟩
def ty17 : TyE := ⟨.ptr 84, 1, 8, Value.pointer none, [17]⟩
theorem ty17_ok : TyOk Try.prog 17 ty17 := ⟨by kernel_rfl, by kernel_rfl, rfl, rfl, by kernel_rfl⟩
def ty22 : TyE := ⟨.slice 5, 1, 24, Value.slice none 0 0, [22]⟩
theorem ty22_ok : TyOk Try.prog 22 ty22 := ⟨by kernel_rfl, by kernel_rfl, rfl, rfl, by kernel_rfl⟩
def ty24 : TyE := ⟨.slice 3, 1, 24, Value.slice none 0 0, [24]⟩
theorem ty24_ok : TyOk Try.prog 24 ty24 := ⟨by kernel_rfl, by kernel_rfl, rfl, rfl, by kernel_rfl⟩
def ty26 : TyE := ⟨.struct [(0, 3), (1, 3), (2, 3), (3, 3), (4, 24), (5, 22), (6, 22)], 7, 104, Value.agg #[Value.int .i64 0, Value.int .i64 0, Value.int .i64 0, Value.int .i64 0, Value.slice none 0 0, Value.slice none 0 0, Value.slice none 0 0], [3, 3, 3, 3, 24, 22, 22]⟩
theorem ty26_ok : TyOk Try.prog 26 ty26 := ⟨by kernel_rfl, by kernel_rfl, rfl, rfl, by kernel_rfl⟩
def ty27 : TyE := ⟨.int .i64, 1, 8, Value.int .i64 0, [27]⟩
theorem ty27_ok : TyOk Try.prog 27 ty27 := ⟨by kernel_rfl, by kernel_rfl, rfl, rfl, by kernel_rfl⟩
def ty28 : TyE := ⟨.other, 1, 0, Value.tuple #[Value.agg #[Value.int .i64 0, Value.int .i64 0, Value.int .i64 0, Value.int .i64 0, Value.slice none 0 0, Value.slice none 0 0, Value.slice none 0 0], Value.int .i64 0], [28]⟩
theorem ty28_ok : TyOk Try.prog 28 ty28 := ⟨by kernel_rfl, by kernel_rfl, rfl, rfl, by kernel_rfl⟩
def ty30 : TyE := ⟨.other, 1, 0, Value.tuple #[Value.agg #[Value.int .i64 0, Value.int .i64 0, Value.int .i64 0, Value.int .i64 0, Value.slice none 0 0, Value.slice none 0 0, Value.slice none 0 0], Value.int .i64 0], [30]⟩
theorem ty30_ok : TyOk Try.prog 30 ty30 := ⟨by kernel_rfl, by kernel_rfl, rfl, rfl, by kernel_rfl⟩
def ty32 : TyE := ⟨.slice 9, 1, 24, Value.slice none 0 0, [32]⟩
theorem ty32_ok : TyOk Try.prog 32 ty32 := ⟨by kernel_rfl, by kernel_rfl, rfl, rfl, by kernel_rfl⟩
def ty37 : TyE := ⟨.other, 1, 0, Value.tuple #[Value.slice none 0 0, Value.int .i64 0], [37]⟩
theorem ty37_ok : TyOk Try.prog 37 ty37 := ⟨by kernel_rfl, by kernel_rfl, rfl, rfl, by kernel_rfl⟩
def ty42 : TyE := ⟨.ptr 44, 1, 8, Value.pointer none, [42]⟩
theorem ty42_ok : TyOk Try.prog 42 ty42 := ⟨by kernel_rfl, by kernel_rfl, rfl, rfl, by kernel_rfl⟩
def ty44 : TyE := ⟨.struct [(0, 22), (1, 3), (2, 27)], 3, 40, Value.agg #[Value.slice none 0 0, Value.int .i64 0, Value.int .i64 0], [22, 3, 27]⟩
theorem ty44_ok : TyOk Try.prog 44 ty44 := ⟨by kernel_rfl, by kernel_rfl, rfl, rfl, by kernel_rfl⟩
def ty47 : TyE := ⟨.int .u64, 1, 8, Value.int .u64 0, [47]⟩
theorem ty47_ok : TyOk Try.prog 47 ty47 := ⟨by kernel_rfl, by kernel_rfl, rfl, rfl, by kernel_rfl⟩
def ty48 : TyE := ⟨.other, 1, 0, Value.tuple #[Value.int .u64 0, Value.int .i64 0, Value.int .i64 0], [48]⟩
theorem ty48_ok : TyOk Try.prog 48 ty48 := ⟨by kernel_rfl, by kernel_rfl, rfl, rfl, by kernel_rfl⟩
def ty50 : TyE := ⟨.other, 1, 0, Value.tuple #[Value.string ByteArray.empty, Value.int .i64 0, Value.int .i64 0], [50]⟩
theorem ty50_ok : TyOk Try.prog 50 ty50 := ⟨by kernel_rfl, by kernel_rfl, rfl, rfl, by kernel_rfl⟩
def ty60 : TyE := ⟨.other, 1, 0, Value.tuple #[Value.int .u64 0, Value.int .i64 0, Value.int .i64 0], [60]⟩
theorem ty60_ok : TyOk Try.prog 60 ty60 := ⟨by kernel_rfl, by kernel_rfl, rfl, rfl, by kernel_rfl⟩
def ty62 : TyE := ⟨.other, 1, 0, Value.tuple #[Value.string ByteArray.empty, Value.int .i64 0, Value.int .i64 0], [62]⟩
theorem ty62_ok : TyOk Try.prog 62 ty62 := ⟨by kernel_rfl, by kernel_rfl, rfl, rfl, by kernel_rfl⟩
def ty68 : TyE := ⟨.int .u64, 1, 8, Value.int .u64 0, [68]⟩
theorem ty68_ok : TyOk Try.prog 68 ty68 := ⟨by kernel_rfl, by kernel_rfl, rfl, rfl, by kernel_rfl⟩
def ty78 : TyE := ⟨.int .u8, 1, 1, Value.int .u8 0, [78]⟩
theorem ty78_ok : TyOk Try.prog 78 ty78 := ⟨by kernel_rfl, by kernel_rfl, rfl, rfl, by kernel_rfl⟩
theorem follows : Try.prog.follows .mixedOrders = true := by kernel_rfl
end Go.Proofs.YtjdojmjkldpgnaaG
