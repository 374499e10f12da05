/- The table of types. -/
import Derived.Test.YtogfcpaalcebdaaCEng24
import Derived.Test.YtogfcpaalcebdaaProg
namespace Go.Proofs.YtogfcpaalcebdaaE
open Go Go.RowKit
set_option linter.unusedVariables false
set_option linter.unusedSimpArgs false
set_option maxRecDepth 100000
def ti1 : TI := ⟨1, 8, false, .oth, Value.nilFunc⟩
def ti2 : TI := ⟨1, 8, false, .int .i64, (Value.int IntKind.i64 0)⟩
def ti3 : TI := ⟨1, 8, false, .int .i64, (Value.int IntKind.i64 0)⟩
def ti4 : TI := ⟨1, 1, false, .bool, (Value.bool false)⟩
def ti5 : TI := ⟨1, 1, false, .int .u8, (Value.int IntKind.u8 0)⟩
def ti6 : TI := ⟨1, 1, false, .int .u8, (Value.int IntKind.u8 0)⟩
def ti7 : TI := ⟨4, 24, true, .st [(0, 2), (1, 3), (2, 4), (3, 6)], (Value.agg #[Value.int IntKind.i64 0, Value.int IntKind.i64 0, Value.bool false, Value.int IntKind.u8 0])⟩
def ti8 : TI := ⟨4, 24, true, .st [(0, 2), (1, 3), (2, 4), (3, 6)], (Value.agg #[Value.int IntKind.i64 0, Value.int IntKind.i64 0, Value.bool false, Value.int IntKind.u8 0])⟩
def ti9 : TI := ⟨1, 16, false, .str, (Value.string { data := #[] })⟩
def ti10 : TI := ⟨1, 16, false, .str, (Value.string { data := #[] })⟩
def ti11 : TI := ⟨1, 16, false, .str, (Value.string { data := #[] })⟩
def ti12 : TI := ⟨1, 8, false, .int .u64, (Value.int IntKind.u64 0)⟩
def ti22 : TI := ⟨1, 24, false, .slc 5, (Value.slice none 0 0)⟩
def ti23 : TI := ⟨1, 24, false, .slc 3, (Value.slice none 0 0)⟩
def ti24 : TI := ⟨1, 24, false, .slc 45, (Value.slice none 0 0)⟩
def ti26 : TI := ⟨7, 88, true, .st [(0, 3), (1, 3), (2, 3), (3, 23), (4, 3), (5, 3), (6, 24)], (Value.agg #[Value.int IntKind.i64 0, Value.int IntKind.i64 0, Value.int IntKind.i64 0, Value.slice none 0 0, Value.int IntKind.i64 0, Value.int IntKind.i64 0, Value.slice none 0 0])⟩
def ti28 : TI := ⟨1, 24, false, .slc 22, (Value.slice none 0 0)⟩
def ti29 : TI := ⟨1, 24, false, .slc 41, (Value.slice none 0 0)⟩
def ti31 : TI := ⟨4, 80, true, .st [(0, 23), (1, 5), (2, 23), (3, 29)], (Value.agg #[Value.slice none 0 0, Value.int IntKind.u8 0, Value.slice none 0 0, Value.slice none 0 0])⟩
def ti32 : TI := ⟨1, 2, false, .int .u16, (Value.int IntKind.u16 0)⟩
def ti33 : TI := ⟨1, 2, false, .int .u16, (Value.int IntKind.u16 0)⟩
def ti36 : TI := ⟨1, 8, false, .oth, Value.nilFunc⟩
def ti41 : TI := ⟨6, 48, true, .st [(0, 3), (1, 3), (2, 5), (3, 3), (4, 3), (5, 3)], (Value.agg #[Value.int IntKind.i64 0, Value.int IntKind.i64 0, Value.int IntKind.u8 0, Value.int IntKind.i64 0, Value.int IntKind.i64 0, Value.int IntKind.i64 0])⟩
def ti45 : TI := ⟨1, 24, false, .slc 54, (Value.slice none 0 0)⟩
def ti54 : TI := ⟨4, 32, true, .st [(0, 5), (1, 3), (2, 3), (3, 3)], (Value.agg #[Value.int IntKind.u8 0, Value.int IntKind.i64 0, Value.int IntKind.i64 0, Value.int IntKind.i64 0])⟩
def ti56 : TI := ⟨1, 8, false, .ptr, (Value.pointer none)⟩
def ti60 : TI := ⟨1, 8, false, .oth, Value.nilFunc⟩
def ti61 : TI := ⟨1, 8, false, .ptr, (Value.pointer none)⟩
def ti63 : TI := ⟨5, 88, true, .st [(0, 61), (1, 31)], (Value.agg #[Value.pointer none, Value.slice none 0 0, Value.int IntKind.u8 0, Value.slice none 0 0, Value.slice none 0 0])⟩
def ti65 : TI := ⟨1, 24, false, .slc 23, (Value.slice none 0 0)⟩
def ti67 : TI := ⟨19, 360, true, .st [(0, 26), (7, 23), (8, 23), (9, 65), (10, 23), (11, 23), (12, 23), (13, 65), (14, 23), (15, 23), (16, 23), (17, 23), (18, 3)], (Value.agg #[Value.int IntKind.i64 0, Value.int IntKind.i64 0, Value.int IntKind.i64 0, Value.slice none 0 0, Value.int IntKind.i64 0, Value.int IntKind.i64 0, Value.slice none 0 0, Value.slice none 0 0, Value.slice none 0 0, Value.slice none 0 0, Value.slice none 0 0, Value.slice none 0 0, Value.slice none 0 0, Value.slice none 0 0, Value.slice none 0 0, Value.slice none 0 0, Value.slice none 0 0, Value.slice none 0 0, Value.int IntKind.i64 0])⟩
def ti79 : TI := ⟨1, 24, false, .slc 85, (Value.slice none 0 0)⟩
def ti80 : TI := ⟨1, 24, false, .slc 100, (Value.slice none 0 0)⟩
def ti82 : TI := ⟨16, 288, true, .st [(0, 26), (7, 79), (8, 23), (9, 23), (10, 23), (11, 80), (12, 23), (13, 23), (14, 23), (15, 4)], (Value.agg #[Value.int IntKind.i64 0, Value.int IntKind.i64 0, Value.int IntKind.i64 0, Value.slice none 0 0, Value.int IntKind.i64 0, Value.int IntKind.i64 0, Value.slice none 0 0, Value.slice none 0 0, Value.slice none 0 0, Value.slice none 0 0, Value.slice none 0 0, Value.slice none 0 0, Value.slice none 0 0, Value.slice none 0 0, Value.slice none 0 0, Value.bool false])⟩
def ti83 : TI := ⟨4, 32, true, .arr 4 3, (Value.agg #[Value.int IntKind.i64 0, Value.int IntKind.i64 0, Value.int IntKind.i64 0, Value.int IntKind.i64 0])⟩
def ti85 : TI := ⟨6, 48, true, .st [(0, 4), (1, 3), (2, 83)], (Value.agg #[Value.bool false, Value.int IntKind.i64 0, Value.int IntKind.i64 0, Value.int IntKind.i64 0, Value.int IntKind.i64 0, Value.int IntKind.i64 0])⟩
def ti94 : TI := ⟨1, 8, false, .ptr, (Value.pointer none)⟩
def ti96 : TI := ⟨1, 8, false, .ptr, (Value.pointer none)⟩
def ti100 : TI := ⟨2, 32, true, .st [(0, 23), (1, 4)], (Value.agg #[Value.slice none 0 0, Value.bool false])⟩
def ti103 : TI := ⟨1, 8, false, .oth, Value.nilFunc⟩
def ti117 : TI := ⟨1, 1, false, .int .u8, (Value.int IntKind.u8 0)⟩
def ti118 : TI := ⟨3, 3, true, .arr 3 117, (Value.agg #[Value.int IntKind.u8 0, Value.int IntKind.u8 0, Value.int IntKind.u8 0])⟩
def ti120 : TI := ⟨7, 24, true, .st [(0, 9), (1, 118), (4, 4), (5, 4), (6, 4)], (Value.agg #[Value.string { data := #[] }, Value.int IntKind.u8 0, Value.int IntKind.u8 0, Value.int IntKind.u8 0, Value.bool false, Value.bool false, Value.bool false])⟩
def ti123 : TI := ⟨3, 24, true, .arr 3 3, (Value.agg #[Value.int IntKind.i64 0, Value.int IntKind.i64 0, Value.int IntKind.i64 0])⟩
def ti125 : TI := ⟨196, 672, true, .arr 28 120, (Value.agg (([Value.string { data := #[] }, Value.int IntKind.u8 0, Value.int IntKind.u8 0, Value.int IntKind.u8 0, Value.bool false, Value.bool false, Value.bool false, Value.string { data := #[] }, Value.int IntKind.u8 0, Value.int IntKind.u8 0, Value.int IntKind.u8 0, Value.bool false, Value.bool false, Value.bool false, Value.string { data := #[] }, Value.int IntKind.u8 0, Value.int IntKind.u8 0, Value.int IntKind.u8 0, Value.bool false, Value.bool false, Value.bool false, Value.string { data := #[] }, Value.int IntKind.u8 0, Value.int IntKind.u8 0, Value.int IntKind.u8 0, Value.bool false, Value.bool false, Value.bool false, Value.string { data := #[] }, Value.int IntKind.u8 0, Value.int IntKind.u8 0, Value.int IntKind.u8 0, Value.bool false, Value.bool false, Value.bool false, Value.string { data := #[] }, Value.int IntKind.u8 0, Value.int IntKind.u8 0, Value.int IntKind.u8 0, Value.bool false, Value.bool false, Value.bool false, Value.string { data := #[] }, Value.int IntKind.u8 0, Value.int IntKind.u8 0, Value.int IntKind.u8 0, Value.bool false, Value.bool false, Value.bool false].append [Value.string { data := #[] }, Value.int IntKind.u8 0, Value.int IntKind.u8 0, Value.int IntKind.u8 0, Value.bool false, Value.bool false, Value.bool false, Value.string { data := #[] }, Value.int IntKind.u8 0, Value.int IntKind.u8 0, Value.int IntKind.u8 0, Value.bool false, Value.bool false, Value.bool false, Value.string { data := #[] }, Value.int IntKind.u8 0, Value.int IntKind.u8 0, Value.int IntKind.u8 0, Value.bool false, Value.bool false, Value.bool false, Value.string { data := #[] }, Value.int IntKind.u8 0, Value.int IntKind.u8 0, Value.int IntKind.u8 0, Value.bool false, Value.bool false, Value.bool false, Value.string { data := #[] }, Value.int IntKind.u8 0, Value.int IntKind.u8 0, Value.int IntKind.u8 0, Value.bool false, Value.bool false, Value.bool false, Value.string { data := #[] }, Value.int IntKind.u8 0, Value.int IntKind.u8 0, Value.int IntKind.u8 0, Value.bool false, Value.bool false, Value.bool false, Value.string { data := #[] }, Value.int IntKind.u8 0, Value.int IntKind.u8 0, Value.int IntKind.u8 0, Value.bool false, Value.bool false, Value.bool false]).append ([Value.string { data := #[] }, Value.int IntKind.u8 0, Value.int IntKind.u8 0, Value.int IntKind.u8 0, Value.bool false, Value.bool false, Value.bool false, Value.string { data := #[] }, Value.int IntKind.u8 0, Value.int IntKind.u8 0, Value.int IntKind.u8 0, Value.bool false, Value.bool false, Value.bool false, Value.string { data := #[] }, Value.int IntKind.u8 0, Value.int IntKind.u8 0, Value.int IntKind.u8 0, Value.bool false, Value.bool false, Value.bool false, Value.string { data := #[] }, Value.int IntKind.u8 0, Value.int IntKind.u8 0, Value.int IntKind.u8 0, Value.bool false, Value.bool false, Value.bool false, Value.string { data := #[] }, Value.int IntKind.u8 0, Value.int IntKind.u8 0, Value.int IntKind.u8 0, Value.bool false, Value.bool false, Value.bool false, Value.string { data := #[] }, Value.int IntKind.u8 0, Value.int IntKind.u8 0, Value.int IntKind.u8 0, Value.bool false, Value.bool false, Value.bool false, Value.string { data := #[] }, Value.int IntKind.u8 0, Value.int IntKind.u8 0, Value.int IntKind.u8 0, Value.bool false, Value.bool false, Value.bool false].append [Value.string { data := #[] }, Value.int IntKind.u8 0, Value.int IntKind.u8 0, Value.int IntKind.u8 0, Value.bool false, Value.bool false, Value.bool false, Value.string { data := #[] }, Value.int IntKind.u8 0, Value.int IntKind.u8 0, Value.int IntKind.u8 0, Value.bool false, Value.bool false, Value.bool false, Value.string { data := #[] }, Value.int IntKind.u8 0, Value.int IntKind.u8 0, Value.int IntKind.u8 0, Value.bool false, Value.bool false, Value.bool false, Value.string { data := #[] }, Value.int IntKind.u8 0, Value.int IntKind.u8 0, Value.int IntKind.u8 0, Value.bool false, Value.bool false, Value.bool false, Value.string { data := #[] }, Value.int IntKind.u8 0, Value.int IntKind.u8 0, Value.int IntKind.u8 0, Value.bool false, Value.bool false, Value.bool false, Value.string { data := #[] }, Value.int IntKind.u8 0, Value.int IntKind.u8 0, Value.int IntKind.u8 0, Value.bool false, Value.bool false, Value.bool false, Value.string { data := #[] }, Value.int IntKind.u8 0, Value.int IntKind.u8 0, Value.int IntKind.u8 0, Value.bool false, Value.bool false, Value.bool false])).toArray)⟩
def tab : Tab := [(1, ti1), (2, ti2), (3, ti3), (4, ti4), (5, ti5), (6, ti6), (7, ti7), (8, ti8), (9, ti9), (10, ti10), (11, ti11), (12, ti12), (22, ti22), (23, ti23), (24, ti24), (26, ti26), (28, ti28), (29, ti29), (31, ti31), (32, ti32), (33, ti33), (36, ti36), (41, ti41), (45, ti45), (54, ti54), (56, ti56), (60, ti60), (61, ti61), (63, ti63), (65, ti65), (67, ti67), (79, ti79), (80, ti80), (82, ti82), (83, ti83), (85, ti85), (94, ti94), (96, ti96), (100, ti100), (103, ti103), (117, ti117), (118, ti118), (120, ti120), (123, ti123), (125, ti125)]
theorem ok1 : TOk1 Try.prog 1 ti1 := ⟨⟨_, Try.t1, Try.underlying1, Try.type1, rfl, rfl, rfl, trivial, rfl⟩, rfl, by decide, by simp [ti1, Value.cells, zcell, nilS, Plain], fun _ h => by cases h⟩
theorem lk1 : look tab 1 = some ti1 := rfl
theorem ok2 : TOk1 Try.prog 2 ti2 := ⟨⟨_, Try.t2, Try.underlying2, Try.type2, rfl, rfl, rfl, rfl, rfl⟩, rfl, by decide, by simp [ti2, Value.cells, zcell, nilS, Plain], fun _ h => by cases h⟩
theorem lk2 : look tab 2 = some ti2 := rfl
theorem ok3 : TOk1 Try.prog 3 ti3 := ⟨⟨_, Try.t3, Try.underlying3, Try.type3, rfl, rfl, rfl, rfl, rfl⟩, rfl, by decide, by simp [ti3, Value.cells, zcell, nilS, Plain], fun _ h => by cases h⟩
theorem lk3 : look tab 3 = some ti3 := rfl
theorem ok4 : TOk1 Try.prog 4 ti4 := ⟨⟨_, Try.t4, Try.underlying4, Try.type4, rfl, rfl, rfl, trivial, rfl⟩, rfl, by decide, by simp [ti4, Value.cells, zcell, nilS, Plain], fun _ h => by cases h⟩
theorem lk4 : look tab 4 = some ti4 := rfl
theorem ok5 : TOk1 Try.prog 5 ti5 := ⟨⟨_, Try.t5, Try.underlying5, Try.type5, rfl, rfl, rfl, rfl, rfl⟩, rfl, by decide, by simp [ti5, Value.cells, zcell, nilS, Plain], fun _ h => by cases h⟩
theorem lk5 : look tab 5 = some ti5 := rfl
theorem ok6 : TOk1 Try.prog 6 ti6 := ⟨⟨_, Try.t6, Try.underlying6, Try.type6, rfl, rfl, rfl, rfl, rfl⟩, rfl, by decide, by simp [ti6, Value.cells, zcell, nilS, Plain], fun _ h => by cases h⟩
theorem lk6 : look tab 6 = some ti6 := rfl
theorem ok7 : TOk1 Try.prog 7 ti7 := ⟨⟨_, Try.t7, Try.underlying7, Try.type7, rfl, rfl, rfl, rfl, rfl⟩, rfl, by decide, by simp [ti7, Value.cells, zcell, nilS, Plain], fun _ _ => ⟨by kernel_rfl, by kernel_rfl, _, Try.underlying7, by simp⟩⟩
theorem lk7 : look tab 7 = some ti7 := rfl
theorem ok8 : TOk1 Try.prog 8 ti8 := ⟨⟨_, Try.t8, Try.underlying8, Try.type8, rfl, rfl, rfl, rfl, rfl⟩, rfl, by decide, by simp [ti8, Value.cells, zcell, nilS, Plain], fun _ _ => ⟨by kernel_rfl, by kernel_rfl, _, Try.underlying8, by simp⟩⟩
theorem lk8 : look tab 8 = some ti8 := rfl
theorem ok9 : TOk1 Try.prog 9 ti9 := ⟨⟨_, Try.t9, Try.underlying9, Try.type9, rfl, rfl, rfl, trivial, rfl⟩, rfl, by decide, by simp [ti9, Value.cells, zcell, nilS, Plain], fun _ h => by cases h⟩
theorem lk9 : look tab 9 = some ti9 := rfl
theorem ok10 : TOk1 Try.prog 10 ti10 := ⟨⟨_, Try.t10, Try.underlying10, Try.type10, rfl, rfl, rfl, trivial, rfl⟩, rfl, by decide, by simp [ti10, Value.cells, zcell, nilS, Plain], fun _ h => by cases h⟩
theorem lk10 : look tab 10 = some ti10 := rfl
theorem ok11 : TOk1 Try.prog 11 ti11 := ⟨⟨_, Try.t11, Try.underlying11, Try.type11, rfl, rfl, rfl, trivial, rfl⟩, rfl, by decide, by simp [ti11, Value.cells, zcell, nilS, Plain], fun _ h => by cases h⟩
theorem lk11 : look tab 11 = some ti11 := rfl
theorem ok12 : TOk1 Try.prog 12 ti12 := ⟨⟨_, Try.t12, Try.underlying12, Try.type12, rfl, rfl, rfl, rfl, rfl⟩, rfl, by decide, by simp [ti12, Value.cells, zcell, nilS, Plain], fun _ h => by cases h⟩
theorem lk12 : look tab 12 = some ti12 := rfl
theorem ok22 : TOk1 Try.prog 22 ti22 := ⟨⟨_, Try.t22, Try.underlying22, Try.type22, rfl, rfl, rfl, rfl, rfl⟩, rfl, by decide, by simp [ti22, Value.cells, zcell, nilS, Plain], fun _ h => by cases h⟩
theorem lk22 : look tab 22 = some ti22 := rfl
theorem ok23 : TOk1 Try.prog 23 ti23 := ⟨⟨_, Try.t23, Try.underlying23, Try.type23, rfl, rfl, rfl, rfl, rfl⟩, rfl, by decide, by simp [ti23, Value.cells, zcell, nilS, Plain], fun _ h => by cases h⟩
theorem lk23 : look tab 23 = some ti23 := rfl
theorem ok24 : TOk1 Try.prog 24 ti24 := ⟨⟨_, Try.t24, Try.underlying24, Try.type24, rfl, rfl, rfl, rfl, rfl⟩, rfl, by decide, by simp [ti24, Value.cells, zcell, nilS, Plain], fun _ h => by cases h⟩
theorem lk24 : look tab 24 = some ti24 := rfl
theorem ok26 : TOk1 Try.prog 26 ti26 := ⟨⟨_, Try.t26, Try.underlying26, Try.type26, rfl, rfl, rfl, rfl, rfl⟩, rfl, by decide, by simp [ti26, Value.cells, zcell, nilS, Plain], fun _ _ => ⟨by kernel_rfl, by kernel_rfl, _, Try.underlying26, by simp⟩⟩
theorem lk26 : look tab 26 = some ti26 := rfl
theorem ok28 : TOk1 Try.prog 28 ti28 := ⟨⟨_, Try.t28, Try.underlying28, Try.type28, rfl, rfl, rfl, rfl, rfl⟩, rfl, by decide, by simp [ti28, Value.cells, zcell, nilS, Plain], fun _ h => by cases h⟩
theorem lk28 : look tab 28 = some ti28 := rfl
theorem ok29 : TOk1 Try.prog 29 ti29 := ⟨⟨_, Try.t29, Try.underlying29, Try.type29, rfl, rfl, rfl, rfl, rfl⟩, rfl, by decide, by simp [ti29, Value.cells, zcell, nilS, Plain], fun _ h => by cases h⟩
theorem lk29 : look tab 29 = some ti29 := rfl
theorem ok31 : TOk1 Try.prog 31 ti31 := ⟨⟨_, Try.t31, Try.underlying31, Try.type31, rfl, rfl, rfl, rfl, rfl⟩, rfl, by decide, by simp [ti31, Value.cells, zcell, nilS, Plain], fun _ _ => ⟨by kernel_rfl, by kernel_rfl, _, Try.underlying31, by simp⟩⟩
theorem lk31 : look tab 31 = some ti31 := rfl
theorem ok32 : TOk1 Try.prog 32 ti32 := ⟨⟨_, Try.t32, Try.underlying32, Try.type32, rfl, rfl, rfl, rfl, rfl⟩, rfl, by decide, by simp [ti32, Value.cells, zcell, nilS, Plain], fun _ h => by cases h⟩
theorem lk32 : look tab 32 = some ti32 := rfl
theorem ok33 : TOk1 Try.prog 33 ti33 := ⟨⟨_, Try.t33, Try.underlying33, Try.type33, rfl, rfl, rfl, rfl, rfl⟩, rfl, by decide, by simp [ti33, Value.cells, zcell, nilS, Plain], fun _ h => by cases h⟩
theorem lk33 : look tab 33 = some ti33 := rfl
theorem ok36 : TOk1 Try.prog 36 ti36 := ⟨⟨_, Try.t36, Try.underlying36, Try.type36, rfl, rfl, rfl, trivial, rfl⟩, rfl, by decide, by simp [ti36, Value.cells, zcell, nilS, Plain], fun _ h => by cases h⟩
theorem lk36 : look tab 36 = some ti36 := rfl
theorem ok41 : TOk1 Try.prog 41 ti41 := ⟨⟨_, Try.t41, Try.underlying41, Try.type41, rfl, rfl, rfl, rfl, rfl⟩, rfl, by decide, by simp [ti41, Value.cells, zcell, nilS, Plain], fun _ _ => ⟨by kernel_rfl, by kernel_rfl, _, Try.underlying41, by simp⟩⟩
theorem lk41 : look tab 41 = some ti41 := rfl
theorem ok45 : TOk1 Try.prog 45 ti45 := ⟨⟨_, Try.t45, Try.underlying45, Try.type45, rfl, rfl, rfl, rfl, rfl⟩, rfl, by decide, by simp [ti45, Value.cells, zcell, nilS, Plain], fun _ h => by cases h⟩
theorem lk45 : look tab 45 = some ti45 := rfl
theorem ok54 : TOk1 Try.prog 54 ti54 := ⟨⟨_, Try.t54, Try.underlying54, Try.type54, rfl, rfl, rfl, rfl, rfl⟩, rfl, by decide, by simp [ti54, Value.cells, zcell, nilS, Plain], fun _ _ => ⟨by kernel_rfl, by kernel_rfl, _, Try.underlying54, by simp⟩⟩
theorem lk54 : look tab 54 = some ti54 := rfl
theorem ok56 : TOk1 Try.prog 56 ti56 := ⟨⟨_, Try.t56, Try.underlying56, Try.type56, rfl, rfl, rfl, trivial, rfl⟩, rfl, by decide, by simp [ti56, Value.cells, zcell, nilS, Plain], fun _ h => by cases h⟩
theorem lk56 : look tab 56 = some ti56 := rfl
theorem ok60 : TOk1 Try.prog 60 ti60 := ⟨⟨_, Try.t60, Try.underlying60, Try.type60, rfl, rfl, rfl, trivial, rfl⟩, rfl, by decide, by simp [ti60, Value.cells, zcell, nilS, Plain], fun _ h => by cases h⟩
theorem lk60 : look tab 60 = some ti60 := rfl
theorem ok61 : TOk1 Try.prog 61 ti61 := ⟨⟨_, Try.t61, Try.underlying61, Try.type61, rfl, rfl, rfl, trivial, rfl⟩, rfl, by decide, by simp [ti61, Value.cells, zcell, nilS, Plain], fun _ h => by cases h⟩
theorem lk61 : look tab 61 = some ti61 := rfl
theorem ok63 : TOk1 Try.prog 63 ti63 := ⟨⟨_, Try.t63, Try.underlying63, Try.type63, rfl, rfl, rfl, rfl, rfl⟩, rfl, by decide, by simp [ti63, Value.cells, zcell, nilS, Plain], fun _ _ => ⟨by kernel_rfl, by kernel_rfl, _, Try.underlying63, by simp⟩⟩
theorem lk63 : look tab 63 = some ti63 := rfl
theorem ok65 : TOk1 Try.prog 65 ti65 := ⟨⟨_, Try.t65, Try.underlying65, Try.type65, rfl, rfl, rfl, rfl, rfl⟩, rfl, by decide, by simp [ti65, Value.cells, zcell, nilS, Plain], fun _ h => by cases h⟩
theorem lk65 : look tab 65 = some ti65 := rfl
theorem ok67 : TOk1 Try.prog 67 ti67 := ⟨⟨_, Try.t67, Try.underlying67, Try.type67, rfl, rfl, rfl, rfl, rfl⟩, rfl, by decide, by simp [ti67, Value.cells, zcell, nilS, Plain], fun _ _ => ⟨by kernel_rfl, by kernel_rfl, _, Try.underlying67, by simp⟩⟩
theorem lk67 : look tab 67 = some ti67 := rfl
theorem ok79 : TOk1 Try.prog 79 ti79 := ⟨⟨_, Try.t79, Try.underlying79, Try.type79, rfl, rfl, rfl, rfl, rfl⟩, rfl, by decide, by simp [ti79, Value.cells, zcell, nilS, Plain], fun _ h => by cases h⟩
theorem lk79 : look tab 79 = some ti79 := rfl
theorem ok80 : TOk1 Try.prog 80 ti80 := ⟨⟨_, Try.t80, Try.underlying80, Try.type80, rfl, rfl, rfl, rfl, rfl⟩, rfl, by decide, by simp [ti80, Value.cells, zcell, nilS, Plain], fun _ h => by cases h⟩
theorem lk80 : look tab 80 = some ti80 := rfl
theorem ok82 : TOk1 Try.prog 82 ti82 := ⟨⟨_, Try.t82, Try.underlying82, Try.type82, rfl, rfl, rfl, rfl, rfl⟩, rfl, by decide, by simp [ti82, Value.cells, zcell, nilS, Plain], fun _ _ => ⟨by kernel_rfl, by kernel_rfl, _, Try.underlying82, by simp⟩⟩
theorem lk82 : look tab 82 = some ti82 := rfl
theorem ok83 : TOk1 Try.prog 83 ti83 := ⟨⟨_, Try.t83, Try.underlying83, Try.type83, rfl, rfl, rfl, ⟨rfl, rfl⟩, rfl⟩, rfl, by decide, by simp [ti83, Value.cells, zcell, nilS, Plain], fun _ h => by cases h⟩
theorem lk83 : look tab 83 = some ti83 := rfl
theorem ok85 : TOk1 Try.prog 85 ti85 := ⟨⟨_, Try.t85, Try.underlying85, Try.type85, rfl, rfl, rfl, rfl, rfl⟩, rfl, by decide, by simp [ti85, Value.cells, zcell, nilS, Plain], fun _ _ => ⟨by kernel_rfl, by kernel_rfl, _, Try.underlying85, by simp⟩⟩
theorem lk85 : look tab 85 = some ti85 := rfl
theorem ok94 : TOk1 Try.prog 94 ti94 := ⟨⟨_, Try.t94, Try.underlying94, Try.type94, rfl, rfl, rfl, trivial, rfl⟩, rfl, by decide, by simp [ti94, Value.cells, zcell, nilS, Plain], fun _ h => by cases h⟩
theorem lk94 : look tab 94 = some ti94 := rfl
theorem ok96 : TOk1 Try.prog 96 ti96 := ⟨⟨_, Try.t96, Try.underlying96, Try.type96, rfl, rfl, rfl, trivial, rfl⟩, rfl, by decide, by simp [ti96, Value.cells, zcell, nilS, Plain], fun _ h => by cases h⟩
theorem lk96 : look tab 96 = some ti96 := rfl
theorem ok100 : TOk1 Try.prog 100 ti100 := ⟨⟨_, Try.t100, Try.underlying100, Try.type100, rfl, rfl, rfl, rfl, rfl⟩, rfl, by decide, by simp [ti100, Value.cells, zcell, nilS, Plain], fun _ _ => ⟨by kernel_rfl, by kernel_rfl, _, Try.underlying100, by simp⟩⟩
theorem lk100 : look tab 100 = some ti100 := rfl
theorem ok103 : TOk1 Try.prog 103 ti103 := ⟨⟨_, Try.t103, Try.underlying103, Try.type103, rfl, rfl, rfl, trivial, rfl⟩, rfl, by decide, by simp [ti103, Value.cells, zcell, nilS, Plain], fun _ h => by cases h⟩
theorem lk103 : look tab 103 = some ti103 := rfl
theorem ok117 : TOk1 Try.prog 117 ti117 := ⟨⟨_, Try.t117, Try.underlying117, Try.type117, rfl, rfl, rfl, rfl, rfl⟩, rfl, by decide, by simp [ti117, Value.cells, zcell, nilS, Plain], fun _ h => by cases h⟩
theorem lk117 : look tab 117 = some ti117 := rfl
theorem ok118 : TOk1 Try.prog 118 ti118 := ⟨⟨_, Try.t118, Try.underlying118, Try.type118, rfl, rfl, rfl, ⟨rfl, rfl⟩, rfl⟩, rfl, by decide, by simp [ti118, Value.cells, zcell, nilS, Plain], fun _ h => by cases h⟩
theorem lk118 : look tab 118 = some ti118 := rfl
theorem ok120 : TOk1 Try.prog 120 ti120 := ⟨⟨_, Try.t120, Try.underlying120, Try.type120, rfl, rfl, rfl, rfl, rfl⟩, rfl, by decide, by simp [ti120, Value.cells, zcell, nilS, Plain], fun _ _ => ⟨by kernel_rfl, by kernel_rfl, _, Try.underlying120, by simp⟩⟩
theorem lk120 : look tab 120 = some ti120 := rfl
theorem ok123 : TOk1 Try.prog 123 ti123 := ⟨⟨_, Try.t123, Try.underlying123, Try.type123, rfl, rfl, rfl, ⟨rfl, rfl⟩, rfl⟩, rfl, by decide, by simp [ti123, Value.cells, zcell, nilS, Plain], fun _ h => by cases h⟩
theorem lk123 : look tab 123 = some ti123 := rfl
theorem ok125 : TOk1 Try.prog 125 ti125 := ⟨⟨_, Try.t125, Try.underlying125, Try.type125, rfl, rfl, rfl, ⟨rfl, rfl⟩, rfl⟩, rfl, by decide, by simp [ti125, Value.cells, zcell, nilS, Plain], fun _ h => by cases h⟩
theorem lk125 : look tab 125 = some ti125 := rfl
theorem TOk_nil {P : Program} : TOk P [] := fun t i h => by cases h
theorem TOk_cons {P : Program} {t : TypeId} {i : TI} {T : Tab} (h : TOk1 P t i) (h2 : TOk P T) : TOk P ((t, i) :: T) := fun u j q => by
  unfold look at q
  cases hb : Nat.beq u t with
  | true => rw [hb] at q; cases q; rw [Nat.eq_of_beq_eq_true hb]; exact h
  | false => rw [hb] at q; exact h2 u j q
theorem tab_ok : TOk Try.prog tab := TOk_cons ok1 <| TOk_cons ok2 <| TOk_cons ok3 <| TOk_cons ok4 <| TOk_cons ok5 <| TOk_cons ok6 <| TOk_cons ok7 <| TOk_cons ok8 <| TOk_cons ok9 <| TOk_cons ok10 <| TOk_cons ok11 <| TOk_cons ok12 <| TOk_cons ok22 <| TOk_cons ok23 <| TOk_cons ok24 <| TOk_cons ok26 <| TOk_cons ok28 <| TOk_cons ok29 <| TOk_cons ok31 <| TOk_cons ok32 <| TOk_cons ok33 <| TOk_cons ok36 <| TOk_cons ok41 <| TOk_cons ok45 <| TOk_cons ok54 <| TOk_cons ok56 <| TOk_cons ok60 <| TOk_cons ok61 <| TOk_cons ok63 <| TOk_cons ok65 <| TOk_cons ok67 <| TOk_cons ok79 <| TOk_cons ok80 <| TOk_cons ok82 <| TOk_cons ok83 <| TOk_cons ok85 <| TOk_cons ok94 <| TOk_cons ok96 <| TOk_cons ok100 <| TOk_cons ok103 <| TOk_cons ok117 <| TOk_cons ok118 <| TOk_cons ok120 <| TOk_cons ok123 <| TOk_cons ok125 <| TOk_nil
end Go.Proofs.YtogfcpaalcebdaaE
