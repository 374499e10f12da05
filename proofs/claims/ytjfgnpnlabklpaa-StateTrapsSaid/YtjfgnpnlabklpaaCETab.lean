/- The table of types. -/
import Derived.Test.YtjfgnpnlabklpaaCEng24
import Derived.Test.YtjfgnpnlabklpaaProg
namespace Go.Proofs.YtjfgnpnlabklpaaE
open Go Go.RowKit
set_option linter.unusedVariables false
set_option linter.unusedSimpArgs false
set_option maxRecDepth 100000
def ti1 : TI := ⟨1, 8, false, .oth, Value.nilFunc⟩
def ti2 : TI := ⟨1, 8, false, .int .i64, (Value.int IntKind.i64 0)⟩
def ti3 : TI := ⟨1, 8, false, .int .i64, (Value.int IntKind.i64 0)⟩
def ti4 : TI := ⟨1, 1, false, .bool, (Value.bool false)⟩
def ti5 : TI := ⟨1, 1, false, .int .u8, (Value.int IntKind.u8 0)⟩
def ti6 : TI := ⟨1, 1, false, .int .u8, (Value.int IntKind.u8 0)⟩
def ti7 : TI := ⟨4, 24, true, .st [(0, 2), (1, 3), (2, 4), (3, 6)], (Value.agg #[Value.int IntKind.i64 0, Value.int IntKind.i64 0, Value.bool false, Value.int IntKind.u8 0])⟩
def ti8 : TI := ⟨4, 24, true, .st [(0, 2), (1, 3), (2, 4), (3, 6)], (Value.agg #[Value.int IntKind.i64 0, Value.int IntKind.i64 0, Value.bool false, Value.int IntKind.u8 0])⟩
def ti9 : TI := ⟨1, 16, false, .str, (Value.string { data := #[] })⟩
def ti22 : TI := ⟨1, 24, false, .slc 5, (Value.slice none 0 0)⟩
def ti24 : TI := ⟨4, 32, true, .st [(0, 5), (1, 3), (2, 3), (3, 3)], (Value.agg #[Value.int IntKind.u8 0, Value.int IntKind.i64 0, Value.int IntKind.i64 0, Value.int IntKind.i64 0])⟩
def ti25 : TI := ⟨1, 24, false, .slc 24, (Value.slice none 0 0)⟩
def ti26 : TI := ⟨1, 24, false, .slc 25, (Value.slice none 0 0)⟩
def ti27 : TI := ⟨1, 24, false, .slc 3, (Value.slice none 0 0)⟩
def ti29 : TI := ⟨7, 88, true, .st [(0, 3), (1, 3), (2, 3), (3, 27), (4, 3), (5, 3), (6, 26)], (Value.agg #[Value.int IntKind.i64 0, Value.int IntKind.i64 0, Value.int IntKind.i64 0, Value.slice none 0 0, Value.int IntKind.i64 0, Value.int IntKind.i64 0, Value.slice none 0 0])⟩
def ti30 : TI := ⟨1, 8, false, .ptr, (Value.pointer none)⟩
def ti35 : TI := ⟨6, 48, true, .st [(0, 3), (1, 3), (2, 5), (3, 3), (4, 3), (5, 3)], (Value.agg #[Value.int IntKind.i64 0, Value.int IntKind.i64 0, Value.int IntKind.u8 0, Value.int IntKind.i64 0, Value.int IntKind.i64 0, Value.int IntKind.i64 0])⟩
def ti43 : TI := ⟨1, 24, false, .slc 44, (Value.slice none 0 0)⟩
def ti44 : TI := ⟨1, 1, false, .int .i8, (Value.int IntKind.i8 0)⟩
def ti46 : TI := ⟨1, 24, false, .slc 22, (Value.slice none 0 0)⟩
def ti48 : TI := ⟨1, 8, false, .oth, Value.nilFunc⟩
def ti54 : TI := ⟨1, 2, false, .int .u16, (Value.int IntKind.u16 0)⟩
def ti56 : TI := ⟨1, 24, false, .slc 62, (Value.slice none 0 0)⟩
def ti57 : TI := ⟨1, 24, false, .slc 73, (Value.slice none 0 0)⟩
def ti59 : TI := ⟨16, 288, true, .st [(0, 29), (7, 56), (8, 27), (9, 27), (10, 27), (11, 57), (12, 27), (13, 27), (14, 27), (15, 4)], (Value.agg #[Value.int IntKind.i64 0, Value.int IntKind.i64 0, Value.int IntKind.i64 0, Value.slice none 0 0, Value.int IntKind.i64 0, Value.int IntKind.i64 0, Value.slice none 0 0, Value.slice none 0 0, Value.slice none 0 0, Value.slice none 0 0, Value.slice none 0 0, Value.slice none 0 0, Value.slice none 0 0, Value.slice none 0 0, Value.slice none 0 0, Value.bool false])⟩
def ti60 : TI := ⟨4, 32, true, .arr 4 3, (Value.agg #[Value.int IntKind.i64 0, Value.int IntKind.i64 0, Value.int IntKind.i64 0, Value.int IntKind.i64 0])⟩
def ti62 : TI := ⟨6, 48, true, .st [(0, 4), (1, 3), (2, 60)], (Value.agg #[Value.bool false, Value.int IntKind.i64 0, Value.int IntKind.i64 0, Value.int IntKind.i64 0, Value.int IntKind.i64 0, Value.int IntKind.i64 0])⟩
def ti63 : TI := ⟨1, 8, false, .ptr, (Value.pointer none)⟩
def ti66 : TI := ⟨1, 8, false, .ptr, (Value.pointer none)⟩
def ti73 : TI := ⟨2, 32, true, .st [(0, 27), (1, 4)], (Value.agg #[Value.slice none 0 0, Value.bool false])⟩
def ti74 : TI := ⟨1, 8, false, .oth, Value.nilFunc⟩
def ti85 : TI := ⟨1, 1, false, .int .u8, (Value.int IntKind.u8 0)⟩
def ti86 : TI := ⟨3, 3, true, .arr 3 85, (Value.agg #[Value.int IntKind.u8 0, Value.int IntKind.u8 0, Value.int IntKind.u8 0])⟩
def ti88 : TI := ⟨7, 24, true, .st [(0, 9), (1, 86), (4, 4), (5, 4), (6, 4)], (Value.agg #[Value.string { data := #[] }, Value.int IntKind.u8 0, Value.int IntKind.u8 0, Value.int IntKind.u8 0, Value.bool false, Value.bool false, Value.bool false])⟩
def ti91 : TI := ⟨3, 24, true, .arr 3 3, (Value.agg #[Value.int IntKind.i64 0, Value.int IntKind.i64 0, Value.int IntKind.i64 0])⟩
def ti93 : TI := ⟨196, 672, true, .arr 28 88, (Value.agg (([Value.string { data := #[] }, Value.int IntKind.u8 0, Value.int IntKind.u8 0, Value.int IntKind.u8 0, Value.bool false, Value.bool false, Value.bool false, Value.string { data := #[] }, Value.int IntKind.u8 0, Value.int IntKind.u8 0, Value.int IntKind.u8 0, Value.bool false, Value.bool false, Value.bool false, Value.string { data := #[] }, Value.int IntKind.u8 0, Value.int IntKind.u8 0, Value.int IntKind.u8 0, Value.bool false, Value.bool false, Value.bool false, Value.string { data := #[] }, Value.int IntKind.u8 0, Value.int IntKind.u8 0, Value.int IntKind.u8 0, Value.bool false, Value.bool false, Value.bool false, Value.string { data := #[] }, Value.int IntKind.u8 0, Value.int IntKind.u8 0, Value.int IntKind.u8 0, Value.bool false, Value.bool false, Value.bool false, Value.string { data := #[] }, Value.int IntKind.u8 0, Value.int IntKind.u8 0, Value.int IntKind.u8 0, Value.bool false, Value.bool false, Value.bool false, Value.string { data := #[] }, Value.int IntKind.u8 0, Value.int IntKind.u8 0, Value.int IntKind.u8 0, Value.bool false, Value.bool false, Value.bool false].append [Value.string { data := #[] }, Value.int IntKind.u8 0, Value.int IntKind.u8 0, Value.int IntKind.u8 0, Value.bool false, Value.bool false, Value.bool false, Value.string { data := #[] }, Value.int IntKind.u8 0, Value.int IntKind.u8 0, Value.int IntKind.u8 0, Value.bool false, Value.bool false, Value.bool false, Value.string { data := #[] }, Value.int IntKind.u8 0, Value.int IntKind.u8 0, Value.int IntKind.u8 0, Value.bool false, Value.bool false, Value.bool false, Value.string { data := #[] }, Value.int IntKind.u8 0, Value.int IntKind.u8 0, Value.int IntKind.u8 0, Value.bool false, Value.bool false, Value.bool false, Value.string { data := #[] }, Value.int IntKind.u8 0, Value.int IntKind.u8 0, Value.int IntKind.u8 0, Value.bool false, Value.bool false, Value.bool false, Value.string { data := #[] }, Value.int IntKind.u8 0, Value.int IntKind.u8 0, Value.int IntKind.u8 0, Value.bool false, Value.bool false, Value.bool false, Value.string { data := #[] }, Value.int IntKind.u8 0, Value.int IntKind.u8 0, Value.int IntKind.u8 0, Value.bool false, Value.bool false, Value.bool false]).append ([Value.string { data := #[] }, Value.int IntKind.u8 0, Value.int IntKind.u8 0, Value.int IntKind.u8 0, Value.bool false, Value.bool false, Value.bool false, Value.string { data := #[] }, Value.int IntKind.u8 0, Value.int IntKind.u8 0, Value.int IntKind.u8 0, Value.bool false, Value.bool false, Value.bool false, Value.string { data := #[] }, Value.int IntKind.u8 0, Value.int IntKind.u8 0, Value.int IntKind.u8 0, Value.bool false, Value.bool false, Value.bool false, Value.string { data := #[] }, Value.int IntKind.u8 0, Value.int IntKind.u8 0, Value.int IntKind.u8 0, Value.bool false, Value.bool false, Value.bool false, Value.string { data := #[] }, Value.int IntKind.u8 0, Value.int IntKind.u8 0, Value.int IntKind.u8 0, Value.bool false, Value.bool false, Value.bool false, Value.string { data := #[] }, Value.int IntKind.u8 0, Value.int IntKind.u8 0, Value.int IntKind.u8 0, Value.bool false, Value.bool false, Value.bool false, Value.string { data := #[] }, Value.int IntKind.u8 0, Value.int IntKind.u8 0, Value.int IntKind.u8 0, Value.bool false, Value.bool false, Value.bool false].append [Value.string { data := #[] }, Value.int IntKind.u8 0, Value.int IntKind.u8 0, Value.int IntKind.u8 0, Value.bool false, Value.bool false, Value.bool false, Value.string { data := #[] }, Value.int IntKind.u8 0, Value.int IntKind.u8 0, Value.int IntKind.u8 0, Value.bool false, Value.bool false, Value.bool false, Value.string { data := #[] }, Value.int IntKind.u8 0, Value.int IntKind.u8 0, Value.int IntKind.u8 0, Value.bool false, Value.bool false, Value.bool false, Value.string { data := #[] }, Value.int IntKind.u8 0, Value.int IntKind.u8 0, Value.int IntKind.u8 0, Value.bool false, Value.bool false, Value.bool false, Value.string { data := #[] }, Value.int IntKind.u8 0, Value.int IntKind.u8 0, Value.int IntKind.u8 0, Value.bool false, Value.bool false, Value.bool false, Value.string { data := #[] }, Value.int IntKind.u8 0, Value.int IntKind.u8 0, Value.int IntKind.u8 0, Value.bool false, Value.bool false, Value.bool false, Value.string { data := #[] }, Value.int IntKind.u8 0, Value.int IntKind.u8 0, Value.int IntKind.u8 0, Value.bool false, Value.bool false, Value.bool false])).toArray)⟩
def tab : Tab := [(1, ti1), (2, ti2), (3, ti3), (4, ti4), (5, ti5), (6, ti6), (7, ti7), (8, ti8), (9, ti9), (22, ti22), (24, ti24), (25, ti25), (26, ti26), (27, ti27), (29, ti29), (30, ti30), (35, ti35), (43, ti43), (44, ti44), (46, ti46), (48, ti48), (54, ti54), (56, ti56), (57, ti57), (59, ti59), (60, ti60), (62, ti62), (63, ti63), (66, ti66), (73, ti73), (74, ti74), (85, ti85), (86, ti86), (88, ti88), (91, ti91), (93, ti93)]
theorem ok1 : TOk1 Try.prog 1 ti1 := ⟨⟨_, Try.t1, Try.underlying1, Try.type1, rfl, rfl, rfl, trivial, rfl⟩, rfl, by decide, by simp [ti1, Value.cells, zcell, nilS, Plain], fun _ h => by cases h⟩
theorem lk1 : look tab 1 = some ti1 := rfl
theorem ok2 : TOk1 Try.prog 2 ti2 := ⟨⟨_, Try.t2, Try.underlying2, Try.type2, rfl, rfl, rfl, rfl, rfl⟩, rfl, by decide, by simp [ti2, Value.cells, zcell, nilS, Plain], fun _ h => by cases h⟩
theorem lk2 : look tab 2 = some ti2 := rfl
theorem ok3 : TOk1 Try.prog 3 ti3 := ⟨⟨_, Try.t3, Try.underlying3, Try.type3, rfl, rfl, rfl, rfl, rfl⟩, rfl, by decide, by simp [ti3, Value.cells, zcell, nilS, Plain], fun _ h => by cases h⟩
theorem lk3 : look tab 3 = some ti3 := rfl
theorem ok4 : TOk1 Try.prog 4 ti4 := ⟨⟨_, Try.t4, Try.underlying4, Try.type4, rfl, rfl, rfl, trivial, rfl⟩, rfl, by decide, by simp [ti4, Value.cells, zcell, nilS, Plain], fun _ h => by cases h⟩
theorem lk4 : look tab 4 = some ti4 := rfl
theorem ok5 : TOk1 Try.prog 5 ti5 := ⟨⟨_, Try.t5, Try.underlying5, Try.type5, rfl, rfl, rfl, rfl, rfl⟩, rfl, by decide, by simp [ti5, Value.cells, zcell, nilS, Plain], fun _ h => by cases h⟩
theorem lk5 : look tab 5 = some ti5 := rfl
theorem ok6 : TOk1 Try.prog 6 ti6 := ⟨⟨_, Try.t6, Try.underlying6, Try.type6, rfl, rfl, rfl, rfl, rfl⟩, rfl, by decide, by simp [ti6, Value.cells, zcell, nilS, Plain], fun _ h => by cases h⟩
theorem lk6 : look tab 6 = some ti6 := rfl
theorem ok7 : TOk1 Try.prog 7 ti7 := ⟨⟨_, Try.t7, Try.underlying7, Try.type7, rfl, rfl, rfl, rfl, rfl⟩, rfl, by decide, by simp [ti7, Value.cells, zcell, nilS, Plain], fun _ _ => ⟨by kernel_rfl, by kernel_rfl, _, Try.underlying7, by simp⟩⟩
theorem lk7 : look tab 7 = some ti7 := rfl
theorem ok8 : TOk1 Try.prog 8 ti8 := ⟨⟨_, Try.t8, Try.underlying8, Try.type8, rfl, rfl, rfl, rfl, rfl⟩, rfl, by decide, by simp [ti8, Value.cells, zcell, nilS, Plain], fun _ _ => ⟨by kernel_rfl, by kernel_rfl, _, Try.underlying8, by simp⟩⟩
theorem lk8 : look tab 8 = some ti8 := rfl
theorem ok9 : TOk1 Try.prog 9 ti9 := ⟨⟨_, Try.t9, Try.underlying9, Try.type9, rfl, rfl, rfl, trivial, rfl⟩, rfl, by decide, by simp [ti9, Value.cells, zcell, nilS, Plain], fun _ h => by cases h⟩
theorem lk9 : look tab 9 = some ti9 := rfl
theorem ok22 : TOk1 Try.prog 22 ti22 := ⟨⟨_, Try.t22, Try.underlying22, Try.type22, rfl, rfl, rfl, rfl, rfl⟩, rfl, by decide, by simp [ti22, Value.cells, zcell, nilS, Plain], fun _ h => by cases h⟩
theorem lk22 : look tab 22 = some ti22 := rfl
theorem ok24 : TOk1 Try.prog 24 ti24 := ⟨⟨_, Try.t24, Try.underlying24, Try.type24, rfl, rfl, rfl, rfl, rfl⟩, rfl, by decide, by simp [ti24, Value.cells, zcell, nilS, Plain], fun _ _ => ⟨by kernel_rfl, by kernel_rfl, _, Try.underlying24, by simp⟩⟩
theorem lk24 : look tab 24 = some ti24 := rfl
theorem ok25 : TOk1 Try.prog 25 ti25 := ⟨⟨_, Try.t25, Try.underlying25, Try.type25, rfl, rfl, rfl, rfl, rfl⟩, rfl, by decide, by simp [ti25, Value.cells, zcell, nilS, Plain], fun _ h => by cases h⟩
theorem lk25 : look tab 25 = some ti25 := rfl
theorem ok26 : TOk1 Try.prog 26 ti26 := ⟨⟨_, Try.t26, Try.underlying26, Try.type26, rfl, rfl, rfl, rfl, rfl⟩, rfl, by decide, by simp [ti26, Value.cells, zcell, nilS, Plain], fun _ h => by cases h⟩
theorem lk26 : look tab 26 = some ti26 := rfl
theorem ok27 : TOk1 Try.prog 27 ti27 := ⟨⟨_, Try.t27, Try.underlying27, Try.type27, rfl, rfl, rfl, rfl, rfl⟩, rfl, by decide, by simp [ti27, Value.cells, zcell, nilS, Plain], fun _ h => by cases h⟩
theorem lk27 : look tab 27 = some ti27 := rfl
theorem ok29 : TOk1 Try.prog 29 ti29 := ⟨⟨_, Try.t29, Try.underlying29, Try.type29, rfl, rfl, rfl, rfl, rfl⟩, rfl, by decide, by simp [ti29, Value.cells, zcell, nilS, Plain], fun _ _ => ⟨by kernel_rfl, by kernel_rfl, _, Try.underlying29, by simp⟩⟩
theorem lk29 : look tab 29 = some ti29 := rfl
theorem ok30 : TOk1 Try.prog 30 ti30 := ⟨⟨_, Try.t30, Try.underlying30, Try.type30, rfl, rfl, rfl, trivial, rfl⟩, rfl, by decide, by simp [ti30, Value.cells, zcell, nilS, Plain], fun _ h => by cases h⟩
theorem lk30 : look tab 30 = some ti30 := rfl
theorem ok35 : TOk1 Try.prog 35 ti35 := ⟨⟨_, Try.t35, Try.underlying35, Try.type35, rfl, rfl, rfl, rfl, rfl⟩, rfl, by decide, by simp [ti35, Value.cells, zcell, nilS, Plain], fun _ _ => ⟨by kernel_rfl, by kernel_rfl, _, Try.underlying35, by simp⟩⟩
theorem lk35 : look tab 35 = some ti35 := rfl
theorem ok43 : TOk1 Try.prog 43 ti43 := ⟨⟨_, Try.t43, Try.underlying43, Try.type43, rfl, rfl, rfl, rfl, rfl⟩, rfl, by decide, by simp [ti43, Value.cells, zcell, nilS, Plain], fun _ h => by cases h⟩
theorem lk43 : look tab 43 = some ti43 := rfl
theorem ok44 : TOk1 Try.prog 44 ti44 := ⟨⟨_, Try.t44, Try.underlying44, Try.type44, rfl, rfl, rfl, rfl, rfl⟩, rfl, by decide, by simp [ti44, Value.cells, zcell, nilS, Plain], fun _ h => by cases h⟩
theorem lk44 : look tab 44 = some ti44 := rfl
theorem ok46 : TOk1 Try.prog 46 ti46 := ⟨⟨_, Try.t46, Try.underlying46, Try.type46, rfl, rfl, rfl, rfl, rfl⟩, rfl, by decide, by simp [ti46, Value.cells, zcell, nilS, Plain], fun _ h => by cases h⟩
theorem lk46 : look tab 46 = some ti46 := rfl
theorem ok48 : TOk1 Try.prog 48 ti48 := ⟨⟨_, Try.t48, Try.underlying48, Try.type48, rfl, rfl, rfl, trivial, rfl⟩, rfl, by decide, by simp [ti48, Value.cells, zcell, nilS, Plain], fun _ h => by cases h⟩
theorem lk48 : look tab 48 = some ti48 := rfl
theorem ok54 : TOk1 Try.prog 54 ti54 := ⟨⟨_, Try.t54, Try.underlying54, Try.type54, rfl, rfl, rfl, rfl, rfl⟩, rfl, by decide, by simp [ti54, Value.cells, zcell, nilS, Plain], fun _ h => by cases h⟩
theorem lk54 : look tab 54 = some ti54 := rfl
theorem ok56 : TOk1 Try.prog 56 ti56 := ⟨⟨_, Try.t56, Try.underlying56, Try.type56, rfl, rfl, rfl, rfl, rfl⟩, rfl, by decide, by simp [ti56, Value.cells, zcell, nilS, Plain], fun _ h => by cases h⟩
theorem lk56 : look tab 56 = some ti56 := rfl
theorem ok57 : TOk1 Try.prog 57 ti57 := ⟨⟨_, Try.t57, Try.underlying57, Try.type57, rfl, rfl, rfl, rfl, rfl⟩, rfl, by decide, by simp [ti57, Value.cells, zcell, nilS, Plain], fun _ h => by cases h⟩
theorem lk57 : look tab 57 = some ti57 := rfl
theorem ok59 : TOk1 Try.prog 59 ti59 := ⟨⟨_, Try.t59, Try.underlying59, Try.type59, rfl, rfl, rfl, rfl, rfl⟩, rfl, by decide, by simp [ti59, Value.cells, zcell, nilS, Plain], fun _ _ => ⟨by kernel_rfl, by kernel_rfl, _, Try.underlying59, by simp⟩⟩
theorem lk59 : look tab 59 = some ti59 := rfl
theorem ok60 : TOk1 Try.prog 60 ti60 := ⟨⟨_, Try.t60, Try.underlying60, Try.type60, rfl, rfl, rfl, ⟨rfl, rfl⟩, rfl⟩, rfl, by decide, by simp [ti60, Value.cells, zcell, nilS, Plain], fun _ h => by cases h⟩
theorem lk60 : look tab 60 = some ti60 := rfl
theorem ok62 : TOk1 Try.prog 62 ti62 := ⟨⟨_, Try.t62, Try.underlying62, Try.type62, rfl, rfl, rfl, rfl, rfl⟩, rfl, by decide, by simp [ti62, Value.cells, zcell, nilS, Plain], fun _ _ => ⟨by kernel_rfl, by kernel_rfl, _, Try.underlying62, by simp⟩⟩
theorem lk62 : look tab 62 = some ti62 := rfl
theorem ok63 : TOk1 Try.prog 63 ti63 := ⟨⟨_, Try.t63, Try.underlying63, Try.type63, rfl, rfl, rfl, trivial, rfl⟩, rfl, by decide, by simp [ti63, Value.cells, zcell, nilS, Plain], fun _ h => by cases h⟩
theorem lk63 : look tab 63 = some ti63 := rfl
theorem ok66 : TOk1 Try.prog 66 ti66 := ⟨⟨_, Try.t66, Try.underlying66, Try.type66, rfl, rfl, rfl, trivial, rfl⟩, rfl, by decide, by simp [ti66, Value.cells, zcell, nilS, Plain], fun _ h => by cases h⟩
theorem lk66 : look tab 66 = some ti66 := rfl
theorem ok73 : TOk1 Try.prog 73 ti73 := ⟨⟨_, Try.t73, Try.underlying73, Try.type73, rfl, rfl, rfl, rfl, rfl⟩, rfl, by decide, by simp [ti73, Value.cells, zcell, nilS, Plain], fun _ _ => ⟨by kernel_rfl, by kernel_rfl, _, Try.underlying73, by simp⟩⟩
theorem lk73 : look tab 73 = some ti73 := rfl
theorem ok74 : TOk1 Try.prog 74 ti74 := ⟨⟨_, Try.t74, Try.underlying74, Try.type74, rfl, rfl, rfl, trivial, rfl⟩, rfl, by decide, by simp [ti74, Value.cells, zcell, nilS, Plain], fun _ h => by cases h⟩
theorem lk74 : look tab 74 = some ti74 := rfl
theorem ok85 : TOk1 Try.prog 85 ti85 := ⟨⟨_, Try.t85, Try.underlying85, Try.type85, rfl, rfl, rfl, rfl, rfl⟩, rfl, by decide, by simp [ti85, Value.cells, zcell, nilS, Plain], fun _ h => by cases h⟩
theorem lk85 : look tab 85 = some ti85 := rfl
theorem ok86 : TOk1 Try.prog 86 ti86 := ⟨⟨_, Try.t86, Try.underlying86, Try.type86, rfl, rfl, rfl, ⟨rfl, rfl⟩, rfl⟩, rfl, by decide, by simp [ti86, Value.cells, zcell, nilS, Plain], fun _ h => by cases h⟩
theorem lk86 : look tab 86 = some ti86 := rfl
theorem ok88 : TOk1 Try.prog 88 ti88 := ⟨⟨_, Try.t88, Try.underlying88, Try.type88, rfl, rfl, rfl, rfl, rfl⟩, rfl, by decide, by simp [ti88, Value.cells, zcell, nilS, Plain], fun _ _ => ⟨by kernel_rfl, by kernel_rfl, _, Try.underlying88, by simp⟩⟩
theorem lk88 : look tab 88 = some ti88 := rfl
theorem ok91 : TOk1 Try.prog 91 ti91 := ⟨⟨_, Try.t91, Try.underlying91, Try.type91, rfl, rfl, rfl, ⟨rfl, rfl⟩, rfl⟩, rfl, by decide, by simp [ti91, Value.cells, zcell, nilS, Plain], fun _ h => by cases h⟩
theorem lk91 : look tab 91 = some ti91 := rfl
theorem ok93 : TOk1 Try.prog 93 ti93 := ⟨⟨_, Try.t93, Try.underlying93, Try.type93, rfl, rfl, rfl, ⟨rfl, rfl⟩, rfl⟩, rfl, by decide, by simp [ti93, Value.cells, zcell, nilS, Plain], fun _ h => by cases h⟩
theorem lk93 : look tab 93 = some ti93 := rfl
theorem TOk_nil {P : Program} : TOk P [] := fun t i h => by cases h
theorem TOk_cons {P : Program} {t : TypeId} {i : TI} {T : Tab} (h : TOk1 P t i) (h2 : TOk P T) : TOk P ((t, i) :: T) := fun u j q => by
  unfold look at q
  cases hb : Nat.beq u t with
  | true => rw [hb] at q; cases q; rw [Nat.eq_of_beq_eq_true hb]; exact h
  | false => rw [hb] at q; exact h2 u j q
theorem tab_ok : TOk Try.prog tab := TOk_cons ok1 <| TOk_cons ok2 <| TOk_cons ok3 <| TOk_cons ok4 <| TOk_cons ok5 <| TOk_cons ok6 <| TOk_cons ok7 <| TOk_cons ok8 <| TOk_cons ok9 <| TOk_cons ok22 <| TOk_cons ok24 <| TOk_cons ok25 <| TOk_cons ok26 <| TOk_cons ok27 <| TOk_cons ok29 <| TOk_cons ok30 <| TOk_cons ok35 <| TOk_cons ok43 <| TOk_cons ok44 <| TOk_cons ok46 <| TOk_cons ok48 <| TOk_cons ok54 <| TOk_cons ok56 <| TOk_cons ok57 <| TOk_cons ok59 <| TOk_cons ok60 <| TOk_cons ok62 <| TOk_cons ok63 <| TOk_cons ok66 <| TOk_cons ok73 <| TOk_cons ok74 <| TOk_cons ok85 <| TOk_cons ok86 <| TOk_cons ok88 <| TOk_cons ok91 <| TOk_cons ok93 <| TOk_nil
end Go.Proofs.YtjfgnpnlabklpaaE
