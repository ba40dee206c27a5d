/- Facts about the types of this program, by the kernel, without conditions. -/
import Derived.Test.YtghoaglolhdoeaaDoorAb23
import Derived.KernelRfl
import Derived.Test.YtghoaglolhdoeaaDoorProg
set_option linter.unusedSimpArgs false
set_option linter.unusedVariables false
namespace Go.Ab.D
open Go Go.Ab Go.Proofs
theorem tg3 : tagg Tryd.prog 3 = some false := by kernel_rfl
theorem tg5 : tagg Tryd.prog 5 = some false := by kernel_rfl
theorem tg9 : tagg Tryd.prog 9 = some false := by kernel_rfl
theorem tg25 : tagg Tryd.prog 25 = some false := by kernel_rfl
theorem tg26 : tagg Tryd.prog 26 = some false := by kernel_rfl
theorem tg27 : tagg Tryd.prog 27 = some false := by kernel_rfl
theorem tg28 : tagg Tryd.prog 28 = some false := by kernel_rfl
theorem tg30 : tagg Tryd.prog 30 = some true := by kernel_rfl
theorem tg32 : tagg Tryd.prog 32 = some false := by kernel_rfl
theorem tg37 : tagg Tryd.prog 37 = some true := by kernel_rfl
theorem tg39 : tagg Tryd.prog 39 = some true := by kernel_rfl
theorem tg44 : tagg Tryd.prog 44 = some true := by kernel_rfl
theorem tg102 : tagg Tryd.prog 102 = some false := by kernel_rfl
theorem tg111 : tagg Tryd.prog 111 = some false := by kernel_rfl
theorem tg113 : tagg Tryd.prog 113 = some true := by kernel_rfl
theorem tg117 : tagg Tryd.prog 117 = some true := by kernel_rfl
theorem tg121 : tagg Tryd.prog 121 = some true := by kernel_rfl
theorem tg149 : tagg Tryd.prog 149 = some false := by kernel_rfl
theorem tn3 : tsize Tryd.prog 3 = some 1 := by kernel_rfl
theorem tn5 : tsize Tryd.prog 5 = some 1 := by kernel_rfl
theorem tn9 : tsize Tryd.prog 9 = some 1 := by kernel_rfl
theorem tn25 : tsize Tryd.prog 25 = some 1 := by kernel_rfl
theorem tn26 : tsize Tryd.prog 26 = some 1 := by kernel_rfl
theorem tn27 : tsize Tryd.prog 27 = some 1 := by kernel_rfl
theorem tn28 : tsize Tryd.prog 28 = some 1 := by kernel_rfl
theorem tn30 : tsize Tryd.prog 30 = some 4 := by kernel_rfl
theorem tn32 : tsize Tryd.prog 32 = some 1 := by kernel_rfl
theorem tn37 : tsize Tryd.prog 37 = some 5 := by kernel_rfl
theorem tn39 : tsize Tryd.prog 39 = some 8 := by kernel_rfl
theorem tn44 : tsize Tryd.prog 44 = some 4 := by kernel_rfl
theorem tn102 : tsize Tryd.prog 102 = some 1 := by kernel_rfl
theorem tn111 : tsize Tryd.prog 111 = some 1 := by kernel_rfl
theorem tn113 : tsize Tryd.prog 113 = some 5 := by kernel_rfl
theorem tn117 : tsize Tryd.prog 117 = some 6 := by kernel_rfl
theorem tn121 : tsize Tryd.prog 121 = some 7 := by kernel_rfl
theorem tn149 : tsize Tryd.prog 149 = some 1 := by kernel_rfl
theorem ty3 : tbytes Tryd.prog 3 = some 8 := by kernel_rfl
theorem ty5 : tbytes Tryd.prog 5 = some 1 := by kernel_rfl
theorem ty9 : tbytes Tryd.prog 9 = some 16 := by kernel_rfl
theorem ty37 : tbytes Tryd.prog 37 = some 40 := by kernel_rfl
theorem ty39 : tbytes Tryd.prog 39 = some 80 := by kernel_rfl
theorem ty113 : tbytes Tryd.prog 113 = some 72 := by kernel_rfl
theorem ty117 : tbytes Tryd.prog 117 = some 88 := by kernel_rfl
theorem ty121 : tbytes Tryd.prog 121 = some 64 := by kernel_rfl
theorem tz3 : tzero Tryd.prog 3 = some [(Value.int IntKind.i64 0)] := by kernel_rfl
theorem tz5 : tzero Tryd.prog 5 = some [(Value.int IntKind.u8 0)] := by kernel_rfl
theorem tz9 : tzero Tryd.prog 9 = some [(Value.string { data := #[] })] := by kernel_rfl
theorem tz30 : tzero Tryd.prog 30 = some [(Value.slice none 0 0), (Value.slice none 0 0), (Value.slice none 0 0), (Value.slice none 0 0)] := by kernel_rfl
theorem tz32 : tzero Tryd.prog 32 = some [(Value.slice none 0 0)] := by kernel_rfl
theorem tz37 : tzero Tryd.prog 37 = some [(Value.int IntKind.i64 0), (Value.int IntKind.u8 0), (Value.int IntKind.i64 0), (Value.int IntKind.i64 0), (Value.int IntKind.u8 0)] := by kernel_rfl
theorem tz39 : tzero Tryd.prog 39 = some [(Value.int IntKind.i64 0), (Value.int IntKind.i64 0), (Value.int IntKind.i64 0), (Value.int IntKind.i64 0), (Value.string { data := #[] }), (Value.string { data := #[] }), (Value.int IntKind.i64 0), (Value.int IntKind.i64 0)] := by kernel_rfl
theorem tz44 : tzero Tryd.prog 44 = some [(Value.int IntKind.u8 0), (Value.int IntKind.u8 0), (Value.int IntKind.u8 0), (Value.int IntKind.u8 0)] := by kernel_rfl
theorem tz102 : tzero Tryd.prog 102 = some [Value.nilFunc] := by kernel_rfl
theorem tz113 : tzero Tryd.prog 113 = some [(Value.int IntKind.i64 0), (Value.int IntKind.u8 0), (Value.string { data := #[] }), (Value.string { data := #[] }), (Value.slice none 0 0)] := by kernel_rfl
theorem tz117 : tzero Tryd.prog 117 = some [(Value.int IntKind.i64 0), (Value.int IntKind.i64 0), (Value.string { data := #[] }), (Value.string { data := #[] }), (Value.string { data := #[] }), (Value.slice none 0 0)] := by kernel_rfl
theorem tz121 : tzero Tryd.prog 121 = some [(Value.int IntKind.i64 0), (Value.int IntKind.i64 0), (Value.int IntKind.i64 0), (Value.int IntKind.i64 0), (Value.int IntKind.u8 0), (Value.string { data := #[] }), (Value.int IntKind.i64 0)] := by kernel_rfl
theorem tz149 : tzero Tryd.prog 149 = some [(Value.int IntKind.u64 0)] := by kernel_rfl
theorem te22 : sliceElem Tryd.prog 22 = some 44 := by kernel_rfl
theorem te23 : sliceElem Tryd.prog 23 = some 5 := by kernel_rfl
theorem te25 : sliceElem Tryd.prog 25 = some 113 := by kernel_rfl
theorem te26 : sliceElem Tryd.prog 26 = some 117 := by kernel_rfl
theorem te27 : sliceElem Tryd.prog 27 = some 121 := by kernel_rfl
theorem te28 : sliceElem Tryd.prog 28 = some 39 := by kernel_rfl
theorem te32 : sliceElem Tryd.prog 32 = some 37 := by kernel_rfl
theorem te34 : sliceElem Tryd.prog 34 = some 3 := by kernel_rfl
theorem te111 : sliceElem Tryd.prog 111 = some 9 := by kernel_rfl
theorem tk3 : intKindOf Tryd.prog 3 = some IntKind.i64 := by kernel_rfl
theorem tk5 : intKindOf Tryd.prog 5 = some IntKind.u8 := by kernel_rfl
theorem tk24 : intKindOf Tryd.prog 24 = some IntKind.u16 := by kernel_rfl
theorem tk109 : intKindOf Tryd.prog 109 = some IntKind.u64 := by kernel_rfl
theorem tk143 : intKindOf Tryd.prog 143 = some IntKind.u32 := by kernel_rfl
theorem tk145 : intKindOf Tryd.prog 145 = some IntKind.u64 := by kernel_rfl
theorem tk149 : intKindOf Tryd.prog 149 = some IntKind.u64 := by kernel_rfl
theorem tl9 : lenTy Tryd.prog 9 = some 1 := by kernel_rfl
theorem tl22 : lenTy Tryd.prog 22 = some 0 := by kernel_rfl
theorem tl23 : lenTy Tryd.prog 23 = some 0 := by kernel_rfl
theorem tl25 : lenTy Tryd.prog 25 = some 0 := by kernel_rfl
theorem tl26 : lenTy Tryd.prog 26 = some 0 := by kernel_rfl
theorem tl27 : lenTy Tryd.prog 27 = some 0 := by kernel_rfl
theorem tl28 : lenTy Tryd.prog 28 = some 0 := by kernel_rfl
theorem tl32 : lenTy Tryd.prog 32 = some 0 := by kernel_rfl
theorem tl34 : lenTy Tryd.prog 34 = some 0 := by kernel_rfl
theorem tl111 : lenTy Tryd.prog 111 = some 0 := by kernel_rfl
theorem tp30 : structPlaces Tryd.prog 30 = some [(0, 1), (1, 1), (2, 1), (3, 1)] := by kernel_rfl
theorem tp37 : structPlaces Tryd.prog 37 = some [(0, 1), (1, 1), (2, 1), (3, 1), (4, 1)] := by kernel_rfl
theorem tp39 : structPlaces Tryd.prog 39 = some [(0, 1), (1, 1), (2, 1), (3, 1), (4, 1), (5, 1), (6, 1), (7, 1)] := by kernel_rfl
theorem tp113 : structPlaces Tryd.prog 113 = some [(0, 1), (1, 1), (2, 1), (3, 1), (4, 1)] := by kernel_rfl
theorem tp117 : structPlaces Tryd.prog 117 = some [(0, 1), (1, 1), (2, 1), (3, 1), (4, 1), (5, 1)] := by kernel_rfl
theorem tp121 : structPlaces Tryd.prog 121 = some [(0, 1), (1, 1), (2, 1), (3, 1), (4, 1), (5, 1), (6, 1)] := by kernel_rfl
theorem tf30_0 : fieldOff Tryd.prog 30 0 = some (0, 25) := by kernel_rfl
theorem tf30_1 : fieldOff Tryd.prog 30 1 = some (1, 26) := by kernel_rfl
theorem tf30_2 : fieldOff Tryd.prog 30 2 = some (2, 27) := by kernel_rfl
theorem tf30_3 : fieldOff Tryd.prog 30 3 = some (3, 28) := by kernel_rfl
theorem tf37_0 : fieldOff Tryd.prog 37 0 = some (0, 3) := by kernel_rfl
theorem tf37_1 : fieldOff Tryd.prog 37 1 = some (1, 5) := by kernel_rfl
theorem tf37_2 : fieldOff Tryd.prog 37 2 = some (2, 3) := by kernel_rfl
theorem tf37_3 : fieldOff Tryd.prog 37 3 = some (3, 3) := by kernel_rfl
theorem tf37_4 : fieldOff Tryd.prog 37 4 = some (4, 5) := by kernel_rfl
theorem tf39_0 : fieldOff Tryd.prog 39 0 = some (0, 3) := by kernel_rfl
theorem tf39_2 : fieldOff Tryd.prog 39 2 = some (2, 3) := by kernel_rfl
theorem tf39_3 : fieldOff Tryd.prog 39 3 = some (3, 3) := by kernel_rfl
theorem tf39_6 : fieldOff Tryd.prog 39 6 = some (6, 3) := by kernel_rfl
theorem tf44_0 : fieldOff Tryd.prog 44 0 = some (0, 5) := by kernel_rfl
theorem tf44_1 : fieldOff Tryd.prog 44 1 = some (1, 5) := by kernel_rfl
theorem tf44_2 : fieldOff Tryd.prog 44 2 = some (2, 5) := by kernel_rfl
theorem tf44_3 : fieldOff Tryd.prog 44 3 = some (3, 5) := by kernel_rfl
theorem tf113_0 : fieldOff Tryd.prog 113 0 = some (0, 3) := by kernel_rfl
theorem tf113_1 : fieldOff Tryd.prog 113 1 = some (1, 5) := by kernel_rfl
theorem tf113_2 : fieldOff Tryd.prog 113 2 = some (2, 9) := by kernel_rfl
theorem tf113_3 : fieldOff Tryd.prog 113 3 = some (3, 9) := by kernel_rfl
theorem tf113_4 : fieldOff Tryd.prog 113 4 = some (4, 111) := by kernel_rfl
theorem tf117_0 : fieldOff Tryd.prog 117 0 = some (0, 3) := by kernel_rfl
theorem tf117_1 : fieldOff Tryd.prog 117 1 = some (1, 3) := by kernel_rfl
theorem tf117_2 : fieldOff Tryd.prog 117 2 = some (2, 9) := by kernel_rfl
theorem tf117_3 : fieldOff Tryd.prog 117 3 = some (3, 9) := by kernel_rfl
theorem tf117_4 : fieldOff Tryd.prog 117 4 = some (4, 9) := by kernel_rfl
theorem tf117_5 : fieldOff Tryd.prog 117 5 = some (5, 111) := by kernel_rfl
theorem ta110 : arrElem Tryd.prog 110 = some (13, 3) := by kernel_rfl
theorem tE23 : ElemOk Tryd.prog 23 5 1 [(Value.int IntKind.u8 0)] (.raw (Value.int IntKind.u8 0)) 1 := ⟨te23, tn5, tz5, rfl, by decide, by kernel_rfl, by decide, ty5⟩
theorem tE25 : ElemOk Tryd.prog 25 113 5 [(Value.int IntKind.i64 0), (Value.int IntKind.u8 0), (Value.string { data := #[] }), (Value.string { data := #[] }), (Value.slice none 0 0)] (.agg [.raw (Value.int IntKind.i64 0), .raw (Value.int IntKind.u8 0), .raw (Value.string { data := #[] }), .raw (Value.string { data := #[] }), .raw (Value.slice none 0 0)]) 72 := ⟨te25, tn113, tz113, rfl, by decide, by kernel_rfl, by decide, ty113⟩
theorem tE26 : ElemOk Tryd.prog 26 117 6 [(Value.int IntKind.i64 0), (Value.int IntKind.i64 0), (Value.string { data := #[] }), (Value.string { data := #[] }), (Value.string { data := #[] }), (Value.slice none 0 0)] (.agg [.raw (Value.int IntKind.i64 0), .raw (Value.int IntKind.i64 0), .raw (Value.string { data := #[] }), .raw (Value.string { data := #[] }), .raw (Value.string { data := #[] }), .raw (Value.slice none 0 0)]) 88 := ⟨te26, tn117, tz117, rfl, by decide, by kernel_rfl, by decide, ty117⟩
theorem tE27 : ElemOk Tryd.prog 27 121 7 [(Value.int IntKind.i64 0), (Value.int IntKind.i64 0), (Value.int IntKind.i64 0), (Value.int IntKind.i64 0), (Value.int IntKind.u8 0), (Value.string { data := #[] }), (Value.int IntKind.i64 0)] (.agg [.raw (Value.int IntKind.i64 0), .raw (Value.int IntKind.i64 0), .raw (Value.int IntKind.i64 0), .raw (Value.int IntKind.i64 0), .raw (Value.int IntKind.u8 0), .raw (Value.string { data := #[] }), .raw (Value.int IntKind.i64 0)]) 64 := ⟨te27, tn121, tz121, rfl, by decide, by kernel_rfl, by decide, ty121⟩
theorem tE28 : ElemOk Tryd.prog 28 39 8 [(Value.int IntKind.i64 0), (Value.int IntKind.i64 0), (Value.int IntKind.i64 0), (Value.int IntKind.i64 0), (Value.string { data := #[] }), (Value.string { data := #[] }), (Value.int IntKind.i64 0), (Value.int IntKind.i64 0)] (.agg [.raw (Value.int IntKind.i64 0), .raw (Value.int IntKind.i64 0), .raw (Value.int IntKind.i64 0), .raw (Value.int IntKind.i64 0), .raw (Value.string { data := #[] }), .raw (Value.string { data := #[] }), .raw (Value.int IntKind.i64 0), .raw (Value.int IntKind.i64 0)]) 80 := ⟨te28, tn39, tz39, rfl, by decide, by kernel_rfl, by decide, ty39⟩
theorem tE32 : ElemOk Tryd.prog 32 37 5 [(Value.int IntKind.i64 0), (Value.int IntKind.u8 0), (Value.int IntKind.i64 0), (Value.int IntKind.i64 0), (Value.int IntKind.u8 0)] (.agg [.raw (Value.int IntKind.i64 0), .raw (Value.int IntKind.u8 0), .raw (Value.int IntKind.i64 0), .raw (Value.int IntKind.i64 0), .raw (Value.int IntKind.u8 0)]) 40 := ⟨te32, tn37, tz37, rfl, by decide, by kernel_rfl, by decide, ty37⟩
theorem tE34 : ElemOk Tryd.prog 34 3 1 [(Value.int IntKind.i64 0)] (.raw (Value.int IntKind.i64 0)) 8 := ⟨te34, tn3, tz3, rfl, by decide, by kernel_rfl, by decide, ty3⟩
theorem tE111 : ElemOk Tryd.prog 111 9 1 [(Value.string { data := #[] })] (.raw (Value.string { data := #[] })) 16 := ⟨te111, tn9, tz9, rfl, by decide, by kernel_rfl, by decide, ty9⟩
theorem cb11 : callable Tryd.prog 11 = true := by kernel_rfl
theorem cb12 : callable Tryd.prog 12 = true := by kernel_rfl
theorem cb13 : callable Tryd.prog 13 = true := by kernel_rfl
theorem cb14 : callable Tryd.prog 14 = true := by kernel_rfl
theorem cb15 : callable Tryd.prog 15 = true := by kernel_rfl
theorem cb16 : callable Tryd.prog 16 = true := by kernel_rfl
theorem cb17 : callable Tryd.prog 17 = true := by kernel_rfl
theorem cb18 : callable Tryd.prog 18 = true := by kernel_rfl
theorem cb19 : callable Tryd.prog 19 = true := by kernel_rfl
theorem cb20 : callable Tryd.prog 20 = true := by kernel_rfl
theorem cb21 : callable Tryd.prog 21 = true := by kernel_rfl
theorem cb22 : callable Tryd.prog 22 = true := by kernel_rfl
theorem cb23 : callable Tryd.prog 23 = true := by kernel_rfl
theorem cb24 : callable Tryd.prog 24 = true := by kernel_rfl
theorem cb25 : callable Tryd.prog 25 = true := by kernel_rfl
theorem cb26 : callable Tryd.prog 26 = true := by kernel_rfl
theorem cb27 : callable Tryd.prog 27 = true := by kernel_rfl
theorem cb28 : callable Tryd.prog 28 = true := by kernel_rfl
theorem cb29 : callable Tryd.prog 29 = true := by kernel_rfl
theorem cb30 : callable Tryd.prog 30 = true := by kernel_rfl
theorem cb31 : callable Tryd.prog 31 = true := by kernel_rfl
theorem cb32 : callable Tryd.prog 32 = true := by kernel_rfl
theorem cb33 : callable Tryd.prog 33 = true := by kernel_rfl
theorem cb34 : callable Tryd.prog 34 = true := by kernel_rfl
theorem cb35 : callable Tryd.prog 35 = true := by kernel_rfl
theorem cb36 : callable Tryd.prog 36 = true := by kernel_rfl
theorem cb37 : callable Tryd.prog 37 = true := by kernel_rfl
theorem cb38 : callable Tryd.prog 38 = true := by kernel_rfl
theorem cb39 : callable Tryd.prog 39 = true := by kernel_rfl
theorem cb40 : callable Tryd.prog 40 = true := by kernel_rfl
theorem cb41 : callable Tryd.prog 41 = true := by kernel_rfl
theorem cb42 : callable Tryd.prog 42 = true := by kernel_rfl
theorem cb43 : callable Tryd.prog 43 = true := by kernel_rfl
theorem cb44 : callable Tryd.prog 44 = true := by kernel_rfl
theorem cb45 : callable Tryd.prog 45 = true := by kernel_rfl
theorem cb46 : callable Tryd.prog 46 = true := by kernel_rfl
theorem cb47 : callable Tryd.prog 47 = true := by kernel_rfl
theorem cb48 : callable Tryd.prog 48 = true := by kernel_rfl
theorem cb49 : callable Tryd.prog 49 = true := by kernel_rfl
theorem cb50 : callable Tryd.prog 50 = true := by kernel_rfl
theorem cb51 : callable Tryd.prog 51 = true := by kernel_rfl
theorem cb52 : callable Tryd.prog 52 = true := by kernel_rfl
theorem cb53 : callable Tryd.prog 53 = true := by kernel_rfl
theorem cb54 : callable Tryd.prog 54 = true := by kernel_rfl
theorem cb55 : callable Tryd.prog 55 = true := by kernel_rfl
theorem cb56 : callable Tryd.prog 56 = true := by kernel_rfl
theorem cb57 : callable Tryd.prog 57 = true := by kernel_rfl
theorem cb58 : callable Tryd.prog 58 = true := by kernel_rfl
theorem cb59 : callable Tryd.prog 59 = true := by kernel_rfl
theorem cb60 : callable Tryd.prog 60 = true := by kernel_rfl
theorem cb61 : callable Tryd.prog 61 = true := by kernel_rfl
theorem cb62 : callable Tryd.prog 62 = true := by kernel_rfl
theorem cb63 : callable Tryd.prog 63 = true := by kernel_rfl
theorem cb64 : callable Tryd.prog 64 = true := by kernel_rfl
theorem cb65 : callable Tryd.prog 65 = true := by kernel_rfl
theorem cb66 : callable Tryd.prog 66 = true := by kernel_rfl
theorem cb67 : callable Tryd.prog 67 = true := by kernel_rfl
theorem cb68 : callable Tryd.prog 68 = true := by kernel_rfl
theorem cb69 : callable Tryd.prog 69 = true := by kernel_rfl
theorem cb70 : callable Tryd.prog 70 = true := by kernel_rfl
theorem cb71 : callable Tryd.prog 71 = true := by kernel_rfl
theorem cb72 : callable Tryd.prog 72 = true := by kernel_rfl
theorem cb73 : callable Tryd.prog 73 = true := by kernel_rfl
theorem cb74 : callable Tryd.prog 74 = true := by kernel_rfl
theorem cb75 : callable Tryd.prog 75 = true := by kernel_rfl
theorem cb76 : callable Tryd.prog 76 = true := by kernel_rfl
theorem cb77 : callable Tryd.prog 77 = true := by kernel_rfl
theorem cb78 : callable Tryd.prog 78 = true := by kernel_rfl
theorem cb79 : callable Tryd.prog 79 = true := by kernel_rfl
theorem cb80 : callable Tryd.prog 80 = true := by kernel_rfl
theorem cb81 : callable Tryd.prog 81 = true := by kernel_rfl
theorem cb82 : callable Tryd.prog 82 = true := by kernel_rfl
theorem cb83 : callable Tryd.prog 83 = true := by kernel_rfl
theorem cb84 : callable Tryd.prog 84 = true := by kernel_rfl
theorem cb85 : callable Tryd.prog 85 = true := by kernel_rfl
theorem cb86 : callable Tryd.prog 86 = true := by kernel_rfl
theorem cb87 : callable Tryd.prog 87 = true := by kernel_rfl
theorem cb88 : callable Tryd.prog 88 = true := by kernel_rfl
theorem cb89 : callable Tryd.prog 89 = true := by kernel_rfl
theorem cb90 : callable Tryd.prog 90 = true := by kernel_rfl
theorem cb91 : callable Tryd.prog 91 = true := by kernel_rfl
theorem cb92 : callable Tryd.prog 92 = true := by kernel_rfl
theorem cb93 : callable Tryd.prog 93 = true := by kernel_rfl
theorem cb94 : callable Tryd.prog 94 = true := by kernel_rfl
theorem cb95 : callable Tryd.prog 95 = true := by kernel_rfl
theorem cb96 : callable Tryd.prog 96 = true := by kernel_rfl
theorem cb97 : callable Tryd.prog 97 = true := by kernel_rfl
theorem cb98 : callable Tryd.prog 98 = true := by kernel_rfl
theorem cb99 : callable Tryd.prog 99 = true := by kernel_rfl
theorem cb100 : callable Tryd.prog 100 = true := by kernel_rfl
theorem cb101 : callable Tryd.prog 101 = true := by kernel_rfl
theorem cb102 : callable Tryd.prog 102 = true := by kernel_rfl
theorem cb103 : callable Tryd.prog 103 = true := by kernel_rfl
theorem cb104 : callable Tryd.prog 104 = true := by kernel_rfl
theorem cb105 : callable Tryd.prog 105 = true := by kernel_rfl
theorem cb106 : callable Tryd.prog 106 = true := by kernel_rfl
theorem cb107 : callable Tryd.prog 107 = true := by kernel_rfl
theorem cb108 : callable Tryd.prog 108 = true := by kernel_rfl
theorem cb109 : callable Tryd.prog 109 = true := by kernel_rfl
theorem cb110 : callable Tryd.prog 110 = true := by kernel_rfl
theorem cb111 : callable Tryd.prog 111 = true := by kernel_rfl
theorem cb112 : callable Tryd.prog 112 = true := by kernel_rfl
theorem cb113 : callable Tryd.prog 113 = true := by kernel_rfl
theorem cb114 : callable Tryd.prog 114 = true := by kernel_rfl
theorem cb115 : callable Tryd.prog 115 = true := by kernel_rfl
theorem cb116 : callable Tryd.prog 116 = true := by kernel_rfl
theorem cb117 : callable Tryd.prog 117 = true := by kernel_rfl
theorem mo : Tryd.prog.follows .mixedOrders = true := by kernel_rfl
end Go.Ab.D
