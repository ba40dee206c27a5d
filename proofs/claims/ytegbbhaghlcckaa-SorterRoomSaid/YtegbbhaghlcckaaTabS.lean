/- Facts about the types of this program, by the kernel, without conditions. -/
import Derived.Test.YtegbbhaghlcckaaGC
import Derived.KernelRfl
import Derived.Test.YtegbbhaghlcckaaProg
set_option linter.unusedSimpArgs false
set_option linter.unusedVariables false
namespace Go.Ab.S
open Go Go.Ab Go.Proofs
theorem tg3 : tagg Try.prog 3 = some false := by kernel_rfl
theorem tg4 : tagg Try.prog 4 = some false := by kernel_rfl
theorem tg5 : tagg Try.prog 5 = some false := by kernel_rfl
theorem tg9 : tagg Try.prog 9 = some false := by kernel_rfl
theorem tg22 : tagg Try.prog 22 = some false := by kernel_rfl
theorem tg23 : tagg Try.prog 23 = some false := by kernel_rfl
theorem tg25 : tagg Try.prog 25 = some true := by kernel_rfl
theorem tg26 : tagg Try.prog 26 = some false := by kernel_rfl
theorem tg27 : tagg Try.prog 27 = some false := by kernel_rfl
theorem tg28 : tagg Try.prog 28 = some false := by kernel_rfl
theorem tg29 : tagg Try.prog 29 = some false := by kernel_rfl
theorem tg31 : tagg Try.prog 31 = some true := by kernel_rfl
theorem tg34 : tagg Try.prog 34 = some false := by kernel_rfl
theorem tg37 : tagg Try.prog 37 = some true := by kernel_rfl
theorem tg38 : tagg Try.prog 38 = some false := by kernel_rfl
theorem tg40 : tagg Try.prog 40 = some true := by kernel_rfl
theorem tg45 : tagg Try.prog 45 = some true := by kernel_rfl
theorem tg46 : tagg Try.prog 46 = some false := by kernel_rfl
theorem tg48 : tagg Try.prog 48 = some true := by kernel_rfl
theorem tg49 : tagg Try.prog 49 = some false := by kernel_rfl
theorem tg51 : tagg Try.prog 51 = some true := by kernel_rfl
theorem tg57 : tagg Try.prog 57 = some false := by kernel_rfl
theorem tg58 : tagg Try.prog 58 = some false := by kernel_rfl
theorem tg60 : tagg Try.prog 60 = some true := by kernel_rfl
theorem tg62 : tagg Try.prog 62 = some true := by kernel_rfl
theorem tg75 : tagg Try.prog 75 = some true := by kernel_rfl
theorem tg79 : tagg Try.prog 79 = some true := by kernel_rfl
theorem tg82 : tagg Try.prog 82 = some true := by kernel_rfl
theorem tg89 : tagg Try.prog 89 = some true := by kernel_rfl
theorem tg94 : tagg Try.prog 94 = some true := by kernel_rfl
theorem tg97 : tagg Try.prog 97 = some false := by kernel_rfl
theorem tg98 : tagg Try.prog 98 = some false := by kernel_rfl
theorem tg99 : tagg Try.prog 99 = some false := by kernel_rfl
theorem tg101 : tagg Try.prog 101 = some true := by kernel_rfl
theorem tg103 : tagg Try.prog 103 = some false := by kernel_rfl
theorem tg104 : tagg Try.prog 104 = some false := by kernel_rfl
theorem tg105 : tagg Try.prog 105 = some false := by kernel_rfl
theorem tg107 : tagg Try.prog 107 = some true := by kernel_rfl
theorem tg112 : tagg Try.prog 112 = some true := by kernel_rfl
theorem tg118 : tagg Try.prog 118 = some false := by kernel_rfl
theorem tg119 : tagg Try.prog 119 = some false := by kernel_rfl
theorem tg121 : tagg Try.prog 121 = some true := by kernel_rfl
theorem tg125 : tagg Try.prog 125 = some false := by kernel_rfl
theorem tg137 : tagg Try.prog 137 = some true := by kernel_rfl
theorem tg140 : tagg Try.prog 140 = some true := by kernel_rfl
theorem tg141 : tagg Try.prog 141 = some false := by kernel_rfl
theorem tg143 : tagg Try.prog 143 = some true := by kernel_rfl
theorem tg147 : tagg Try.prog 147 = some false := by kernel_rfl
theorem tg149 : tagg Try.prog 149 = some true := by kernel_rfl
theorem tg152 : tagg Try.prog 152 = some true := by kernel_rfl
theorem tg156 : tagg Try.prog 156 = some true := by kernel_rfl
theorem tg158 : tagg Try.prog 158 = some true := by kernel_rfl
theorem tg162 : tagg Try.prog 162 = some true := by kernel_rfl
theorem tg167 : tagg Try.prog 167 = some false := by kernel_rfl
theorem tg169 : tagg Try.prog 169 = some true := by kernel_rfl
theorem tg172 : tagg Try.prog 172 = some true := by kernel_rfl
theorem tg173 : tagg Try.prog 173 = some false := by kernel_rfl
theorem tg187 : tagg Try.prog 187 = some false := by kernel_rfl
theorem tg196 : tagg Try.prog 196 = some false := by kernel_rfl
theorem tg198 : tagg Try.prog 198 = some true := by kernel_rfl
theorem tg199 : tagg Try.prog 199 = some true := by kernel_rfl
theorem tg200 : tagg Try.prog 200 = some true := by kernel_rfl
theorem tg201 : tagg Try.prog 201 = some false := by kernel_rfl
theorem tg202 : tagg Try.prog 202 = some false := by kernel_rfl
theorem tg204 : tagg Try.prog 204 = some true := by kernel_rfl
theorem tg205 : tagg Try.prog 205 = some true := by kernel_rfl
theorem tg206 : tagg Try.prog 206 = some true := by kernel_rfl
theorem tg208 : tagg Try.prog 208 = some false := by kernel_rfl
theorem tg209 : tagg Try.prog 209 = some false := by kernel_rfl
theorem tg211 : tagg Try.prog 211 = some true := by kernel_rfl
theorem tg213 : tagg Try.prog 213 = some true := by kernel_rfl
theorem tg219 : tagg Try.prog 219 = some false := by kernel_rfl
theorem tg235 : tagg Try.prog 235 = some false := by kernel_rfl
theorem tg240 : tagg Try.prog 240 = some true := by kernel_rfl
theorem tg265 : tagg Try.prog 265 = some true := by kernel_rfl
theorem tg273 : tagg Try.prog 273 = some true := by kernel_rfl
theorem tg278 : tagg Try.prog 278 = some true := by kernel_rfl
theorem tg279 : tagg Try.prog 279 = some false := by kernel_rfl
theorem tg280 : tagg Try.prog 280 = some true := by kernel_rfl
theorem tg314 : tagg Try.prog 314 = some false := by kernel_rfl
theorem tn3 : tsize Try.prog 3 = some 1 := by kernel_rfl
theorem tn4 : tsize Try.prog 4 = some 1 := by kernel_rfl
theorem tn5 : tsize Try.prog 5 = some 1 := by kernel_rfl
theorem tn9 : tsize Try.prog 9 = some 1 := by kernel_rfl
theorem tn22 : tsize Try.prog 22 = some 1 := by kernel_rfl
theorem tn23 : tsize Try.prog 23 = some 1 := by kernel_rfl
theorem tn25 : tsize Try.prog 25 = some 4 := by kernel_rfl
theorem tn26 : tsize Try.prog 26 = some 1 := by kernel_rfl
theorem tn27 : tsize Try.prog 27 = some 1 := by kernel_rfl
theorem tn28 : tsize Try.prog 28 = some 1 := by kernel_rfl
theorem tn29 : tsize Try.prog 29 = some 1 := by kernel_rfl
theorem tn31 : tsize Try.prog 31 = some 4 := by kernel_rfl
theorem tn34 : tsize Try.prog 34 = some 1 := by kernel_rfl
theorem tn37 : tsize Try.prog 37 = some 7 := by kernel_rfl
theorem tn38 : tsize Try.prog 38 = some 1 := by kernel_rfl
theorem tn40 : tsize Try.prog 40 = some 8 := by kernel_rfl
theorem tn45 : tsize Try.prog 45 = some 4 := by kernel_rfl
theorem tn46 : tsize Try.prog 46 = some 1 := by kernel_rfl
theorem tn48 : tsize Try.prog 48 = some 2 := by kernel_rfl
theorem tn49 : tsize Try.prog 49 = some 1 := by kernel_rfl
theorem tn51 : tsize Try.prog 51 = some 4 := by kernel_rfl
theorem tn57 : tsize Try.prog 57 = some 1 := by kernel_rfl
theorem tn58 : tsize Try.prog 58 = some 1 := by kernel_rfl
theorem tn60 : tsize Try.prog 60 = some 5 := by kernel_rfl
theorem tn62 : tsize Try.prog 62 = some 11 := by kernel_rfl
theorem tn75 : tsize Try.prog 75 = some 2 := by kernel_rfl
theorem tn79 : tsize Try.prog 79 = some 3 := by kernel_rfl
theorem tn82 : tsize Try.prog 82 = some 5 := by kernel_rfl
theorem tn89 : tsize Try.prog 89 = some 4 := by kernel_rfl
theorem tn94 : tsize Try.prog 94 = some 3 := by kernel_rfl
theorem tn97 : tsize Try.prog 97 = some 1 := by kernel_rfl
theorem tn98 : tsize Try.prog 98 = some 1 := by kernel_rfl
theorem tn99 : tsize Try.prog 99 = some 1 := by kernel_rfl
theorem tn101 : tsize Try.prog 101 = some 3 := by kernel_rfl
theorem tn103 : tsize Try.prog 103 = some 1 := by kernel_rfl
theorem tn104 : tsize Try.prog 104 = some 1 := by kernel_rfl
theorem tn105 : tsize Try.prog 105 = some 1 := by kernel_rfl
theorem tn107 : tsize Try.prog 107 = some 3 := by kernel_rfl
theorem tn112 : tsize Try.prog 112 = some 3 := by kernel_rfl
theorem tn118 : tsize Try.prog 118 = some 1 := by kernel_rfl
theorem tn119 : tsize Try.prog 119 = some 1 := by kernel_rfl
theorem tn121 : tsize Try.prog 121 = some 6 := by kernel_rfl
theorem tn125 : tsize Try.prog 125 = some 1 := by kernel_rfl
theorem tn137 : tsize Try.prog 137 = some 4 := by kernel_rfl
theorem tn140 : tsize Try.prog 140 = some 3 := by kernel_rfl
theorem tn141 : tsize Try.prog 141 = some 1 := by kernel_rfl
theorem tn143 : tsize Try.prog 143 = some 10 := by kernel_rfl
theorem tn147 : tsize Try.prog 147 = some 1 := by kernel_rfl
theorem tn149 : tsize Try.prog 149 = some 5 := by kernel_rfl
theorem tn152 : tsize Try.prog 152 = some 2 := by kernel_rfl
theorem tn156 : tsize Try.prog 156 = some 3 := by kernel_rfl
theorem tn158 : tsize Try.prog 158 = some 2 := by kernel_rfl
theorem tn162 : tsize Try.prog 162 = some 2 := by kernel_rfl
theorem tn167 : tsize Try.prog 167 = some 1 := by kernel_rfl
theorem tn169 : tsize Try.prog 169 = some 5 := by kernel_rfl
theorem tn172 : tsize Try.prog 172 = some 6 := by kernel_rfl
theorem tn173 : tsize Try.prog 173 = some 1 := by kernel_rfl
theorem tn187 : tsize Try.prog 187 = some 1 := by kernel_rfl
theorem tn196 : tsize Try.prog 196 = some 1 := by kernel_rfl
theorem tn198 : tsize Try.prog 198 = some 5 := by kernel_rfl
theorem tn199 : tsize Try.prog 199 = some 2 := by kernel_rfl
theorem tn200 : tsize Try.prog 200 = some 3 := by kernel_rfl
theorem tn201 : tsize Try.prog 201 = some 1 := by kernel_rfl
theorem tn202 : tsize Try.prog 202 = some 1 := by kernel_rfl
theorem tn204 : tsize Try.prog 204 = some 6 := by kernel_rfl
theorem tn205 : tsize Try.prog 205 = some 2 := by kernel_rfl
theorem tn206 : tsize Try.prog 206 = some 2 := by kernel_rfl
theorem tn208 : tsize Try.prog 208 = some 1 := by kernel_rfl
theorem tn209 : tsize Try.prog 209 = some 1 := by kernel_rfl
theorem tn211 : tsize Try.prog 211 = some 5 := by kernel_rfl
theorem tn213 : tsize Try.prog 213 = some 10 := by kernel_rfl
theorem tn219 : tsize Try.prog 219 = some 1 := by kernel_rfl
theorem tn235 : tsize Try.prog 235 = some 1 := by kernel_rfl
theorem tn240 : tsize Try.prog 240 = some 3 := by kernel_rfl
theorem tn265 : tsize Try.prog 265 = some 4 := by kernel_rfl
theorem tn273 : tsize Try.prog 273 = some 2 := by kernel_rfl
theorem tn278 : tsize Try.prog 278 = some 4 := by kernel_rfl
theorem tn279 : tsize Try.prog 279 = some 1 := by kernel_rfl
theorem tn280 : tsize Try.prog 280 = some 3 := by kernel_rfl
theorem tn314 : tsize Try.prog 314 = some 1 := by kernel_rfl
theorem ty3 : tbytes Try.prog 3 = some 8 := by kernel_rfl
theorem ty5 : tbytes Try.prog 5 = some 1 := by kernel_rfl
theorem ty9 : tbytes Try.prog 9 = some 16 := by kernel_rfl
theorem ty34 : tbytes Try.prog 34 = some 24 := by kernel_rfl
theorem ty37 : tbytes Try.prog 37 = some 64 := by kernel_rfl
theorem ty40 : tbytes Try.prog 40 = some 80 := by kernel_rfl
theorem ty45 : tbytes Try.prog 45 = some 24 := by kernel_rfl
theorem ty48 : tbytes Try.prog 48 = some 16 := by kernel_rfl
theorem ty60 : tbytes Try.prog 60 = some 120 := by kernel_rfl
theorem ty75 : tbytes Try.prog 75 = some 16 := by kernel_rfl
theorem ty79 : tbytes Try.prog 79 = some 24 := by kernel_rfl
theorem ty89 : tbytes Try.prog 89 = some 32 := by kernel_rfl
theorem ty121 : tbytes Try.prog 121 = some 96 := by kernel_rfl
theorem ty125 : tbytes Try.prog 125 = some 8 := by kernel_rfl
theorem ty140 : tbytes Try.prog 140 = some 24 := by kernel_rfl
theorem ty143 : tbytes Try.prog 143 = some 192 := by kernel_rfl
theorem ty149 : tbytes Try.prog 149 = some 72 := by kernel_rfl
theorem ty152 : tbytes Try.prog 152 = some 16 := by kernel_rfl
theorem ty156 : tbytes Try.prog 156 = some 24 := by kernel_rfl
theorem ty158 : tbytes Try.prog 158 = some 16 := by kernel_rfl
theorem ty162 : tbytes Try.prog 162 = some 16 := by kernel_rfl
theorem ty169 : tbytes Try.prog 169 = some 72 := by kernel_rfl
theorem ty172 : tbytes Try.prog 172 = some 88 := by kernel_rfl
theorem ty198 : tbytes Try.prog 198 = some 72 := by kernel_rfl
theorem ty199 : tbytes Try.prog 199 = some 16 := by kernel_rfl
theorem ty200 : tbytes Try.prog 200 = some 24 := by kernel_rfl
theorem ty204 : tbytes Try.prog 204 = some 96 := by kernel_rfl
theorem ty205 : tbytes Try.prog 205 = some 16 := by kernel_rfl
theorem ty206 : tbytes Try.prog 206 = some 16 := by kernel_rfl
theorem ty213 : tbytes Try.prog 213 = some 192 := by kernel_rfl
theorem ty240 : tbytes Try.prog 240 = some 24 := by kernel_rfl
theorem ty273 : tbytes Try.prog 273 = some 16 := by kernel_rfl
theorem ty278 : tbytes Try.prog 278 = some 32 := by kernel_rfl
theorem ty280 : tbytes Try.prog 280 = some 24 := by kernel_rfl
theorem tz3 : tzero Try.prog 3 = some [(Value.int IntKind.i64 0)] := by kernel_rfl
theorem tz5 : tzero Try.prog 5 = some [(Value.int IntKind.u8 0)] := by kernel_rfl
theorem tz9 : tzero Try.prog 9 = some [(Value.string { data := #[] })] := by kernel_rfl
theorem tz25 : tzero Try.prog 25 = some [(Value.int IntKind.u8 0), (Value.int IntKind.u8 0), (Value.slice none 0 0), (Value.slice none 0 0)] := by kernel_rfl
theorem tz31 : tzero Try.prog 31 = some [(Value.slice none 0 0), (Value.slice none 0 0), (Value.slice none 0 0), (Value.slice none 0 0)] := by kernel_rfl
theorem tz34 : tzero Try.prog 34 = some [(Value.slice none 0 0)] := by kernel_rfl
theorem tz37 : tzero Try.prog 37 = some [(Value.int IntKind.i64 0), (Value.int IntKind.i64 0), (Value.int IntKind.i64 0), (Value.int IntKind.i64 0), (Value.int IntKind.u8 0), (Value.string { data := #[] }), (Value.int IntKind.i64 0)] := by kernel_rfl
theorem tz40 : tzero Try.prog 40 = some [(Value.int IntKind.i64 0), (Value.int IntKind.i64 0), (Value.int IntKind.i64 0), (Value.int IntKind.i64 0), (Value.string { data := #[] }), (Value.string { data := #[] }), (Value.int IntKind.i64 0), (Value.int IntKind.i64 0)] := by kernel_rfl
theorem tz45 : tzero Try.prog 45 = some [(Value.int IntKind.i64 0), (Value.int IntKind.i64 0), (Value.bool false), (Value.bool false)] := by kernel_rfl
theorem tz46 : tzero Try.prog 46 = some [(Value.slice none 0 0)] := by kernel_rfl
theorem tz48 : tzero Try.prog 48 = some [(Value.int IntKind.i64 0), (Value.int IntKind.i64 0)] := by kernel_rfl
theorem tz51 : tzero Try.prog 51 = some [(Value.slice none 0 0), (Value.slice none 0 0), (Value.slice none 0 0), (Value.slice none 0 0)] := by kernel_rfl
theorem tz60 : tzero Try.prog 60 = some [(Value.slice none 0 0), (Value.slice none 0 0), (Value.slice none 0 0), (Value.slice none 0 0), (Value.slice none 0 0)] := by kernel_rfl
theorem tz62 : tzero Try.prog 62 = some [(Value.slice none 0 0), (Value.slice none 0 0), (Value.slice none 0 0), (Value.slice none 0 0), (Value.slice none 0 0), (Value.slice none 0 0), (Value.slice none 0 0), (Value.slice none 0 0), (Value.slice none 0 0), (Value.slice none 0 0), (Value.slice none 0 0)] := by kernel_rfl
theorem tz75 : tzero Try.prog 75 = some [(Value.int IntKind.i64 0), (Value.int IntKind.i64 0)] := by kernel_rfl
theorem tz79 : tzero Try.prog 79 = some [(Value.int IntKind.u8 0), (Value.int IntKind.i64 0), (Value.int IntKind.i64 0)] := by kernel_rfl
theorem tz82 : tzero Try.prog 82 = some [(Value.slice none 0 0), (Value.slice none 0 0), (Value.slice none 0 0), (Value.slice none 0 0), (Value.int IntKind.u8 0)] := by kernel_rfl
theorem tz89 : tzero Try.prog 89 = some [(Value.int IntKind.i64 0), (Value.int IntKind.i64 0), (Value.int IntKind.i64 0), (Value.int IntKind.i64 0)] := by kernel_rfl
theorem tz94 : tzero Try.prog 94 = some [(Value.slice none 0 0), (Value.slice none 0 0), (Value.slice none 0 0)] := by kernel_rfl
theorem tz101 : tzero Try.prog 101 = some [(Value.slice none 0 0), (Value.slice none 0 0), (Value.slice none 0 0)] := by kernel_rfl
theorem tz107 : tzero Try.prog 107 = some [(Value.slice none 0 0), (Value.slice none 0 0), (Value.slice none 0 0)] := by kernel_rfl
theorem tz112 : tzero Try.prog 112 = some [(Value.int IntKind.u8 0), (Value.int IntKind.i64 0), (Value.int IntKind.i64 0)] := by kernel_rfl
theorem tz121 : tzero Try.prog 121 = some [(Value.int IntKind.i64 0), (Value.int IntKind.i64 0), (Value.int IntKind.i64 0), (Value.slice none 0 0), (Value.slice none 0 0), (Value.slice none 0 0)] := by kernel_rfl
theorem tz125 : tzero Try.prog 125 = some [(Value.pointer none)] := by kernel_rfl
theorem tz137 : tzero Try.prog 137 = some [(Value.slice none 0 0), (Value.slice none 0 0), (Value.slice none 0 0), (Value.slice none 0 0)] := by kernel_rfl
theorem tz140 : tzero Try.prog 140 = some [(Value.int IntKind.i64 0), (Value.int IntKind.i64 0), (Value.int IntKind.i64 0)] := by kernel_rfl
theorem tz141 : tzero Try.prog 141 = some [(Value.slice none 0 0)] := by kernel_rfl
theorem tz143 : tzero Try.prog 143 = some [(Value.int IntKind.i64 0), (Value.int IntKind.i64 0), (Value.int IntKind.i64 0), (Value.slice none 0 0), (Value.slice none 0 0), (Value.slice none 0 0), (Value.slice none 0 0), (Value.slice none 0 0), (Value.slice none 0 0), (Value.slice none 0 0)] := by kernel_rfl
theorem tz149 : tzero Try.prog 149 = some [(Value.int IntKind.i64 0), (Value.int IntKind.i64 0), (Value.int IntKind.i64 0), (Value.slice none 0 0), (Value.slice none 0 0)] := by kernel_rfl
theorem tz152 : tzero Try.prog 152 = some [(Value.int IntKind.i64 0), (Value.int IntKind.i64 0)] := by kernel_rfl
theorem tz156 : tzero Try.prog 156 = some [(Value.int IntKind.i64 0), (Value.int IntKind.i64 0), (Value.int IntKind.i64 0)] := by kernel_rfl
theorem tz158 : tzero Try.prog 158 = some [(Value.int IntKind.i64 0), (Value.int IntKind.i64 0)] := by kernel_rfl
theorem tz162 : tzero Try.prog 162 = some [(Value.int IntKind.i64 0), (Value.int IntKind.i64 0)] := by kernel_rfl
theorem tz169 : tzero Try.prog 169 = some [(Value.int IntKind.i64 0), (Value.int IntKind.u8 0), (Value.string { data := #[] }), (Value.string { data := #[] }), (Value.slice none 0 0)] := by kernel_rfl
theorem tz172 : tzero Try.prog 172 = some [(Value.int IntKind.i64 0), (Value.int IntKind.i64 0), (Value.string { data := #[] }), (Value.string { data := #[] }), (Value.string { data := #[] }), (Value.slice none 0 0)] := by kernel_rfl
theorem tz187 : tzero Try.prog 187 = some [(Value.map none)] := by kernel_rfl
theorem tz198 : tzero Try.prog 198 = some [(Value.int IntKind.i64 0), (Value.int IntKind.i64 0), (Value.int IntKind.i64 0), (Value.slice none 0 0), (Value.slice none 0 0)] := by kernel_rfl
theorem tz199 : tzero Try.prog 199 = some [(Value.int IntKind.i64 0), (Value.int IntKind.i64 0)] := by kernel_rfl
theorem tz200 : tzero Try.prog 200 = some [(Value.int IntKind.i64 0), (Value.int IntKind.i64 0), (Value.int IntKind.i64 0)] := by kernel_rfl
theorem tz204 : tzero Try.prog 204 = some [(Value.int IntKind.i64 0), (Value.int IntKind.i64 0), (Value.int IntKind.i64 0), (Value.slice none 0 0), (Value.slice none 0 0), (Value.slice none 0 0)] := by kernel_rfl
theorem tz205 : tzero Try.prog 205 = some [(Value.int IntKind.i64 0), (Value.int IntKind.i64 0)] := by kernel_rfl
theorem tz206 : tzero Try.prog 206 = some [(Value.int IntKind.i64 0), (Value.int IntKind.i64 0)] := by kernel_rfl
theorem tz211 : tzero Try.prog 211 = some [(Value.slice none 0 0), (Value.slice none 0 0), (Value.slice none 0 0), (Value.slice none 0 0), (Value.slice none 0 0)] := by kernel_rfl
theorem tz213 : tzero Try.prog 213 = some [(Value.int IntKind.i64 0), (Value.int IntKind.i64 0), (Value.int IntKind.i64 0), (Value.slice none 0 0), (Value.slice none 0 0), (Value.slice none 0 0), (Value.slice none 0 0), (Value.slice none 0 0), (Value.slice none 0 0), (Value.slice none 0 0)] := by kernel_rfl
theorem tz237 : tzero Try.prog 237 = some [(Value.map none), (Value.map none), (Value.map none), (Value.map none), (Value.map none)] := by kernel_rfl
theorem tz240 : tzero Try.prog 240 = some [(Value.int IntKind.i64 0), (Value.int IntKind.i64 0), (Value.int IntKind.i64 0)] := by kernel_rfl
theorem tz253 : tzero Try.prog 253 = some [(Value.slice none 0 0), (Value.slice none 0 0), (Value.slice none 0 0), (Value.slice none 0 0), (Value.slice none 0 0), (Value.slice none 0 0), (Value.slice none 0 0), (Value.int IntKind.i64 0)] := by kernel_rfl
theorem tz265 : tzero Try.prog 265 = some [(Value.int IntKind.i64 0), (Value.int IntKind.i64 0), (Value.int IntKind.i64 0), (Value.int IntKind.i64 0)] := by kernel_rfl
theorem tz273 : tzero Try.prog 273 = some [(Value.int IntKind.i64 0), (Value.int IntKind.i64 0)] := by kernel_rfl
theorem tz278 : tzero Try.prog 278 = some [(Value.int IntKind.i64 0), (Value.int IntKind.i64 0), (Value.int IntKind.i64 0), (Value.int IntKind.i64 0)] := by kernel_rfl
theorem tz279 : tzero Try.prog 279 = some [(Value.slice none 0 0)] := by kernel_rfl
theorem tz280 : tzero Try.prog 280 = some [(Value.int IntKind.u8 0), (Value.int IntKind.i64 0), (Value.int IntKind.i64 0)] := by kernel_rfl
theorem tz314 : tzero Try.prog 314 = some [(Value.int IntKind.u64 0)] := by kernel_rfl
theorem te22 : sliceElem Try.prog 22 = some 5 := by kernel_rfl
theorem te23 : sliceElem Try.prog 23 = some 173 := by kernel_rfl
theorem te26 : sliceElem Try.prog 26 = some 169 := by kernel_rfl
theorem te27 : sliceElem Try.prog 27 = some 172 := by kernel_rfl
theorem te28 : sliceElem Try.prog 28 = some 37 := by kernel_rfl
theorem te29 : sliceElem Try.prog 29 = some 40 := by kernel_rfl
theorem te34 : sliceElem Try.prog 34 = some 3 := by kernel_rfl
theorem te43 : sliceElem Try.prog 43 = some 45 := by kernel_rfl
theorem te46 : sliceElem Try.prog 46 = some 48 := by kernel_rfl
theorem te49 : sliceElem Try.prog 49 = some 89 := by kernel_rfl
theorem te57 : sliceElem Try.prog 57 = some 34 := by kernel_rfl
theorem te58 : sliceElem Try.prog 58 = some 79 := by kernel_rfl
theorem te65 : sliceElem Try.prog 65 = some 60 := by kernel_rfl
theorem te68 : sliceElem Try.prog 68 = some 75 := by kernel_rfl
theorem te97 : sliceElem Try.prog 97 = some 149 := by kernel_rfl
theorem te98 : sliceElem Try.prog 98 = some 140 := by kernel_rfl
theorem te99 : sliceElem Try.prog 99 = some 121 := by kernel_rfl
theorem te103 : sliceElem Try.prog 103 = some 198 := by kernel_rfl
theorem te104 : sliceElem Try.prog 104 = some 200 := by kernel_rfl
theorem te105 : sliceElem Try.prog 105 = some 204 := by kernel_rfl
theorem te118 : sliceElem Try.prog 118 = some 152 := by kernel_rfl
theorem te119 : sliceElem Try.prog 119 = some 162 := by kernel_rfl
theorem te122 : sliceElem Try.prog 122 = some 125 := by kernel_rfl
theorem te129 : sliceElem Try.prog 129 = some 213 := by kernel_rfl
theorem te132 : sliceElem Try.prog 132 = some 143 := by kernel_rfl
theorem te141 : sliceElem Try.prog 141 = some 156 := by kernel_rfl
theorem te147 : sliceElem Try.prog 147 = some 158 := by kernel_rfl
theorem te167 : sliceElem Try.prog 167 = some 9 := by kernel_rfl
theorem te196 : sliceElem Try.prog 196 = some 199 := by kernel_rfl
theorem te201 : sliceElem Try.prog 201 = some 205 := by kernel_rfl
theorem te202 : sliceElem Try.prog 202 = some 206 := by kernel_rfl
theorem te208 : sliceElem Try.prog 208 = some 240 := by kernel_rfl
theorem te209 : sliceElem Try.prog 209 = some 280 := by kernel_rfl
theorem te260 : sliceElem Try.prog 260 = some 273 := by kernel_rfl
theorem te263 : sliceElem Try.prog 263 = some 265 := by kernel_rfl
theorem te279 : sliceElem Try.prog 279 = some 278 := by kernel_rfl
theorem tk3 : intKindOf Try.prog 3 = some IntKind.i64 := by kernel_rfl
theorem tk5 : intKindOf Try.prog 5 = some IntKind.u8 := by kernel_rfl
theorem tk173 : intKindOf Try.prog 173 = some IntKind.u16 := by kernel_rfl
theorem tk296 : intKindOf Try.prog 296 = some IntKind.u64 := by kernel_rfl
theorem tk311 : intKindOf Try.prog 311 = some IntKind.u32 := by kernel_rfl
theorem tk313 : intKindOf Try.prog 313 = some IntKind.u64 := by kernel_rfl
theorem tk314 : intKindOf Try.prog 314 = some IntKind.u64 := by kernel_rfl
theorem tl9 : lenTy Try.prog 9 = some 1 := by kernel_rfl
theorem tl22 : lenTy Try.prog 22 = some 0 := by kernel_rfl
theorem tl23 : lenTy Try.prog 23 = some 0 := by kernel_rfl
theorem tl26 : lenTy Try.prog 26 = some 0 := by kernel_rfl
theorem tl27 : lenTy Try.prog 27 = some 0 := by kernel_rfl
theorem tl28 : lenTy Try.prog 28 = some 0 := by kernel_rfl
theorem tl29 : lenTy Try.prog 29 = some 0 := by kernel_rfl
theorem tl34 : lenTy Try.prog 34 = some 0 := by kernel_rfl
theorem tl38 : lenTy Try.prog 38 = some 2 := by kernel_rfl
theorem tl43 : lenTy Try.prog 43 = some 0 := by kernel_rfl
theorem tl46 : lenTy Try.prog 46 = some 0 := by kernel_rfl
theorem tl49 : lenTy Try.prog 49 = some 0 := by kernel_rfl
theorem tl57 : lenTy Try.prog 57 = some 0 := by kernel_rfl
theorem tl58 : lenTy Try.prog 58 = some 0 := by kernel_rfl
theorem tl65 : lenTy Try.prog 65 = some 0 := by kernel_rfl
theorem tl68 : lenTy Try.prog 68 = some 0 := by kernel_rfl
theorem tl97 : lenTy Try.prog 97 = some 0 := by kernel_rfl
theorem tl98 : lenTy Try.prog 98 = some 0 := by kernel_rfl
theorem tl99 : lenTy Try.prog 99 = some 0 := by kernel_rfl
theorem tl103 : lenTy Try.prog 103 = some 0 := by kernel_rfl
theorem tl104 : lenTy Try.prog 104 = some 0 := by kernel_rfl
theorem tl105 : lenTy Try.prog 105 = some 0 := by kernel_rfl
theorem tl118 : lenTy Try.prog 118 = some 0 := by kernel_rfl
theorem tl119 : lenTy Try.prog 119 = some 0 := by kernel_rfl
theorem tl122 : lenTy Try.prog 122 = some 0 := by kernel_rfl
theorem tl129 : lenTy Try.prog 129 = some 0 := by kernel_rfl
theorem tl132 : lenTy Try.prog 132 = some 0 := by kernel_rfl
theorem tl141 : lenTy Try.prog 141 = some 0 := by kernel_rfl
theorem tl147 : lenTy Try.prog 147 = some 0 := by kernel_rfl
theorem tl196 : lenTy Try.prog 196 = some 0 := by kernel_rfl
theorem tl201 : lenTy Try.prog 201 = some 0 := by kernel_rfl
theorem tl202 : lenTy Try.prog 202 = some 0 := by kernel_rfl
theorem tl208 : lenTy Try.prog 208 = some 0 := by kernel_rfl
theorem tl209 : lenTy Try.prog 209 = some 0 := by kernel_rfl
theorem tl260 : lenTy Try.prog 260 = some 0 := by kernel_rfl
theorem tl263 : lenTy Try.prog 263 = some 0 := by kernel_rfl
theorem tl279 : lenTy Try.prog 279 = some 0 := by kernel_rfl
theorem tp37 : structPlaces Try.prog 37 = some [(0, 1), (1, 1), (2, 1), (3, 1), (4, 1), (5, 1), (6, 1)] := by kernel_rfl
theorem tp40 : structPlaces Try.prog 40 = some [(0, 1), (1, 1), (2, 1), (3, 1), (4, 1), (5, 1), (6, 1), (7, 1)] := by kernel_rfl
theorem tp45 : structPlaces Try.prog 45 = some [(0, 1), (1, 1), (2, 1), (3, 1)] := by kernel_rfl
theorem tp48 : structPlaces Try.prog 48 = some [(0, 1), (1, 1)] := by kernel_rfl
theorem tp51 : structPlaces Try.prog 51 = some [(0, 1), (1, 1), (2, 1), (3, 1)] := by kernel_rfl
theorem tp60 : structPlaces Try.prog 60 = some [(0, 1), (1, 1), (2, 1), (3, 1), (4, 1)] := by kernel_rfl
theorem tp62 : structPlaces Try.prog 62 = some [(0, 5), (5, 5), (10, 1)] := by kernel_rfl
theorem tp75 : structPlaces Try.prog 75 = some [(0, 1), (1, 1)] := by kernel_rfl
theorem tp79 : structPlaces Try.prog 79 = some [(0, 1), (1, 1), (2, 1)] := by kernel_rfl
theorem tp89 : structPlaces Try.prog 89 = some [(0, 1), (1, 1), (2, 1), (3, 1)] := by kernel_rfl
theorem tp94 : structPlaces Try.prog 94 = some [(0, 1), (1, 1), (2, 1)] := by kernel_rfl
theorem tp101 : structPlaces Try.prog 101 = some [(0, 1), (1, 1), (2, 1)] := by kernel_rfl
theorem tp112 : structPlaces Try.prog 112 = some [(0, 1), (1, 1), (2, 1)] := by kernel_rfl
theorem tp121 : structPlaces Try.prog 121 = some [(0, 1), (1, 1), (2, 1), (3, 1), (4, 1), (5, 1)] := by kernel_rfl
theorem tp140 : structPlaces Try.prog 140 = some [(0, 1), (1, 1), (2, 1)] := by kernel_rfl
theorem tp143 : structPlaces Try.prog 143 = some [(0, 1), (1, 1), (2, 1), (3, 1), (4, 1), (5, 5)] := by kernel_rfl
theorem tp149 : structPlaces Try.prog 149 = some [(0, 1), (1, 1), (2, 1), (3, 1), (4, 1)] := by kernel_rfl
theorem tp152 : structPlaces Try.prog 152 = some [(0, 1), (1, 1)] := by kernel_rfl
theorem tp156 : structPlaces Try.prog 156 = some [(0, 1), (1, 1), (2, 1)] := by kernel_rfl
theorem tp158 : structPlaces Try.prog 158 = some [(0, 1), (1, 1)] := by kernel_rfl
theorem tp162 : structPlaces Try.prog 162 = some [(0, 1), (1, 1)] := by kernel_rfl
theorem tp169 : structPlaces Try.prog 169 = some [(0, 1), (1, 1), (2, 1), (3, 1), (4, 1)] := by kernel_rfl
theorem tp172 : structPlaces Try.prog 172 = some [(0, 1), (1, 1), (2, 1), (3, 1), (4, 1), (5, 1)] := by kernel_rfl
theorem tp198 : structPlaces Try.prog 198 = some [(0, 1), (1, 1), (2, 1), (3, 1), (4, 1)] := by kernel_rfl
theorem tp199 : structPlaces Try.prog 199 = some [(0, 1), (1, 1)] := by kernel_rfl
theorem tp200 : structPlaces Try.prog 200 = some [(0, 1), (1, 1), (2, 1)] := by kernel_rfl
theorem tp204 : structPlaces Try.prog 204 = some [(0, 1), (1, 1), (2, 1), (3, 1), (4, 1), (5, 1)] := by kernel_rfl
theorem tp205 : structPlaces Try.prog 205 = some [(0, 1), (1, 1)] := by kernel_rfl
theorem tp206 : structPlaces Try.prog 206 = some [(0, 1), (1, 1)] := by kernel_rfl
theorem tp211 : structPlaces Try.prog 211 = some [(0, 1), (1, 1), (2, 1), (3, 1), (4, 1)] := by kernel_rfl
theorem tp213 : structPlaces Try.prog 213 = some [(0, 1), (1, 1), (2, 1), (3, 1), (4, 1), (5, 5)] := by kernel_rfl
theorem tp237 : structPlaces Try.prog 237 = some [(0, 1), (1, 1), (2, 1), (3, 1), (4, 1)] := by kernel_rfl
theorem tp240 : structPlaces Try.prog 240 = some [(0, 1), (1, 1), (2, 1)] := by kernel_rfl
theorem tp253 : structPlaces Try.prog 253 = some [(0, 5), (5, 1), (6, 1), (7, 1)] := by kernel_rfl
theorem tp273 : structPlaces Try.prog 273 = some [(0, 1), (1, 1)] := by kernel_rfl
theorem tp278 : structPlaces Try.prog 278 = some [(0, 1), (1, 1), (2, 1), (3, 1)] := by kernel_rfl
theorem tp280 : structPlaces Try.prog 280 = some [(0, 1), (1, 1), (2, 1)] := by kernel_rfl
theorem tf25_0 : fieldOff Try.prog 25 0 = some (0, 5) := by kernel_rfl
theorem tf25_1 : fieldOff Try.prog 25 1 = some (1, 5) := by kernel_rfl
theorem tf25_2 : fieldOff Try.prog 25 2 = some (2, 22) := by kernel_rfl
theorem tf25_3 : fieldOff Try.prog 25 3 = some (3, 23) := by kernel_rfl
theorem tf31_0 : fieldOff Try.prog 31 0 = some (0, 26) := by kernel_rfl
theorem tf31_1 : fieldOff Try.prog 31 1 = some (1, 27) := by kernel_rfl
theorem tf31_2 : fieldOff Try.prog 31 2 = some (2, 28) := by kernel_rfl
theorem tf31_3 : fieldOff Try.prog 31 3 = some (3, 29) := by kernel_rfl
theorem tf37_0 : fieldOff Try.prog 37 0 = some (0, 3) := by kernel_rfl
theorem tf37_1 : fieldOff Try.prog 37 1 = some (1, 3) := by kernel_rfl
theorem tf37_2 : fieldOff Try.prog 37 2 = some (2, 3) := by kernel_rfl
theorem tf37_3 : fieldOff Try.prog 37 3 = some (3, 3) := by kernel_rfl
theorem tf37_4 : fieldOff Try.prog 37 4 = some (4, 5) := by kernel_rfl
theorem tf37_6 : fieldOff Try.prog 37 6 = some (6, 3) := by kernel_rfl
theorem tf40_0 : fieldOff Try.prog 40 0 = some (0, 3) := by kernel_rfl
theorem tf40_1 : fieldOff Try.prog 40 1 = some (1, 3) := by kernel_rfl
theorem tf40_2 : fieldOff Try.prog 40 2 = some (2, 3) := by kernel_rfl
theorem tf40_3 : fieldOff Try.prog 40 3 = some (3, 3) := by kernel_rfl
theorem tf40_4 : fieldOff Try.prog 40 4 = some (4, 9) := by kernel_rfl
theorem tf40_5 : fieldOff Try.prog 40 5 = some (5, 9) := by kernel_rfl
theorem tf40_6 : fieldOff Try.prog 40 6 = some (6, 3) := by kernel_rfl
theorem tf40_7 : fieldOff Try.prog 40 7 = some (7, 3) := by kernel_rfl
theorem tf45_0 : fieldOff Try.prog 45 0 = some (0, 3) := by kernel_rfl
theorem tf45_1 : fieldOff Try.prog 45 1 = some (1, 3) := by kernel_rfl
theorem tf45_2 : fieldOff Try.prog 45 2 = some (2, 4) := by kernel_rfl
theorem tf45_3 : fieldOff Try.prog 45 3 = some (3, 4) := by kernel_rfl
theorem tf48_0 : fieldOff Try.prog 48 0 = some (0, 3) := by kernel_rfl
theorem tf48_1 : fieldOff Try.prog 48 1 = some (1, 3) := by kernel_rfl
theorem tf51_0 : fieldOff Try.prog 51 0 = some (0, 34) := by kernel_rfl
theorem tf51_1 : fieldOff Try.prog 51 1 = some (1, 49) := by kernel_rfl
theorem tf51_2 : fieldOff Try.prog 51 2 = some (2, 34) := by kernel_rfl
theorem tf51_3 : fieldOff Try.prog 51 3 = some (3, 34) := by kernel_rfl
theorem tf60_0 : fieldOff Try.prog 60 0 = some (0, 57) := by kernel_rfl
theorem tf60_1 : fieldOff Try.prog 60 1 = some (1, 34) := by kernel_rfl
theorem tf60_2 : fieldOff Try.prog 60 2 = some (2, 34) := by kernel_rfl
theorem tf60_3 : fieldOff Try.prog 60 3 = some (3, 34) := by kernel_rfl
theorem tf60_4 : fieldOff Try.prog 60 4 = some (4, 58) := by kernel_rfl
theorem tf62_0 : fieldOff Try.prog 62 0 = some (0, 60) := by kernel_rfl
theorem tf62_1 : fieldOff Try.prog 62 1 = some (5, 60) := by kernel_rfl
theorem tf62_2 : fieldOff Try.prog 62 2 = some (10, 34) := by kernel_rfl
theorem tf75_0 : fieldOff Try.prog 75 0 = some (0, 3) := by kernel_rfl
theorem tf75_1 : fieldOff Try.prog 75 1 = some (1, 3) := by kernel_rfl
theorem tf79_0 : fieldOff Try.prog 79 0 = some (0, 5) := by kernel_rfl
theorem tf79_1 : fieldOff Try.prog 79 1 = some (1, 3) := by kernel_rfl
theorem tf79_2 : fieldOff Try.prog 79 2 = some (2, 3) := by kernel_rfl
theorem tf82_0 : fieldOff Try.prog 82 0 = some (0, 22) := by kernel_rfl
theorem tf82_1 : fieldOff Try.prog 82 1 = some (1, 22) := by kernel_rfl
theorem tf82_2 : fieldOff Try.prog 82 2 = some (2, 22) := by kernel_rfl
theorem tf82_3 : fieldOff Try.prog 82 3 = some (3, 22) := by kernel_rfl
theorem tf82_4 : fieldOff Try.prog 82 4 = some (4, 5) := by kernel_rfl
theorem tf89_0 : fieldOff Try.prog 89 0 = some (0, 3) := by kernel_rfl
theorem tf89_1 : fieldOff Try.prog 89 1 = some (1, 3) := by kernel_rfl
theorem tf89_2 : fieldOff Try.prog 89 2 = some (2, 3) := by kernel_rfl
theorem tf89_3 : fieldOff Try.prog 89 3 = some (3, 3) := by kernel_rfl
theorem tf94_1 : fieldOff Try.prog 94 1 = some (1, 57) := by kernel_rfl
theorem tf94_2 : fieldOff Try.prog 94 2 = some (2, 34) := by kernel_rfl
theorem tf101_0 : fieldOff Try.prog 101 0 = some (0, 97) := by kernel_rfl
theorem tf101_1 : fieldOff Try.prog 101 1 = some (1, 98) := by kernel_rfl
theorem tf101_2 : fieldOff Try.prog 101 2 = some (2, 99) := by kernel_rfl
theorem tf107_0 : fieldOff Try.prog 107 0 = some (0, 103) := by kernel_rfl
theorem tf107_1 : fieldOff Try.prog 107 1 = some (1, 104) := by kernel_rfl
theorem tf107_2 : fieldOff Try.prog 107 2 = some (2, 105) := by kernel_rfl
theorem tf112_0 : fieldOff Try.prog 112 0 = some (0, 5) := by kernel_rfl
theorem tf112_1 : fieldOff Try.prog 112 1 = some (1, 3) := by kernel_rfl
theorem tf112_2 : fieldOff Try.prog 112 2 = some (2, 3) := by kernel_rfl
theorem tf121_0 : fieldOff Try.prog 121 0 = some (0, 3) := by kernel_rfl
theorem tf121_1 : fieldOff Try.prog 121 1 = some (1, 3) := by kernel_rfl
theorem tf121_2 : fieldOff Try.prog 121 2 = some (2, 3) := by kernel_rfl
theorem tf121_3 : fieldOff Try.prog 121 3 = some (3, 118) := by kernel_rfl
theorem tf121_4 : fieldOff Try.prog 121 4 = some (4, 119) := by kernel_rfl
theorem tf121_5 : fieldOff Try.prog 121 5 = some (5, 34) := by kernel_rfl
theorem tf137_0 : fieldOff Try.prog 137 0 = some (0, 22) := by kernel_rfl
theorem tf137_1 : fieldOff Try.prog 137 1 = some (1, 22) := by kernel_rfl
theorem tf137_2 : fieldOff Try.prog 137 2 = some (2, 22) := by kernel_rfl
theorem tf137_3 : fieldOff Try.prog 137 3 = some (3, 22) := by kernel_rfl
theorem tf140_0 : fieldOff Try.prog 140 0 = some (0, 3) := by kernel_rfl
theorem tf140_1 : fieldOff Try.prog 140 1 = some (1, 3) := by kernel_rfl
theorem tf140_2 : fieldOff Try.prog 140 2 = some (2, 3) := by kernel_rfl
theorem tf143_0 : fieldOff Try.prog 143 0 = some (0, 3) := by kernel_rfl
theorem tf143_1 : fieldOff Try.prog 143 1 = some (1, 3) := by kernel_rfl
theorem tf143_2 : fieldOff Try.prog 143 2 = some (2, 3) := by kernel_rfl
theorem tf143_3 : fieldOff Try.prog 143 3 = some (3, 34) := by kernel_rfl
theorem tf143_4 : fieldOff Try.prog 143 4 = some (4, 141) := by kernel_rfl
theorem tf143_5 : fieldOff Try.prog 143 5 = some (5, 60) := by kernel_rfl
theorem tf149_0 : fieldOff Try.prog 149 0 = some (0, 3) := by kernel_rfl
theorem tf149_1 : fieldOff Try.prog 149 1 = some (1, 3) := by kernel_rfl
theorem tf149_2 : fieldOff Try.prog 149 2 = some (2, 3) := by kernel_rfl
theorem tf149_3 : fieldOff Try.prog 149 3 = some (3, 34) := by kernel_rfl
theorem tf149_4 : fieldOff Try.prog 149 4 = some (4, 147) := by kernel_rfl
theorem tf152_0 : fieldOff Try.prog 152 0 = some (0, 3) := by kernel_rfl
theorem tf152_1 : fieldOff Try.prog 152 1 = some (1, 3) := by kernel_rfl
theorem tf156_0 : fieldOff Try.prog 156 0 = some (0, 3) := by kernel_rfl
theorem tf156_1 : fieldOff Try.prog 156 1 = some (1, 3) := by kernel_rfl
theorem tf156_2 : fieldOff Try.prog 156 2 = some (2, 3) := by kernel_rfl
theorem tf158_0 : fieldOff Try.prog 158 0 = some (0, 3) := by kernel_rfl
theorem tf158_1 : fieldOff Try.prog 158 1 = some (1, 3) := by kernel_rfl
theorem tf162_0 : fieldOff Try.prog 162 0 = some (0, 3) := by kernel_rfl
theorem tf162_1 : fieldOff Try.prog 162 1 = some (1, 3) := by kernel_rfl
theorem tf169_0 : fieldOff Try.prog 169 0 = some (0, 3) := by kernel_rfl
theorem tf169_1 : fieldOff Try.prog 169 1 = some (1, 5) := by kernel_rfl
theorem tf169_2 : fieldOff Try.prog 169 2 = some (2, 9) := by kernel_rfl
theorem tf169_3 : fieldOff Try.prog 169 3 = some (3, 9) := by kernel_rfl
theorem tf169_4 : fieldOff Try.prog 169 4 = some (4, 167) := by kernel_rfl
theorem tf172_0 : fieldOff Try.prog 172 0 = some (0, 3) := by kernel_rfl
theorem tf172_1 : fieldOff Try.prog 172 1 = some (1, 3) := by kernel_rfl
theorem tf172_2 : fieldOff Try.prog 172 2 = some (2, 9) := by kernel_rfl
theorem tf172_4 : fieldOff Try.prog 172 4 = some (4, 9) := by kernel_rfl
theorem tf172_5 : fieldOff Try.prog 172 5 = some (5, 167) := by kernel_rfl
theorem tf198_0 : fieldOff Try.prog 198 0 = some (0, 3) := by kernel_rfl
theorem tf198_1 : fieldOff Try.prog 198 1 = some (1, 3) := by kernel_rfl
theorem tf198_2 : fieldOff Try.prog 198 2 = some (2, 3) := by kernel_rfl
theorem tf198_3 : fieldOff Try.prog 198 3 = some (3, 34) := by kernel_rfl
theorem tf198_4 : fieldOff Try.prog 198 4 = some (4, 196) := by kernel_rfl
theorem tf199_0 : fieldOff Try.prog 199 0 = some (0, 3) := by kernel_rfl
theorem tf199_1 : fieldOff Try.prog 199 1 = some (1, 3) := by kernel_rfl
theorem tf200_0 : fieldOff Try.prog 200 0 = some (0, 3) := by kernel_rfl
theorem tf200_1 : fieldOff Try.prog 200 1 = some (1, 3) := by kernel_rfl
theorem tf200_2 : fieldOff Try.prog 200 2 = some (2, 3) := by kernel_rfl
theorem tf204_0 : fieldOff Try.prog 204 0 = some (0, 3) := by kernel_rfl
theorem tf204_1 : fieldOff Try.prog 204 1 = some (1, 3) := by kernel_rfl
theorem tf204_2 : fieldOff Try.prog 204 2 = some (2, 3) := by kernel_rfl
theorem tf204_3 : fieldOff Try.prog 204 3 = some (3, 201) := by kernel_rfl
theorem tf204_4 : fieldOff Try.prog 204 4 = some (4, 202) := by kernel_rfl
theorem tf204_5 : fieldOff Try.prog 204 5 = some (5, 34) := by kernel_rfl
theorem tf205_0 : fieldOff Try.prog 205 0 = some (0, 3) := by kernel_rfl
theorem tf205_1 : fieldOff Try.prog 205 1 = some (1, 3) := by kernel_rfl
theorem tf206_0 : fieldOff Try.prog 206 0 = some (0, 3) := by kernel_rfl
theorem tf206_1 : fieldOff Try.prog 206 1 = some (1, 3) := by kernel_rfl
theorem tf211_0 : fieldOff Try.prog 211 0 = some (0, 57) := by kernel_rfl
theorem tf211_1 : fieldOff Try.prog 211 1 = some (1, 34) := by kernel_rfl
theorem tf211_2 : fieldOff Try.prog 211 2 = some (2, 34) := by kernel_rfl
theorem tf211_3 : fieldOff Try.prog 211 3 = some (3, 34) := by kernel_rfl
theorem tf211_4 : fieldOff Try.prog 211 4 = some (4, 209) := by kernel_rfl
theorem tf213_0 : fieldOff Try.prog 213 0 = some (0, 3) := by kernel_rfl
theorem tf213_1 : fieldOff Try.prog 213 1 = some (1, 3) := by kernel_rfl
theorem tf213_2 : fieldOff Try.prog 213 2 = some (2, 3) := by kernel_rfl
theorem tf213_3 : fieldOff Try.prog 213 3 = some (3, 34) := by kernel_rfl
theorem tf213_4 : fieldOff Try.prog 213 4 = some (4, 208) := by kernel_rfl
theorem tf213_5 : fieldOff Try.prog 213 5 = some (5, 211) := by kernel_rfl
theorem tf237_0 : fieldOff Try.prog 237 0 = some (0, 219) := by kernel_rfl
theorem tf237_1 : fieldOff Try.prog 237 1 = some (1, 38) := by kernel_rfl
theorem tf237_2 : fieldOff Try.prog 237 2 = some (2, 235) := by kernel_rfl
theorem tf237_3 : fieldOff Try.prog 237 3 = some (3, 38) := by kernel_rfl
theorem tf237_4 : fieldOff Try.prog 237 4 = some (4, 38) := by kernel_rfl
theorem tf240_0 : fieldOff Try.prog 240 0 = some (0, 3) := by kernel_rfl
theorem tf240_1 : fieldOff Try.prog 240 1 = some (1, 3) := by kernel_rfl
theorem tf240_2 : fieldOff Try.prog 240 2 = some (2, 3) := by kernel_rfl
theorem tf253_0 : fieldOff Try.prog 253 0 = some (0, 60) := by kernel_rfl
theorem tf253_1 : fieldOff Try.prog 253 1 = some (5, 34) := by kernel_rfl
theorem tf253_2 : fieldOff Try.prog 253 2 = some (6, 34) := by kernel_rfl
theorem tf253_3 : fieldOff Try.prog 253 3 = some (7, 3) := by kernel_rfl
theorem tf265_0 : fieldOff Try.prog 265 0 = some (0, 3) := by kernel_rfl
theorem tf265_1 : fieldOff Try.prog 265 1 = some (1, 3) := by kernel_rfl
theorem tf265_2 : fieldOff Try.prog 265 2 = some (2, 3) := by kernel_rfl
theorem tf265_3 : fieldOff Try.prog 265 3 = some (3, 3) := by kernel_rfl
theorem tf273_0 : fieldOff Try.prog 273 0 = some (0, 3) := by kernel_rfl
theorem tf273_1 : fieldOff Try.prog 273 1 = some (1, 3) := by kernel_rfl
theorem tf278_0 : fieldOff Try.prog 278 0 = some (0, 3) := by kernel_rfl
theorem tf278_1 : fieldOff Try.prog 278 1 = some (1, 3) := by kernel_rfl
theorem tf278_2 : fieldOff Try.prog 278 2 = some (2, 3) := by kernel_rfl
theorem tf278_3 : fieldOff Try.prog 278 3 = some (3, 3) := by kernel_rfl
theorem tf280_0 : fieldOff Try.prog 280 0 = some (0, 5) := by kernel_rfl
theorem tf280_1 : fieldOff Try.prog 280 1 = some (1, 3) := by kernel_rfl
theorem tf280_2 : fieldOff Try.prog 280 2 = some (2, 3) := by kernel_rfl
theorem tE22 : ElemOk Try.prog 22 5 1 [(Value.int IntKind.u8 0)] (.raw (Value.int IntKind.u8 0)) 1 := ⟨te22, tn5, tz5, rfl, by decide, by kernel_rfl, by decide, ty5⟩
theorem tE26 : ElemOk Try.prog 26 169 5 [(Value.int IntKind.i64 0), (Value.int IntKind.u8 0), (Value.string { data := #[] }), (Value.string { data := #[] }), (Value.slice none 0 0)] (.agg [.raw (Value.int IntKind.i64 0), .raw (Value.int IntKind.u8 0), .raw (Value.string { data := #[] }), .raw (Value.string { data := #[] }), .raw (Value.slice none 0 0)]) 72 := ⟨te26, tn169, tz169, rfl, by decide, by kernel_rfl, by decide, ty169⟩
theorem tE27 : ElemOk Try.prog 27 172 6 [(Value.int IntKind.i64 0), (Value.int IntKind.i64 0), (Value.string { data := #[] }), (Value.string { data := #[] }), (Value.string { data := #[] }), (Value.slice none 0 0)] (.agg [.raw (Value.int IntKind.i64 0), .raw (Value.int IntKind.i64 0), .raw (Value.string { data := #[] }), .raw (Value.string { data := #[] }), .raw (Value.string { data := #[] }), .raw (Value.slice none 0 0)]) 88 := ⟨te27, tn172, tz172, rfl, by decide, by kernel_rfl, by decide, ty172⟩
theorem tE28 : ElemOk Try.prog 28 37 7 [(Value.int IntKind.i64 0), (Value.int IntKind.i64 0), (Value.int IntKind.i64 0), (Value.int IntKind.i64 0), (Value.int IntKind.u8 0), (Value.string { data := #[] }), (Value.int IntKind.i64 0)] (.agg [.raw (Value.int IntKind.i64 0), .raw (Value.int IntKind.i64 0), .raw (Value.int IntKind.i64 0), .raw (Value.int IntKind.i64 0), .raw (Value.int IntKind.u8 0), .raw (Value.string { data := #[] }), .raw (Value.int IntKind.i64 0)]) 64 := ⟨te28, tn37, tz37, rfl, by decide, by kernel_rfl, by decide, ty37⟩
theorem tE29 : ElemOk Try.prog 29 40 8 [(Value.int IntKind.i64 0), (Value.int IntKind.i64 0), (Value.int IntKind.i64 0), (Value.int IntKind.i64 0), (Value.string { data := #[] }), (Value.string { data := #[] }), (Value.int IntKind.i64 0), (Value.int IntKind.i64 0)] (.agg [.raw (Value.int IntKind.i64 0), .raw (Value.int IntKind.i64 0), .raw (Value.int IntKind.i64 0), .raw (Value.int IntKind.i64 0), .raw (Value.string { data := #[] }), .raw (Value.string { data := #[] }), .raw (Value.int IntKind.i64 0), .raw (Value.int IntKind.i64 0)]) 80 := ⟨te29, tn40, tz40, rfl, by decide, by kernel_rfl, by decide, ty40⟩
theorem tE34 : ElemOk Try.prog 34 3 1 [(Value.int IntKind.i64 0)] (.raw (Value.int IntKind.i64 0)) 8 := ⟨te34, tn3, tz3, rfl, by decide, by kernel_rfl, by decide, ty3⟩
theorem tE43 : ElemOk Try.prog 43 45 4 [(Value.int IntKind.i64 0), (Value.int IntKind.i64 0), (Value.bool false), (Value.bool false)] (.agg [.raw (Value.int IntKind.i64 0), .raw (Value.int IntKind.i64 0), .raw (Value.bool false), .raw (Value.bool false)]) 24 := ⟨te43, tn45, tz45, rfl, by decide, by kernel_rfl, by decide, ty45⟩
theorem tE46 : ElemOk Try.prog 46 48 2 [(Value.int IntKind.i64 0), (Value.int IntKind.i64 0)] (.agg [.raw (Value.int IntKind.i64 0), .raw (Value.int IntKind.i64 0)]) 16 := ⟨te46, tn48, tz48, rfl, by decide, by kernel_rfl, by decide, ty48⟩
theorem tE49 : ElemOk Try.prog 49 89 4 [(Value.int IntKind.i64 0), (Value.int IntKind.i64 0), (Value.int IntKind.i64 0), (Value.int IntKind.i64 0)] (.agg [.raw (Value.int IntKind.i64 0), .raw (Value.int IntKind.i64 0), .raw (Value.int IntKind.i64 0), .raw (Value.int IntKind.i64 0)]) 32 := ⟨te49, tn89, tz89, rfl, by decide, by kernel_rfl, by decide, ty89⟩
theorem tE57 : ElemOk Try.prog 57 34 1 [(Value.slice none 0 0)] (.raw (Value.slice none 0 0)) 24 := ⟨te57, tn34, tz34, rfl, by decide, by kernel_rfl, by decide, ty34⟩
theorem tE58 : ElemOk Try.prog 58 79 3 [(Value.int IntKind.u8 0), (Value.int IntKind.i64 0), (Value.int IntKind.i64 0)] (.agg [.raw (Value.int IntKind.u8 0), .raw (Value.int IntKind.i64 0), .raw (Value.int IntKind.i64 0)]) 24 := ⟨te58, tn79, tz79, rfl, by decide, by kernel_rfl, by decide, ty79⟩
theorem tE65 : ElemOk Try.prog 65 60 5 [(Value.slice none 0 0), (Value.slice none 0 0), (Value.slice none 0 0), (Value.slice none 0 0), (Value.slice none 0 0)] (.agg [.raw (Value.slice none 0 0), .raw (Value.slice none 0 0), .raw (Value.slice none 0 0), .raw (Value.slice none 0 0), .raw (Value.slice none 0 0)]) 120 := ⟨te65, tn60, tz60, rfl, by decide, by kernel_rfl, by decide, ty60⟩
theorem tE68 : ElemOk Try.prog 68 75 2 [(Value.int IntKind.i64 0), (Value.int IntKind.i64 0)] (.agg [.raw (Value.int IntKind.i64 0), .raw (Value.int IntKind.i64 0)]) 16 := ⟨te68, tn75, tz75, rfl, by decide, by kernel_rfl, by decide, ty75⟩
theorem tE97 : ElemOk Try.prog 97 149 5 [(Value.int IntKind.i64 0), (Value.int IntKind.i64 0), (Value.int IntKind.i64 0), (Value.slice none 0 0), (Value.slice none 0 0)] (.agg [.raw (Value.int IntKind.i64 0), .raw (Value.int IntKind.i64 0), .raw (Value.int IntKind.i64 0), .raw (Value.slice none 0 0), .raw (Value.slice none 0 0)]) 72 := ⟨te97, tn149, tz149, rfl, by decide, by kernel_rfl, by decide, ty149⟩
theorem tE98 : ElemOk Try.prog 98 140 3 [(Value.int IntKind.i64 0), (Value.int IntKind.i64 0), (Value.int IntKind.i64 0)] (.agg [.raw (Value.int IntKind.i64 0), .raw (Value.int IntKind.i64 0), .raw (Value.int IntKind.i64 0)]) 24 := ⟨te98, tn140, tz140, rfl, by decide, by kernel_rfl, by decide, ty140⟩
theorem tE99 : ElemOk Try.prog 99 121 6 [(Value.int IntKind.i64 0), (Value.int IntKind.i64 0), (Value.int IntKind.i64 0), (Value.slice none 0 0), (Value.slice none 0 0), (Value.slice none 0 0)] (.agg [.raw (Value.int IntKind.i64 0), .raw (Value.int IntKind.i64 0), .raw (Value.int IntKind.i64 0), .raw (Value.slice none 0 0), .raw (Value.slice none 0 0), .raw (Value.slice none 0 0)]) 96 := ⟨te99, tn121, tz121, rfl, by decide, by kernel_rfl, by decide, ty121⟩
theorem tE103 : ElemOk Try.prog 103 198 5 [(Value.int IntKind.i64 0), (Value.int IntKind.i64 0), (Value.int IntKind.i64 0), (Value.slice none 0 0), (Value.slice none 0 0)] (.agg [.raw (Value.int IntKind.i64 0), .raw (Value.int IntKind.i64 0), .raw (Value.int IntKind.i64 0), .raw (Value.slice none 0 0), .raw (Value.slice none 0 0)]) 72 := ⟨te103, tn198, tz198, rfl, by decide, by kernel_rfl, by decide, ty198⟩
theorem tE104 : ElemOk Try.prog 104 200 3 [(Value.int IntKind.i64 0), (Value.int IntKind.i64 0), (Value.int IntKind.i64 0)] (.agg [.raw (Value.int IntKind.i64 0), .raw (Value.int IntKind.i64 0), .raw (Value.int IntKind.i64 0)]) 24 := ⟨te104, tn200, tz200, rfl, by decide, by kernel_rfl, by decide, ty200⟩
theorem tE105 : ElemOk Try.prog 105 204 6 [(Value.int IntKind.i64 0), (Value.int IntKind.i64 0), (Value.int IntKind.i64 0), (Value.slice none 0 0), (Value.slice none 0 0), (Value.slice none 0 0)] (.agg [.raw (Value.int IntKind.i64 0), .raw (Value.int IntKind.i64 0), .raw (Value.int IntKind.i64 0), .raw (Value.slice none 0 0), .raw (Value.slice none 0 0), .raw (Value.slice none 0 0)]) 96 := ⟨te105, tn204, tz204, rfl, by decide, by kernel_rfl, by decide, ty204⟩
theorem tE118 : ElemOk Try.prog 118 152 2 [(Value.int IntKind.i64 0), (Value.int IntKind.i64 0)] (.agg [.raw (Value.int IntKind.i64 0), .raw (Value.int IntKind.i64 0)]) 16 := ⟨te118, tn152, tz152, rfl, by decide, by kernel_rfl, by decide, ty152⟩
theorem tE119 : ElemOk Try.prog 119 162 2 [(Value.int IntKind.i64 0), (Value.int IntKind.i64 0)] (.agg [.raw (Value.int IntKind.i64 0), .raw (Value.int IntKind.i64 0)]) 16 := ⟨te119, tn162, tz162, rfl, by decide, by kernel_rfl, by decide, ty162⟩
theorem tE122 : ElemOk Try.prog 122 125 1 [(Value.pointer none)] (.raw (Value.pointer none)) 8 := ⟨te122, tn125, tz125, rfl, by decide, by kernel_rfl, by decide, ty125⟩
theorem tE129 : ElemOk Try.prog 129 213 10 [(Value.int IntKind.i64 0), (Value.int IntKind.i64 0), (Value.int IntKind.i64 0), (Value.slice none 0 0), (Value.slice none 0 0), (Value.slice none 0 0), (Value.slice none 0 0), (Value.slice none 0 0), (Value.slice none 0 0), (Value.slice none 0 0)] (.agg [.raw (Value.int IntKind.i64 0), .raw (Value.int IntKind.i64 0), .raw (Value.int IntKind.i64 0), .raw (Value.slice none 0 0), .raw (Value.slice none 0 0), .raw (Value.slice none 0 0), .raw (Value.slice none 0 0), .raw (Value.slice none 0 0), .raw (Value.slice none 0 0), .raw (Value.slice none 0 0)]) 192 := ⟨te129, tn213, tz213, rfl, by decide, by kernel_rfl, by decide, ty213⟩
theorem tE132 : ElemOk Try.prog 132 143 10 [(Value.int IntKind.i64 0), (Value.int IntKind.i64 0), (Value.int IntKind.i64 0), (Value.slice none 0 0), (Value.slice none 0 0), (Value.slice none 0 0), (Value.slice none 0 0), (Value.slice none 0 0), (Value.slice none 0 0), (Value.slice none 0 0)] (.agg [.raw (Value.int IntKind.i64 0), .raw (Value.int IntKind.i64 0), .raw (Value.int IntKind.i64 0), .raw (Value.slice none 0 0), .raw (Value.slice none 0 0), .raw (Value.slice none 0 0), .raw (Value.slice none 0 0), .raw (Value.slice none 0 0), .raw (Value.slice none 0 0), .raw (Value.slice none 0 0)]) 192 := ⟨te132, tn143, tz143, rfl, by decide, by kernel_rfl, by decide, ty143⟩
theorem tE141 : ElemOk Try.prog 141 156 3 [(Value.int IntKind.i64 0), (Value.int IntKind.i64 0), (Value.int IntKind.i64 0)] (.agg [.raw (Value.int IntKind.i64 0), .raw (Value.int IntKind.i64 0), .raw (Value.int IntKind.i64 0)]) 24 := ⟨te141, tn156, tz156, rfl, by decide, by kernel_rfl, by decide, ty156⟩
theorem tE147 : ElemOk Try.prog 147 158 2 [(Value.int IntKind.i64 0), (Value.int IntKind.i64 0)] (.agg [.raw (Value.int IntKind.i64 0), .raw (Value.int IntKind.i64 0)]) 16 := ⟨te147, tn158, tz158, rfl, by decide, by kernel_rfl, by decide, ty158⟩
theorem tE167 : ElemOk Try.prog 167 9 1 [(Value.string { data := #[] })] (.raw (Value.string { data := #[] })) 16 := ⟨te167, tn9, tz9, rfl, by decide, by kernel_rfl, by decide, ty9⟩
theorem tE196 : ElemOk Try.prog 196 199 2 [(Value.int IntKind.i64 0), (Value.int IntKind.i64 0)] (.agg [.raw (Value.int IntKind.i64 0), .raw (Value.int IntKind.i64 0)]) 16 := ⟨te196, tn199, tz199, rfl, by decide, by kernel_rfl, by decide, ty199⟩
theorem tE201 : ElemOk Try.prog 201 205 2 [(Value.int IntKind.i64 0), (Value.int IntKind.i64 0)] (.agg [.raw (Value.int IntKind.i64 0), .raw (Value.int IntKind.i64 0)]) 16 := ⟨te201, tn205, tz205, rfl, by decide, by kernel_rfl, by decide, ty205⟩
theorem tE202 : ElemOk Try.prog 202 206 2 [(Value.int IntKind.i64 0), (Value.int IntKind.i64 0)] (.agg [.raw (Value.int IntKind.i64 0), .raw (Value.int IntKind.i64 0)]) 16 := ⟨te202, tn206, tz206, rfl, by decide, by kernel_rfl, by decide, ty206⟩
theorem tE208 : ElemOk Try.prog 208 240 3 [(Value.int IntKind.i64 0), (Value.int IntKind.i64 0), (Value.int IntKind.i64 0)] (.agg [.raw (Value.int IntKind.i64 0), .raw (Value.int IntKind.i64 0), .raw (Value.int IntKind.i64 0)]) 24 := ⟨te208, tn240, tz240, rfl, by decide, by kernel_rfl, by decide, ty240⟩
theorem tE209 : ElemOk Try.prog 209 280 3 [(Value.int IntKind.u8 0), (Value.int IntKind.i64 0), (Value.int IntKind.i64 0)] (.agg [.raw (Value.int IntKind.u8 0), .raw (Value.int IntKind.i64 0), .raw (Value.int IntKind.i64 0)]) 24 := ⟨te209, tn280, tz280, rfl, by decide, by kernel_rfl, by decide, ty280⟩
theorem tE260 : ElemOk Try.prog 260 273 2 [(Value.int IntKind.i64 0), (Value.int IntKind.i64 0)] (.agg [.raw (Value.int IntKind.i64 0), .raw (Value.int IntKind.i64 0)]) 16 := ⟨te260, tn273, tz273, rfl, by decide, by kernel_rfl, by decide, ty273⟩
theorem tE279 : ElemOk Try.prog 279 278 4 [(Value.int IntKind.i64 0), (Value.int IntKind.i64 0), (Value.int IntKind.i64 0), (Value.int IntKind.i64 0)] (.agg [.raw (Value.int IntKind.i64 0), .raw (Value.int IntKind.i64 0), .raw (Value.int IntKind.i64 0), .raw (Value.int IntKind.i64 0)]) 32 := ⟨te279, tn278, tz278, rfl, by decide, by kernel_rfl, by decide, ty278⟩
theorem cb20 : callable Try.prog 20 = true := by kernel_rfl
theorem cb21 : callable Try.prog 21 = true := by kernel_rfl
theorem cb22 : callable Try.prog 22 = true := by kernel_rfl
theorem cb23 : callable Try.prog 23 = true := by kernel_rfl
theorem cb24 : callable Try.prog 24 = true := by kernel_rfl
theorem cb25 : callable Try.prog 25 = true := by kernel_rfl
theorem cb26 : callable Try.prog 26 = true := by kernel_rfl
theorem cb27 : callable Try.prog 27 = true := by kernel_rfl
theorem cb28 : callable Try.prog 28 = true := by kernel_rfl
theorem cb29 : callable Try.prog 29 = true := by kernel_rfl
theorem cb30 : callable Try.prog 30 = true := by kernel_rfl
theorem cb31 : callable Try.prog 31 = true := by kernel_rfl
theorem cb32 : callable Try.prog 32 = true := by kernel_rfl
theorem cb33 : callable Try.prog 33 = true := by kernel_rfl
theorem cb34 : callable Try.prog 34 = true := by kernel_rfl
theorem cb35 : callable Try.prog 35 = true := by kernel_rfl
theorem cb36 : callable Try.prog 36 = true := by kernel_rfl
theorem cb37 : callable Try.prog 37 = true := by kernel_rfl
theorem cb38 : callable Try.prog 38 = true := by kernel_rfl
theorem cb39 : callable Try.prog 39 = true := by kernel_rfl
theorem cb40 : callable Try.prog 40 = true := by kernel_rfl
theorem cb41 : callable Try.prog 41 = true := by kernel_rfl
theorem cb42 : callable Try.prog 42 = true := by kernel_rfl
theorem cb43 : callable Try.prog 43 = true := by kernel_rfl
theorem cb44 : callable Try.prog 44 = true := by kernel_rfl
theorem cb45 : callable Try.prog 45 = true := by kernel_rfl
theorem cb46 : callable Try.prog 46 = true := by kernel_rfl
theorem cb47 : callable Try.prog 47 = true := by kernel_rfl
theorem cb48 : callable Try.prog 48 = true := by kernel_rfl
theorem cb49 : callable Try.prog 49 = true := by kernel_rfl
theorem cb50 : callable Try.prog 50 = true := by kernel_rfl
theorem cb51 : callable Try.prog 51 = true := by kernel_rfl
theorem cb52 : callable Try.prog 52 = true := by kernel_rfl
theorem cb53 : callable Try.prog 53 = true := by kernel_rfl
theorem cb54 : callable Try.prog 54 = true := by kernel_rfl
theorem cb55 : callable Try.prog 55 = true := by kernel_rfl
theorem cb56 : callable Try.prog 56 = true := by kernel_rfl
theorem cb57 : callable Try.prog 57 = true := by kernel_rfl
theorem cb58 : callable Try.prog 58 = true := by kernel_rfl
theorem cb59 : callable Try.prog 59 = true := by kernel_rfl
theorem cb60 : callable Try.prog 60 = true := by kernel_rfl
theorem cb61 : callable Try.prog 61 = true := by kernel_rfl
theorem cb62 : callable Try.prog 62 = true := by kernel_rfl
theorem cb63 : callable Try.prog 63 = true := by kernel_rfl
theorem cb64 : callable Try.prog 64 = true := by kernel_rfl
theorem cb65 : callable Try.prog 65 = true := by kernel_rfl
theorem cb66 : callable Try.prog 66 = true := by kernel_rfl
theorem cb67 : callable Try.prog 67 = true := by kernel_rfl
theorem cb68 : callable Try.prog 68 = true := by kernel_rfl
theorem cb69 : callable Try.prog 69 = true := by kernel_rfl
theorem cb70 : callable Try.prog 70 = true := by kernel_rfl
theorem cb71 : callable Try.prog 71 = true := by kernel_rfl
theorem cb72 : callable Try.prog 72 = true := by kernel_rfl
theorem cb73 : callable Try.prog 73 = true := by kernel_rfl
theorem cb74 : callable Try.prog 74 = true := by kernel_rfl
theorem cb75 : callable Try.prog 75 = true := by kernel_rfl
theorem cb76 : callable Try.prog 76 = true := by kernel_rfl
theorem cb77 : callable Try.prog 77 = true := by kernel_rfl
theorem cb78 : callable Try.prog 78 = true := by kernel_rfl
theorem cb79 : callable Try.prog 79 = true := by kernel_rfl
theorem cb80 : callable Try.prog 80 = true := by kernel_rfl
theorem cb81 : callable Try.prog 81 = true := by kernel_rfl
theorem cb82 : callable Try.prog 82 = true := by kernel_rfl
theorem cb83 : callable Try.prog 83 = true := by kernel_rfl
theorem cb84 : callable Try.prog 84 = true := by kernel_rfl
theorem cb85 : callable Try.prog 85 = true := by kernel_rfl
theorem cb86 : callable Try.prog 86 = true := by kernel_rfl
theorem cb87 : callable Try.prog 87 = true := by kernel_rfl
theorem cb88 : callable Try.prog 88 = true := by kernel_rfl
theorem cb89 : callable Try.prog 89 = true := by kernel_rfl
theorem cb90 : callable Try.prog 90 = true := by kernel_rfl
theorem cb91 : callable Try.prog 91 = true := by kernel_rfl
theorem cb92 : callable Try.prog 92 = true := by kernel_rfl
theorem cb93 : callable Try.prog 93 = true := by kernel_rfl
theorem cb94 : callable Try.prog 94 = true := by kernel_rfl
theorem cb95 : callable Try.prog 95 = true := by kernel_rfl
theorem cb96 : callable Try.prog 96 = true := by kernel_rfl
theorem cb97 : callable Try.prog 97 = true := by kernel_rfl
theorem cb98 : callable Try.prog 98 = true := by kernel_rfl
theorem cb99 : callable Try.prog 99 = true := by kernel_rfl
theorem cb100 : callable Try.prog 100 = true := by kernel_rfl
theorem cb101 : callable Try.prog 101 = true := by kernel_rfl
theorem cb102 : callable Try.prog 102 = true := by kernel_rfl
theorem cb103 : callable Try.prog 103 = true := by kernel_rfl
theorem cb104 : callable Try.prog 104 = true := by kernel_rfl
theorem cb105 : callable Try.prog 105 = true := by kernel_rfl
theorem cb106 : callable Try.prog 106 = true := by kernel_rfl
theorem cb107 : callable Try.prog 107 = true := by kernel_rfl
theorem cb108 : callable Try.prog 108 = true := by kernel_rfl
theorem cb109 : callable Try.prog 109 = true := by kernel_rfl
theorem cb110 : callable Try.prog 110 = true := by kernel_rfl
theorem cb111 : callable Try.prog 111 = true := by kernel_rfl
theorem cb112 : callable Try.prog 112 = true := by kernel_rfl
theorem cb113 : callable Try.prog 113 = true := by kernel_rfl
theorem cb114 : callable Try.prog 114 = true := by kernel_rfl
theorem cb115 : callable Try.prog 115 = true := by kernel_rfl
theorem cb116 : callable Try.prog 116 = true := by kernel_rfl
theorem cb117 : callable Try.prog 117 = true := by kernel_rfl
theorem cb118 : callable Try.prog 118 = true := by kernel_rfl
theorem cb119 : callable Try.prog 119 = true := by kernel_rfl
theorem cb120 : callable Try.prog 120 = true := by kernel_rfl
theorem cb121 : callable Try.prog 121 = true := by kernel_rfl
theorem cb122 : callable Try.prog 122 = true := by kernel_rfl
theorem cb123 : callable Try.prog 123 = true := by kernel_rfl
theorem cb124 : callable Try.prog 124 = true := by kernel_rfl
theorem cb125 : callable Try.prog 125 = true := by kernel_rfl
theorem cb126 : callable Try.prog 126 = true := by kernel_rfl
theorem cb127 : callable Try.prog 127 = true := by kernel_rfl
theorem cb128 : callable Try.prog 128 = true := by kernel_rfl
theorem cb129 : callable Try.prog 129 = true := by kernel_rfl
theorem cb130 : callable Try.prog 130 = true := by kernel_rfl
theorem cb131 : callable Try.prog 131 = true := by kernel_rfl
theorem cb132 : callable Try.prog 132 = true := by kernel_rfl
theorem cb133 : callable Try.prog 133 = true := by kernel_rfl
theorem cb134 : callable Try.prog 134 = true := by kernel_rfl
theorem cb135 : callable Try.prog 135 = true := by kernel_rfl
theorem cb136 : callable Try.prog 136 = true := by kernel_rfl
theorem cb137 : callable Try.prog 137 = true := by kernel_rfl
theorem cb138 : callable Try.prog 138 = true := by kernel_rfl
theorem cb139 : callable Try.prog 139 = true := by kernel_rfl
theorem cb140 : callable Try.prog 140 = true := by kernel_rfl
theorem cb141 : callable Try.prog 141 = true := by kernel_rfl
theorem cb142 : callable Try.prog 142 = true := by kernel_rfl
theorem cb143 : callable Try.prog 143 = true := by kernel_rfl
theorem cb144 : callable Try.prog 144 = true := by kernel_rfl
theorem cb145 : callable Try.prog 145 = true := by kernel_rfl
theorem cb146 : callable Try.prog 146 = true := by kernel_rfl
theorem cb147 : callable Try.prog 147 = true := by kernel_rfl
theorem cb148 : callable Try.prog 148 = true := by kernel_rfl
theorem cb149 : callable Try.prog 149 = true := by kernel_rfl
theorem cb150 : callable Try.prog 150 = true := by kernel_rfl
theorem cb151 : callable Try.prog 151 = true := by kernel_rfl
theorem cb152 : callable Try.prog 152 = true := by kernel_rfl
theorem cb153 : callable Try.prog 153 = true := by kernel_rfl
theorem cb154 : callable Try.prog 154 = true := by kernel_rfl
theorem cb155 : callable Try.prog 155 = true := by kernel_rfl
theorem cb156 : callable Try.prog 156 = true := by kernel_rfl
theorem cb157 : callable Try.prog 157 = true := by kernel_rfl
theorem cb158 : callable Try.prog 158 = true := by kernel_rfl
theorem cb159 : callable Try.prog 159 = true := by kernel_rfl
theorem cb160 : callable Try.prog 160 = true := by kernel_rfl
theorem cb161 : callable Try.prog 161 = true := by kernel_rfl
theorem cb162 : callable Try.prog 162 = true := by kernel_rfl
theorem cb163 : callable Try.prog 163 = true := by kernel_rfl
theorem cb164 : callable Try.prog 164 = true := by kernel_rfl
theorem cb165 : callable Try.prog 165 = true := by kernel_rfl
theorem cb166 : callable Try.prog 166 = true := by kernel_rfl
theorem cb167 : callable Try.prog 167 = true := by kernel_rfl
theorem cb168 : callable Try.prog 168 = true := by kernel_rfl
theorem cb169 : callable Try.prog 169 = true := by kernel_rfl
theorem cb170 : callable Try.prog 170 = true := by kernel_rfl
theorem cb171 : callable Try.prog 171 = true := by kernel_rfl
theorem cb172 : callable Try.prog 172 = true := by kernel_rfl
theorem cb173 : callable Try.prog 173 = true := by kernel_rfl
theorem cb174 : callable Try.prog 174 = true := by kernel_rfl
theorem mo : Try.prog.follows .mixedOrders = true := by kernel_rfl
end Go.Ab.S
